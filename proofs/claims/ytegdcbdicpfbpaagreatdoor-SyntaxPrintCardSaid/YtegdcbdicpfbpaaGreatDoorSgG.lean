/- A part of the proof: C5, C6, C7, C8, CC, Ae31, Ae32, Ae33, Ae34, Ae35, Ae38, XLex, XSyn, XSyn2, XNum. -/
import Derived.Test.YtegdcbdicpfbpaaGreatDoorSgE
import Derived.Test.YtegdcbdicpfbpaaGreatDoorSgF
import Derived.Lib.Bytealg
import Derived.ProofKit
import Derived.OpenShut
import Derived.Carry
import Derived.ChangeSame
import Derived.Below
import Derived.Lib.ItoaMem
set_option maxRecDepth 100000
set_option linter.unusedVariables false
namespace Go.Proofs.YtegdcbdicpfbpaaGreatDoor
open Go.AE
def k_value_Print : AFun := ⟨11, [.tmp 2], (.seq (.region [⟨some 1, none, .box (.tmp 0)⟩,
  ⟨some 2, none, .mov (.const (.str []))⟩])
 (.seq (.seq (.region [⟨some 3, none, .fieldAddr 0 (.tmp 1)⟩,
  ⟨some 4, none, .load 1 false (.tmp 3)⟩,
  ⟨some 5, none, .bin .eql (.tmp 4) (.const (.int .i64 3))⟩])
 (.cond (.tmp 5) (.seq (.region [⟨some 6, none, .fieldAddr 2 (.tmp 1)⟩,
  ⟨some 7, none, .load 1 false (.tmp 6)⟩,
  ⟨some 8, none, .call (.const (.func (.func n_strconv_FormatInt) [] [])) [(.tmp 7), (.const (.int .i64 10))]⟩,
  ⟨some 2, none, .mov (.tmp 8)⟩])
 .ret) .skip))
 (.seq (.region [⟨some 9, none, .fieldAddr 1 (.tmp 1)⟩,
  ⟨some 10, none, .load 1 false (.tmp 9)⟩,
  ⟨some 2, none, .mov (.tmp 10)⟩])
 .ret)))⟩
theorem c_value_Print : (XTab.of Tryz.prog).code 75 = some k_value_Print := by kernel_rfl
def k_value_Atom_p0 : ACode := (.seq (.region [⟨some 11, none, .mov (.tmp 9)⟩,
  ⟨some 12, none, .indexAddr 3 (.tmp 7) (.tmp 9)⟩,
  ⟨some 13, none, .load 3 true (.tmp 12)⟩,
  ⟨some 6, none, .alloc [(.int .i64 0), (.str []), (.int .i64 0)]⟩,
  ⟨some 5, none, .mov (.tmp 11)⟩,
  ⟨none, none, .store 3 (.tmp 6) (.tmp 13)⟩])
 (.seq (.seq (.region [⟨some 14, none, .mov (.tmp 5)⟩,
  ⟨some 15, none, .bin .eql (.tmp 14) (.const (.int .i64 0))⟩])
 (.cond (.tmp 15) (.region [⟨some 16, none, .mov (.tmp 0)⟩,
  ⟨some 17, none, .bin .add (.tmp 16) (.const (.str [40]))⟩,
  ⟨some 0, none, .mov (.tmp 17)⟩]) (.region [⟨some 18, none, .mov (.tmp 0)⟩,
  ⟨some 19, none, .bin .add (.tmp 18) (.const (.str [44, 32]))⟩,
  ⟨some 0, none, .mov (.tmp 19)⟩])))
 (.region [⟨some 20, none, .mov (.tmp 0)⟩,
  ⟨some 21, none, .load 3 true (.tmp 6)⟩,
  ⟨some 22, none, .call (.const (.func (.func n_value_Print) [] [])) [(.tmp 21)]⟩,
  ⟨some 23, none, .bin .add (.tmp 20) (.tmp 22)⟩,
  ⟨some 0, none, .mov (.tmp 23)⟩])))
def k_value_Atom_p1 : ACode := (.seq (.region [⟨some 10, none, .bin .lss (.tmp 9) (.tmp 8)⟩])
 (.seq (.cond (.tmp 10) .skip (.exit 0))
 (.seq (.block 1 k_value_Atom_p0)
 (.region [⟨some 24, none, .bin .add (.tmp 9) (.const (.int .i64 1))⟩,
  ⟨some 9, none, .mov (.tmp 24)⟩]))))
def k_value_Atom : AFun := ⟨31, [.tmp 4], (.seq (.region [⟨some 4, none, .mov (.const (.str []))⟩])
 (.seq (.seq (.region [⟨some 7, none, .mov (.tmp 1)⟩,
  ⟨some 8, none, .lenSl (.tmp 7)⟩,
  ⟨some 9, none, .mov (.const (.int .i64 0))⟩])
 (.block 0 (.loop k_value_Atom_p1)))
 (.seq (.seq (.region [⟨some 25, none, .mov (.tmp 1)⟩,
  ⟨some 26, none, .lenSl (.tmp 25)⟩,
  ⟨some 27, none, .bin .gtr (.tmp 26) (.const (.int .i64 0))⟩])
 (.cond (.tmp 27) (.region [⟨some 28, none, .mov (.tmp 0)⟩,
  ⟨some 29, none, .bin .add (.tmp 28) (.const (.str [41]))⟩,
  ⟨some 0, none, .mov (.tmp 29)⟩]) .skip))
 (.seq (.region [⟨some 30, none, .mov (.tmp 0)⟩,
  ⟨some 4, none, .mov (.tmp 30)⟩])
 .ret))))⟩
theorem c_value_Atom : (XTab.of Tryz.prog).code 76 = some k_value_Atom := by kernel_rfl
def k_ref8_dec_p0 : ACode := (.seq (.region [⟨some 13, none, .mov (.tmp 4)⟩,
  ⟨some 14, none, .bin .rem (.tmp 13) (.const (.int .i64 10))⟩,
  ⟨some 5, none, .mov (.tmp 14)⟩])
 (.seq (.seq (.region [⟨some 15, none, .mov (.tmp 5)⟩,
  ⟨some 16, none, .bin .lss (.tmp 15) (.const (.int .i64 0))⟩])
 (.cond (.tmp 16) (.region [⟨some 17, none, .mov (.tmp 5)⟩,
  ⟨some 18, none, .un .neg (.tmp 17)⟩,
  ⟨some 5, none, .mov (.tmp 18)⟩]) .skip))
 (.region [⟨some 19, none, .mov (.tmp 5)⟩,
  ⟨some 20, none, .bin .add (.const (.int .i64 48)) (.tmp 19)⟩,
  ⟨some 21, none, .conv .u8 (.tmp 20)⟩,
  ⟨some 22, none, .buildSlice 1 [(.int .u8 0)] [(0, 1, (.tmp 21))]⟩,
  ⟨some 23, none, .strOf (.tmp 22)⟩,
  ⟨some 24, none, .mov (.tmp 3)⟩,
  ⟨some 25, none, .bin .add (.tmp 23) (.tmp 24)⟩,
  ⟨some 3, none, .mov (.tmp 25)⟩])))
def k_ref8_dec_p1 : ACode := (.seq (.seq (.region [⟨some 9, none, .mov (.tmp 4)⟩,
  ⟨some 10, none, .bin .neq (.tmp 9) (.const (.int .i64 0))⟩])
 (.cond (.tmp 10) .skip (.exit 0)))
 (.seq (.block 1 k_ref8_dec_p0)
 (.region [⟨some 11, none, .mov (.tmp 4)⟩,
  ⟨some 12, none, .bin .quo (.tmp 11) (.const (.int .i64 10))⟩,
  ⟨some 4, none, .mov (.tmp 12)⟩])))
def k_ref8_dec : AFun := ⟨31, [.tmp 2], (.seq (.region [⟨some 2, none, .mov (.const (.str []))⟩])
 (.seq (.seq (.region [⟨some 6, none, .mov (.tmp 0)⟩,
  ⟨some 7, none, .bin .eql (.tmp 6) (.const (.int .i64 0))⟩])
 (.cond (.tmp 7) (.seq (.region [⟨some 2, none, .mov (.const (.str [48]))⟩])
 .ret) .skip))
 (.seq (.region [⟨some 3, none, .mov (.const (.str []))⟩])
 (.seq (.seq (.region [⟨some 8, none, .mov (.tmp 0)⟩,
  ⟨some 4, none, .mov (.tmp 8)⟩])
 (.block 0 (.loop k_ref8_dec_p1)))
 (.seq (.seq (.region [⟨some 26, none, .mov (.tmp 0)⟩,
  ⟨some 27, none, .bin .lss (.tmp 26) (.const (.int .i64 0))⟩])
 (.cond (.tmp 27) (.seq (.region [⟨some 28, none, .mov (.tmp 3)⟩,
  ⟨some 29, none, .bin .add (.const (.str [45])) (.tmp 28)⟩,
  ⟨some 2, none, .mov (.tmp 29)⟩])
 .ret) .skip))
 (.seq (.region [⟨some 30, none, .mov (.tmp 3)⟩,
  ⟨some 2, none, .mov (.tmp 30)⟩])
 .ret))))))⟩
theorem c_ref8_dec : (XTab.of Tryz.prog).code 80 = some k_ref8_dec := by kernel_rfl
def k_lex_Front_p0 : ACode := (.seq (.region [⟨some 21, none, .mov (.tmp 0)⟩,
  ⟨some 22, none, .mov (.tmp 5)⟩,
  ⟨some 23, none, .sliceStr (.tmp 21) (some (.tmp 22)) none⟩,
  ⟨some 24, none, .call (.const (.func (.func n_lex_word) [] [])) [(.tmp 23)]⟩,
  ⟨some 20, none, .mov (.tmp 24)⟩,
  ⟨some 25, none, .extract 0 (.tmp 20)⟩,
  ⟨some 26, none, .extract 1 (.tmp 20)⟩,
  ⟨some 6, none, .mov (.tmp 25)⟩,
  ⟨some 7, none, .mov (.tmp 26)⟩])
 (.seq (.seq (.region [⟨some 27, none, .mov (.tmp 7)⟩,
  ⟨some 28, none, .bin .eql (.tmp 27) (.const (.int .i64 0))⟩,
  ⟨some 29, none, .mov (.tmp 28)⟩,
  ⟨some 30, (some (29, false)), .mov (.tmp 6)⟩,
  ⟨some 31, (some (29, false)), .bin .neq (.tmp 30) (.const (.int .i64 4))⟩,
  ⟨some 32, (some (29, false)), .mov (.tmp 31)⟩,
  ⟨some 33, (some (32, true)), .mov (.tmp 7)⟩,
  ⟨some 34, (some (32, true)), .bin .gtr (.tmp 33) (.const (.int .i64 16))⟩,
  ⟨some 35, (some (29, false)), .pick (.tmp 32) (.tmp 34) (.const (.bool false))⟩,
  ⟨some 36, none, .pick (.tmp 29) (.const (.bool true)) (.tmp 35)⟩])
 (.cond (.tmp 36) (.seq (.region [⟨some 37, none, .mov (.tmp 4)⟩,
  ⟨some 2, none, .mov (.tmp 37)⟩,
  ⟨some 3, none, .mov (.const (.bool false))⟩])
 .ret) .skip))
 (.seq (.region [⟨some 38, none, .mov (.tmp 4)⟩,
  ⟨some 39, none, .mov (.tmp 6)⟩,
  ⟨some 40, none, .mov (.tmp 0)⟩,
  ⟨some 41, none, .mov (.tmp 5)⟩,
  ⟨some 42, none, .mov (.tmp 5)⟩,
  ⟨some 43, none, .mov (.tmp 7)⟩,
  ⟨some 44, none, .bin .add (.tmp 42) (.tmp 43)⟩,
  ⟨some 45, none, .sliceStr (.tmp 40) (some (.tmp 41)) (some (.tmp 44))⟩,
  ⟨some 46, none, .mov (.tmp 5)⟩,
  ⟨some 47, none, .build [(.int .i64 0), (.str []), (.int .i64 0)] [(0, 1, (.tmp 39)), (1, 1, (.tmp 45)), (2, 1, (.tmp 46))]⟩,
  ⟨some 48, none, .buildSlice 1 [(.int .i64 0), (.str []), (.int .i64 0)] [(0, 3, (.tmp 47))]⟩,
  ⟨some 49, none, .append 3 32 (.tmp 38) (.tmp 48)⟩,
  ⟨some 4, none, .mov (.tmp 49)⟩])
 (.region [⟨some 50, none, .mov (.tmp 5)⟩,
  ⟨some 51, none, .mov (.tmp 7)⟩,
  ⟨some 52, none, .bin .add (.tmp 50) (.tmp 51)⟩,
  ⟨some 5, none, .mov (.tmp 52)⟩]))))
def k_lex_Front_p1 : ACode := (.seq (.seq (.region [⟨some 10, none, .mov (.tmp 5)⟩,
  ⟨some 11, none, .mov (.tmp 0)⟩,
  ⟨some 12, none, .lenStr (.tmp 11)⟩,
  ⟨some 13, none, .bin .lss (.tmp 10) (.tmp 12)⟩])
 (.cond (.tmp 13) .skip (.exit 0)))
 (.seq (.block 1 k_lex_Front_p0)
 (.region [⟨some 14, none, .mov (.tmp 5)⟩,
  ⟨some 15, none, .mov (.tmp 0)⟩,
  ⟨some 16, none, .mov (.tmp 5)⟩,
  ⟨some 17, none, .sliceStr (.tmp 15) (some (.tmp 16)) none⟩,
  ⟨some 18, none, .call (.const (.func (.func n_lex_blank) [] [])) [(.tmp 17)]⟩,
  ⟨some 19, none, .bin .add (.tmp 14) (.tmp 18)⟩,
  ⟨some 5, none, .mov (.tmp 19)⟩])))
def k_lex_Front : AFun := ⟨54, [.tmp 2, .tmp 3], (.seq (.region [⟨some 2, none, .mov (.const .nilslice)⟩,
  ⟨some 3, none, .mov (.const (.bool false))⟩])
 (.seq (.region [⟨some 4, none, .mov (.const .nilslice)⟩])
 (.seq (.seq (.region [⟨some 8, none, .mov (.tmp 0)⟩,
  ⟨some 9, none, .call (.const (.func (.func n_lex_blank) [] [])) [(.tmp 8)]⟩,
  ⟨some 5, none, .mov (.tmp 9)⟩])
 (.block 0 (.loop k_lex_Front_p1)))
 (.seq (.region [⟨some 53, none, .mov (.tmp 4)⟩,
  ⟨some 2, none, .mov (.tmp 53)⟩,
  ⟨some 3, none, .mov (.const (.bool true))⟩])
 .ret))))⟩
theorem c_lex_Front : (XTab.of Tryz.prog).code 81 = some k_lex_Front := by kernel_rfl
def k_syntax_parser_atom_p0 : ACode := (.region [⟨some 10, none, .mov (.tmp 0)⟩,
  ⟨some 11, none, .call (.const (.func (.func n_syntax_parser_fail) [] [])) [(.tmp 10), (.const (.int .i64 4))]⟩])
def k_syntax_parser_atom_p1 : ACode := (.seq (.region [⟨some 18, none, .load 3 true (.tmp 4)⟩,
  ⟨none, none, .store 3 (.tmp 2) (.tmp 18)⟩])
 .ret)
def k_syntax_parser_atom_p2 : ACode := (.region [⟨some 30, none, .mov (.tmp 0)⟩,
  ⟨some 31, none, .call (.const (.func (.func n_syntax_parser_fail) [] [])) [(.tmp 30), (.const (.int .i64 8))]⟩])
def k_syntax_parser_atom_p3 : ACode := (.seq (.seq (.region [⟨some 26, none, .fieldAddr 2 (.tmp 4)⟩,
  ⟨some 27, none, .load 1 false (.tmp 26)⟩,
  ⟨some 28, none, .lenSl (.tmp 27)⟩,
  ⟨some 29, none, .bin .gtr (.tmp 28) (.const (.int .i64 4))⟩])
 (.cond (.tmp 29) k_syntax_parser_atom_p2 .skip))
 (.seq (.region [⟨some 32, none, .mov (.tmp 0)⟩,
  ⟨some 33, none, .call (.const (.func (.func n_syntax_parser_take) [] [])) [(.tmp 32), (.const (.str [44]))]⟩,
  ⟨some 34, none, .un .not (.tmp 33)⟩])
 (.cond (.tmp 34) (.exit 0) .skip)))
def k_syntax_parser_atom_p4 : ACode := (.seq (.drawn [⟨⟨some 19, none, .fieldAddr 2 (.tmp 4)⟩, false, [], []⟩,
  ⟨⟨some 20, none, .load 1 false (.tmp 19)⟩, false, [0], []⟩,
  ⟨⟨some 21, none, .mov (.tmp 0)⟩, false, [], []⟩,
  ⟨⟨some 22, none, .call (.const (.func (.func n_syntax_parser_term) [] [])) [(.tmp 21)]⟩, true, [2], []⟩,
  ⟨⟨some 23, none, .buildSlice 1 [(.int .i64 0), (.str []), (.int .i64 0)] [(0, 3, (.tmp 22))]⟩, true, [3, 2], []⟩,
  ⟨⟨some 24, none, .append 3 32 (.tmp 20) (.tmp 23)⟩, true, [4, 3, 2, 1, 0], []⟩,
  ⟨⟨some 25, none, .fieldAddr 2 (.tmp 4)⟩, false, [5, 4, 3, 2, 1, 0], []⟩,
  ⟨⟨none, none, .store 1 (.tmp 25) (.tmp 24)⟩, true, [6, 5, 4, 3, 2, 1, 0], []⟩])
 k_syntax_parser_atom_p3)
def k_syntax_parser_atom_p5 : ACode := (.block 1 k_syntax_parser_atom_p4)
def k_syntax_parser_atom_p6 : ACode := (.seq (.region [⟨some 35, none, .mov (.tmp 0)⟩,
  ⟨some 36, none, .call (.const (.func (.func n_syntax_parser_must) [] [])) [(.tmp 35), (.const (.str [41]))]⟩])
 (.seq (.region [⟨some 37, none, .load 3 true (.tmp 4)⟩,
  ⟨none, none, .store 3 (.tmp 2) (.tmp 37)⟩])
 .ret))
def k_syntax_parser_atom_p7 : ACode := (.seq (.seq (.region [⟨some 15, none, .mov (.tmp 0)⟩,
  ⟨some 16, none, .call (.const (.func (.func n_syntax_parser_take) [] [])) [(.tmp 15), (.const (.str [40]))]⟩,
  ⟨some 17, none, .un .not (.tmp 16)⟩])
 (.cond (.tmp 17) k_syntax_parser_atom_p1 .skip))
 (.seq (.block 0 (.loop k_syntax_parser_atom_p5))
 k_syntax_parser_atom_p6))
def k_syntax_parser_atom_p8 : ACode := (.seq (.region [⟨some 12, none, .fieldAddr 1 (.tmp 3)⟩,
  ⟨some 13, none, .load 1 false (.tmp 12)⟩,
  ⟨some 14, none, .build [(.int .i64 0), (.str []), .nilslice] [(0, 1, (.const (.int .i64 1))), (1, 1, (.tmp 13))]⟩,
  ⟨some 4, none, .alloc [(.int .i64 0), (.str []), .nilslice]⟩,
  ⟨none, none, .store 3 (.tmp 4) (.tmp 14)⟩])
 k_syntax_parser_atom_p7)
def k_syntax_parser_atom_p9 : ACode := (.seq (.region [⟨some 5, none, .mov (.tmp 0)⟩,
  ⟨some 6, none, .call (.const (.func (.func n_syntax_parser_next) [] [])) [(.tmp 5)]⟩,
  ⟨some 3, none, .alloc [(.int .i64 0), (.str []), (.int .i64 0)]⟩,
  ⟨none, none, .store 3 (.tmp 3) (.tmp 6)⟩])
 (.seq (.seq (.region [⟨some 7, none, .fieldAddr 0 (.tmp 3)⟩,
  ⟨some 8, none, .load 1 false (.tmp 7)⟩,
  ⟨some 9, none, .bin .neq (.tmp 8) (.const (.int .i64 1))⟩])
 (.cond (.tmp 9) k_syntax_parser_atom_p0 .skip))
 k_syntax_parser_atom_p8))
def k_syntax_parser_atom : AFun := ⟨38, [.cell 2 3 true], (.seq (.region [⟨some 2, none, .alloc [(.int .i64 0), (.str []), .nilslice]⟩])
 k_syntax_parser_atom_p9)⟩
theorem c_syntax_parser_atom : (XTab.of Tryz.prog).code 82 = some k_syntax_parser_atom := by kernel_rfl
def k_syntax_parser_take_p0 : ACode := (.seq (.region [⟨some 4, none, .mov (.const (.bool false))⟩])
 .ret)
def k_syntax_parser_take_p1 : ACode := (.seq (.region [⟨some 9, none, .mov (.tmp 0)⟩,
  ⟨some 10, none, .mov (.tmp 0)⟩,
  ⟨some 11, none, .nilCheck (.tmp 10)⟩,
  ⟨some 12, none, .fieldAddr 0 (.tmp 11)⟩,
  ⟨some 13, none, .load 1 false (.tmp 12)⟩,
  ⟨some 14, none, .slice 3 (.tmp 13) (some (.const (.int .i64 1))) none none⟩,
  ⟨some 15, none, .nilCheck (.tmp 9)⟩,
  ⟨some 16, none, .fieldAddr 0 (.tmp 15)⟩,
  ⟨none, none, .store 1 (.tmp 16) (.tmp 14)⟩])
 (.seq (.region [⟨some 4, none, .mov (.const (.bool true))⟩])
 .ret))
def k_syntax_parser_take : AFun := ⟨17, [.tmp 4], (.seq (.region [⟨some 4, none, .mov (.const (.bool false))⟩])
 (.seq (.seq (.region [⟨some 5, none, .mov (.tmp 0)⟩,
  ⟨some 6, none, .mov (.tmp 1)⟩,
  ⟨some 7, none, .call (.const (.func (.func n_syntax_parser_is) [] [])) [(.tmp 5), (.tmp 6)]⟩,
  ⟨some 8, none, .un .not (.tmp 7)⟩])
 (.cond (.tmp 8) k_syntax_parser_take_p0 .skip))
 k_syntax_parser_take_p1))⟩
theorem c_syntax_parser_take : (XTab.of Tryz.prog).code 83 = some k_syntax_parser_take := by kernel_rfl
def k_syntax_parser_literal_p0 : ACode := (.seq (.region [⟨some 8, none, .mov (.tmp 0)⟩,
  ⟨some 9, none, .call (.const (.func (.func n_syntax_parser_atom) [] [])) [(.tmp 8)]⟩,
  ⟨some 3, none, .alloc [(.int .i64 0), (.str []), .nilslice]⟩,
  ⟨none, none, .store 3 (.tmp 3) (.tmp 9)⟩])
 (.seq (.region [⟨some 10, none, .fieldAddr 0 (.tmp 3)⟩,
  ⟨none, none, .store 1 (.tmp 10) (.const (.int .i64 2))⟩])
 (.seq (.region [⟨some 11, none, .load 3 true (.tmp 3)⟩,
  ⟨none, none, .store 3 (.tmp 2) (.tmp 11)⟩])
 .ret)))
def k_syntax_parser_literal_p1 : ACode := (.seq (.region [⟨some 22, none, .mov (.tmp 0)⟩,
  ⟨some 23, none, .call (.const (.func (.func n_syntax_parser_atom) [] [])) [(.tmp 22)]⟩,
  ⟨none, none, .store 3 (.tmp 2) (.tmp 23)⟩])
 .ret)
def k_syntax_parser_literal_p2 : ACode := (.region [⟨some 31, none, .mov (.tmp 0)⟩,
  ⟨some 32, none, .call (.const (.func (.func n_syntax_parser_fail) [] [])) [(.tmp 31), (.const (.int .i64 4))]⟩])
def k_syntax_parser_literal_p3 : ACode := (.seq (.drawn [⟨⟨some 33, none, .mov (.tmp 5)⟩, false, [], []⟩,
  ⟨⟨some 34, none, .load 3 true (.tmp 4)⟩, false, [], []⟩,
  ⟨⟨some 35, none, .mov (.tmp 0)⟩, false, [], []⟩,
  ⟨⟨some 36, none, .call (.const (.func (.func n_syntax_parser_term) [] [])) [(.tmp 35)]⟩, true, [2], []⟩,
  ⟨⟨some 37, none, .buildSlice 2 [(.int .i64 0), (.str []), (.int .i64 0), (.int .i64 0), (.str []), (.int .i64 0)] [(0, 3, (.tmp 34)), (3, 3, (.tmp 36))]⟩, true, [3, 2, 1], []⟩,
  ⟨⟨some 38, none, .build [(.int .i64 0), (.str []), .nilslice] [(0, 1, (.tmp 33)), (2, 1, (.tmp 37))]⟩, false, [4, 3, 2, 1, 0], []⟩,
  ⟨⟨none, none, .store 3 (.tmp 2) (.tmp 38)⟩, true, [5, 4, 3, 2, 1, 0], []⟩])
 .ret)
def k_syntax_parser_literal_p4 : ACode := (.seq (.region [⟨some 26, none, .mov (.tmp 0)⟩,
  ⟨some 27, none, .call (.const (.func (.func n_syntax_parser_next) [] [])) [(.tmp 26)]⟩,
  ⟨some 28, none, .call (.const (.func (.func n_syntax_sign) [] [])) [(.tmp 27)]⟩,
  ⟨some 5, none, .mov (.tmp 28)⟩])
 (.seq (.seq (.region [⟨some 29, none, .mov (.tmp 5)⟩,
  ⟨some 30, none, .bin .eql (.tmp 29) (.const (.int .i64 0))⟩])
 (.cond (.tmp 30) k_syntax_parser_literal_p2 .skip))
 k_syntax_parser_literal_p3))
def k_syntax_parser_literal_p5 : ACode := (.seq (.seq (.region [⟨some 12, none, .mov (.tmp 0)⟩,
  ⟨some 13, none, .call (.const (.func (.func n_syntax_parser_peek) [] [])) [(.tmp 12), (.const (.int .i64 0))]⟩,
  ⟨some 14, none, .field 0 1 false (.tmp 13)⟩,
  ⟨some 15, none, .bin .eql (.tmp 14) (.const (.int .i64 1))⟩,
  ⟨some 16, none, .mov (.tmp 15)⟩,
  ⟨some 17, (some (16, true)), .mov (.tmp 0)⟩,
  ⟨some 18, (some (16, true)), .call (.const (.func (.func n_syntax_parser_peek) [] [])) [(.tmp 17), (.const (.int .i64 1))]⟩,
  ⟨some 19, (some (16, true)), .call (.const (.func (.func n_syntax_sign) [] [])) [(.tmp 18)]⟩,
  ⟨some 20, (some (16, true)), .bin .eql (.tmp 19) (.const (.int .i64 0))⟩,
  ⟨some 21, none, .pick (.tmp 16) (.tmp 20) (.const (.bool false))⟩])
 (.cond (.tmp 21) k_syntax_parser_literal_p1 .skip))
 (.seq (.region [⟨some 24, none, .mov (.tmp 0)⟩,
  ⟨some 25, none, .call (.const (.func (.func n_syntax_parser_term) [] [])) [(.tmp 24)]⟩,
  ⟨some 4, none, .alloc [(.int .i64 0), (.str []), (.int .i64 0)]⟩,
  ⟨none, none, .store 3 (.tmp 4) (.tmp 25)⟩])
 k_syntax_parser_literal_p4))
def k_syntax_parser_literal : AFun := ⟨39, [.cell 2 3 true], (.seq (.region [⟨some 2, none, .alloc [(.int .i64 0), (.str []), .nilslice]⟩])
 (.seq (.seq (.region [⟨some 6, none, .mov (.tmp 0)⟩,
  ⟨some 7, none, .call (.const (.func (.func n_syntax_parser_take) [] [])) [(.tmp 6), (.const (.str [33]))]⟩])
 (.cond (.tmp 7) k_syntax_parser_literal_p0 .skip))
 k_syntax_parser_literal_p5))⟩
theorem c_syntax_parser_literal : (XTab.of Tryz.prog).code 84 = some k_syntax_parser_literal := by kernel_rfl
def k_syntax_parser_must_p0 : ACode := (.region [⟨some 8, none, .mov (.tmp 0)⟩,
  ⟨some 9, none, .call (.const (.func (.func n_syntax_parser_fail) [] [])) [(.tmp 8), (.const (.int .i64 4))]⟩])
def k_syntax_parser_must : AFun := ⟨10, [], (.seq (.region [⟨some 4, none, .mov (.tmp 0)⟩,
  ⟨some 5, none, .mov (.tmp 1)⟩,
  ⟨some 6, none, .call (.const (.func (.func n_syntax_parser_take) [] [])) [(.tmp 4), (.tmp 5)]⟩,
  ⟨some 7, none, .un .not (.tmp 6)⟩])
 (.cond (.tmp 7) k_syntax_parser_must_p0 .skip))⟩
theorem c_syntax_parser_must : (XTab.of Tryz.prog).code 85 = some k_syntax_parser_must := by kernel_rfl
def k_ref8_EqLiteral_p0 : ACode := (.seq (.region [⟨some 4, none, .mov (.const (.bool false))⟩])
 .ret)
def k_ref8_EqLiteral_p1 : ACode := (.seq (.region [⟨some 4, none, .mov (.const (.bool false))⟩])
 .ret)
def k_ref8_EqLiteral_p2 : ACode := (.seq (.region [⟨some 34, none, .fieldAddr 2 (.tmp 2)⟩,
  ⟨some 35, none, .load 1 false (.tmp 34)⟩,
  ⟨some 36, none, .mov (.tmp 5)⟩,
  ⟨some 37, none, .indexAddr 3 (.tmp 35) (.tmp 36)⟩,
  ⟨some 38, none, .load 3 true (.tmp 37)⟩,
  ⟨some 39, none, .fieldAddr 2 (.tmp 3)⟩,
  ⟨some 40, none, .load 1 false (.tmp 39)⟩,
  ⟨some 41, none, .mov (.tmp 5)⟩,
  ⟨some 42, none, .indexAddr 3 (.tmp 40) (.tmp 41)⟩,
  ⟨some 43, none, .load 3 true (.tmp 42)⟩,
  ⟨some 44, none, .call (.const (.func (.func n_ref8_Eq) [] [])) [(.tmp 38), (.tmp 43)]⟩,
  ⟨some 45, none, .un .not (.tmp 44)⟩])
 (.cond (.tmp 45) k_ref8_EqLiteral_p1 .skip))
def k_ref8_EqLiteral_p3 : ACode := (.seq (.seq (.region [⟨some 27, none, .mov (.tmp 5)⟩,
  ⟨some 28, none, .fieldAddr 2 (.tmp 2)⟩,
  ⟨some 29, none, .load 1 false (.tmp 28)⟩,
  ⟨some 30, none, .lenSl (.tmp 29)⟩,
  ⟨some 31, none, .bin .lss (.tmp 27) (.tmp 30)⟩])
 (.cond (.tmp 31) .skip (.exit 0)))
 (.seq (.block 1 k_ref8_EqLiteral_p2)
 (.region [⟨some 32, none, .mov (.tmp 5)⟩,
  ⟨some 33, none, .bin .add (.tmp 32) (.const (.int .i64 1))⟩,
  ⟨some 5, none, .mov (.tmp 33)⟩])))
def k_ref8_EqLiteral_p4 : ACode := (.seq (.seq (.region [⟨some 6, none, .fieldAddr 0 (.tmp 2)⟩,
  ⟨some 7, none, .load 1 false (.tmp 6)⟩,
  ⟨some 8, none, .fieldAddr 0 (.tmp 3)⟩,
  ⟨some 9, none, .load 1 false (.tmp 8)⟩,
  ⟨some 10, none, .bin .neq (.tmp 7) (.tmp 9)⟩,
  ⟨some 11, none, .mov (.tmp 10)⟩,
  ⟨some 12, (some (11, false)), .fieldAddr 1 (.tmp 2)⟩,
  ⟨some 13, (some (11, false)), .load 1 false (.tmp 12)⟩,
  ⟨some 14, (some (11, false)), .fieldAddr 1 (.tmp 3)⟩,
  ⟨some 15, (some (11, false)), .load 1 false (.tmp 14)⟩,
  ⟨some 16, (some (11, false)), .bin .neq (.tmp 13) (.tmp 15)⟩,
  ⟨some 17, none, .pick (.tmp 11) (.const (.bool true)) (.tmp 16)⟩,
  ⟨some 18, none, .mov (.tmp 17)⟩,
  ⟨some 19, (some (18, false)), .fieldAddr 2 (.tmp 2)⟩,
  ⟨some 20, (some (18, false)), .load 1 false (.tmp 19)⟩,
  ⟨some 21, (some (18, false)), .lenSl (.tmp 20)⟩,
  ⟨some 22, (some (18, false)), .fieldAddr 2 (.tmp 3)⟩,
  ⟨some 23, (some (18, false)), .load 1 false (.tmp 22)⟩,
  ⟨some 24, (some (18, false)), .lenSl (.tmp 23)⟩,
  ⟨some 25, (some (18, false)), .bin .neq (.tmp 21) (.tmp 24)⟩,
  ⟨some 26, none, .pick (.tmp 18) (.const (.bool true)) (.tmp 25)⟩])
 (.cond (.tmp 26) k_ref8_EqLiteral_p0 .skip))
 (.seq (.seq (.region [⟨some 5, none, .mov (.const (.int .i64 0))⟩])
 (.block 0 (.loop k_ref8_EqLiteral_p3)))
 (.seq (.region [⟨some 4, none, .mov (.const (.bool true))⟩])
 .ret)))
def k_ref8_EqLiteral : AFun := ⟨46, [.tmp 4], (.seq (.region [⟨some 2, none, .box (.tmp 0)⟩,
  ⟨some 3, none, .box (.tmp 1)⟩,
  ⟨some 4, none, .mov (.const (.bool false))⟩])
 k_ref8_EqLiteral_p4)⟩
theorem c_ref8_EqLiteral : (XTab.of Tryz.prog).code 86 = some k_ref8_EqLiteral := by kernel_rfl
def k_value_Word_p0 : ACode := (.seq (.region [⟨some 10, none, .mov (.tmp 8)⟩,
  ⟨some 3, none, .mov (.tmp 10)⟩])
 (.seq (.region [⟨some 11, none, .mov (.tmp 0)⟩,
  ⟨some 12, none, .mov (.tmp 3)⟩,
  ⟨some 13, none, .indexStr (.tmp 11) (.tmp 12)⟩,
  ⟨some 4, none, .mov (.tmp 13)⟩])
 (.seq (.region [⟨some 14, none, .mov (.tmp 4)⟩,
  ⟨some 15, none, .bin .geq (.tmp 14) (.const (.int .u8 97))⟩,
  ⟨some 16, none, .mov (.tmp 15)⟩,
  ⟨some 17, (some (16, true)), .mov (.tmp 4)⟩,
  ⟨some 18, (some (16, true)), .bin .leq (.tmp 17) (.const (.int .u8 122))⟩,
  ⟨some 19, none, .pick (.tmp 16) (.tmp 18) (.const (.bool false))⟩,
  ⟨some 5, none, .mov (.tmp 19)⟩])
 (.seq (.region [⟨some 20, none, .mov (.tmp 5)⟩,
  ⟨some 21, none, .un .not (.tmp 20)⟩,
  ⟨some 22, none, .mov (.tmp 21)⟩,
  ⟨some 23, (some (22, true)), .mov (.tmp 3)⟩,
  ⟨some 24, (some (22, true)), .bin .eql (.tmp 23) (.const (.int .i64 0))⟩,
  ⟨some 25, (some (22, true)), .mov (.tmp 24)⟩,
  ⟨some 26, (some (25, false)), .mov (.tmp 4)⟩,
  ⟨some 27, (some (25, false)), .bin .lss (.tmp 26) (.const (.int .u8 48))⟩,
  ⟨some 28, (some (25, false)), .mov (.tmp 27)⟩,
  ⟨some 29, (some (28, false)), .mov (.tmp 4)⟩,
  ⟨some 30, (some (28, false)), .bin .gtr (.tmp 29) (.const (.int .u8 57))⟩,
  ⟨some 31, (some (25, false)), .pick (.tmp 28) (.const (.bool true)) (.tmp 30)⟩,
  ⟨some 32, (some (25, false)), .mov (.tmp 31)⟩,
  ⟨some 33, (some (32, true)), .mov (.tmp 4)⟩,
  ⟨some 34, (some (32, true)), .bin .neq (.tmp 33) (.const (.int .u8 95))⟩,
  ⟨some 35, (some (25, false)), .pick (.tmp 32) (.tmp 34) (.const (.bool false))⟩,
  ⟨some 36, (some (22, true)), .pick (.tmp 25) (.const (.bool true)) (.tmp 35)⟩,
  ⟨some 37, none, .pick (.tmp 22) (.tmp 36) (.const (.bool false))⟩])
 (.cond (.tmp 37) (.seq (.region [⟨some 2, none, .mov (.const (.bool false))⟩])
 .ret) .skip)))))
def k_value_Word_p1 : ACode := (.seq (.region [⟨some 9, none, .bin .lss (.tmp 8) (.tmp 7)⟩])
 (.seq (.cond (.tmp 9) .skip (.exit 0))
 (.seq (.block 1 k_value_Word_p0)
 (.region [⟨some 38, none, .bin .add (.tmp 8) (.const (.int .i64 1))⟩,
  ⟨some 8, none, .mov (.tmp 38)⟩]))))
def k_value_Word : AFun := ⟨46, [.tmp 2], (.seq (.region [⟨some 2, none, .mov (.const (.bool false))⟩])
 (.seq (.seq (.region [⟨some 6, none, .mov (.tmp 0)⟩,
  ⟨some 7, none, .lenStr (.tmp 6)⟩,
  ⟨some 8, none, .mov (.const (.int .i64 0))⟩])
 (.block 0 (.loop k_value_Word_p1)))
 (.seq (.region [⟨some 39, none, .mov (.tmp 0)⟩,
  ⟨some 40, none, .bin .neq (.tmp 39) (.const (.str []))⟩,
  ⟨some 41, none, .mov (.tmp 40)⟩,
  ⟨some 42, (some (41, true)), .mov (.tmp 0)⟩,
  ⟨some 43, (some (41, true)), .lenStr (.tmp 42)⟩,
  ⟨some 44, (some (41, true)), .bin .leq (.tmp 43) (.const (.int .i64 16))⟩,
  ⟨some 45, none, .pick (.tmp 41) (.tmp 44) (.const (.bool false))⟩,
  ⟨some 2, none, .mov (.tmp 45)⟩])
 .ret)))⟩
theorem c_value_Word : (XTab.of Tryz.prog).code 87 = some k_value_Word := by kernel_rfl
end Go.Proofs.YtegdcbdicpfbpaaGreatDoor
set_option maxRecDepth 100000
set_option linter.unusedVariables false
namespace Go.Proofs.YtegdcbdicpfbpaaGreatDoor
open Go.AE
def k_ref8_small : AFun := ⟨9, [.tmp 2], (.seq (.region [⟨some 2, none, .mov (.const (.bool false))⟩])
 (.seq (.region [⟨some 3, none, .mov (.tmp 0)⟩,
  ⟨some 4, none, .bin .geq (.tmp 3) (.const (.int .u8 97))⟩,
  ⟨some 5, none, .mov (.tmp 4)⟩,
  ⟨some 6, (some (5, true)), .mov (.tmp 0)⟩,
  ⟨some 7, (some (5, true)), .bin .leq (.tmp 6) (.const (.int .u8 122))⟩,
  ⟨some 8, none, .pick (.tmp 5) (.tmp 7) (.const (.bool false))⟩,
  ⟨some 2, none, .mov (.tmp 8)⟩])
 .ret))⟩
theorem c_ref8_small : (XTab.of Tryz.prog).code 106 = some k_ref8_small := by kernel_rfl
def k_ref8_digit : AFun := ⟨9, [.tmp 2], (.seq (.region [⟨some 2, none, .mov (.const (.bool false))⟩])
 (.seq (.region [⟨some 3, none, .mov (.tmp 0)⟩,
  ⟨some 4, none, .bin .geq (.tmp 3) (.const (.int .u8 48))⟩,
  ⟨some 5, none, .mov (.tmp 4)⟩,
  ⟨some 6, (some (5, true)), .mov (.tmp 0)⟩,
  ⟨some 7, (some (5, true)), .bin .leq (.tmp 6) (.const (.int .u8 57))⟩,
  ⟨some 8, none, .pick (.tmp 5) (.tmp 7) (.const (.bool false))⟩,
  ⟨some 2, none, .mov (.tmp 8)⟩])
 .ret))⟩
theorem c_ref8_digit : (XTab.of Tryz.prog).code 107 = some k_ref8_digit := by kernel_rfl
def k_ref8_great : AFun := ⟨9, [.tmp 2], (.seq (.region [⟨some 2, none, .mov (.const (.bool false))⟩])
 (.seq (.region [⟨some 3, none, .mov (.tmp 0)⟩,
  ⟨some 4, none, .bin .geq (.tmp 3) (.const (.int .u8 65))⟩,
  ⟨some 5, none, .mov (.tmp 4)⟩,
  ⟨some 6, (some (5, true)), .mov (.tmp 0)⟩,
  ⟨some 7, (some (5, true)), .bin .leq (.tmp 6) (.const (.int .u8 90))⟩,
  ⟨some 8, none, .pick (.tmp 5) (.tmp 7) (.const (.bool false))⟩,
  ⟨some 2, none, .mov (.tmp 8)⟩])
 .ret))⟩
theorem c_ref8_great : (XTab.of Tryz.prog).code 108 = some k_ref8_great := by kernel_rfl
def k_lex_blank_p0 : ACode := (.seq (.region [⟨some 23, none, .mov (.tmp 0)⟩,
  ⟨some 24, none, .mov (.tmp 3)⟩,
  ⟨some 25, none, .sliceStr (.tmp 23) (some (.tmp 24)) none⟩,
  ⟨some 26, none, .call (.const (.func (.func n_strings_IndexByte) [] [])) [(.tmp 25), (.const (.int .u8 10))]⟩,
  ⟨some 4, none, .mov (.tmp 26)⟩])
 (.seq (.region [⟨some 27, none, .mov (.tmp 4)⟩,
  ⟨some 28, none, .bin .geq (.tmp 27) (.const (.int .i64 0))⟩])
 (.cond (.tmp 28) (.region [⟨some 29, none, .mov (.tmp 3)⟩,
  ⟨some 30, none, .mov (.tmp 4)⟩,
  ⟨some 31, none, .bin .add (.tmp 29) (.tmp 30)⟩,
  ⟨some 3, none, .mov (.tmp 31)⟩]) (.region [⟨some 32, none, .mov (.tmp 0)⟩,
  ⟨some 33, none, .lenStr (.tmp 32)⟩,
  ⟨some 3, none, .mov (.tmp 33)⟩]))))
def k_lex_blank_p1 : ACode := (.seq (.region [⟨some 19, none, .mov (.tmp 0)⟩,
  ⟨some 20, none, .mov (.tmp 3)⟩,
  ⟨some 21, none, .indexStr (.tmp 19) (.tmp 20)⟩,
  ⟨some 22, none, .bin .eql (.tmp 21) (.const (.int .u8 37))⟩,
  ⟨some 18, none, .mov (.tmp 22)⟩])
 (.cond (.tmp 18) k_lex_blank_p0 (.seq (.region [⟨some 9, none, .mov (.tmp 3)⟩,
  ⟨some 2, none, .mov (.tmp 9)⟩])
 .ret)))
def k_lex_blank_p2 : ACode := (.seq (.region [⟨some 11, none, .mov (.tmp 0)⟩,
  ⟨some 12, none, .mov (.tmp 3)⟩,
  ⟨some 13, none, .indexStr (.tmp 11) (.tmp 12)⟩,
  ⟨some 14, none, .call (.const (.func (.func n_strings_IndexByte) [] [])) [(.const (.str [32, 9, 10, 13])), (.tmp 13)]⟩,
  ⟨some 15, none, .bin .geq (.tmp 14) (.const (.int .i64 0))⟩,
  ⟨some 10, none, .mov (.tmp 15)⟩])
 (.cond (.tmp 10) (.region [⟨some 16, none, .mov (.tmp 3)⟩,
  ⟨some 17, none, .bin .add (.tmp 16) (.const (.int .i64 1))⟩,
  ⟨some 3, none, .mov (.tmp 17)⟩]) k_lex_blank_p1))
def k_lex_blank_p3 : ACode := (.seq (.seq (.region [⟨some 5, none, .mov (.tmp 3)⟩,
  ⟨some 6, none, .mov (.tmp 0)⟩,
  ⟨some 7, none, .lenStr (.tmp 6)⟩,
  ⟨some 8, none, .bin .lss (.tmp 5) (.tmp 7)⟩])
 (.cond (.tmp 8) .skip (.exit 0)))
 (.block 1 (.block 2 k_lex_blank_p2)))
def k_lex_blank : AFun := ⟨35, [.tmp 2], (.seq (.region [⟨some 2, none, .mov (.const (.int .i64 0))⟩])
 (.seq (.region [⟨some 3, none, .mov (.const (.int .i64 0))⟩])
 (.seq (.block 0 (.loop k_lex_blank_p3))
 (.seq (.region [⟨some 34, none, .mov (.tmp 3)⟩,
  ⟨some 2, none, .mov (.tmp 34)⟩])
 .ret))))⟩
theorem c_lex_blank : (XTab.of Tryz.prog).code 112 = some k_lex_blank := by kernel_rfl
def k_lex_word_p0 : ACode := (.seq (.region [⟨some 20, none, .mov (.tmp 4)⟩,
  ⟨some 21, none, .call (.const (.func (.func n_lex_digit) [] [])) [(.tmp 20)]⟩,
  ⟨some 22, none, .mov (.tmp 21)⟩,
  ⟨some 23, (some (22, false)), .mov (.tmp 4)⟩,
  ⟨some 24, (some (22, false)), .bin .eql (.tmp 23) (.const (.int .u8 45))⟩,
  ⟨some 25, none, .pick (.tmp 22) (.const (.bool true)) (.tmp 24)⟩,
  ⟨some 19, none, .mov (.tmp 25)⟩])
 (.cond (.tmp 19) (.seq (.region [⟨some 26, none, .mov (.tmp 0)⟩,
  ⟨some 27, none, .call (.const (.func (.func n_lex_number) [] [])) [(.tmp 26)]⟩,
  ⟨some 2, none, .mov (.const (.int .i64 3))⟩,
  ⟨some 3, none, .mov (.tmp 27)⟩])
 .ret) .skip))
def k_lex_word_p1 : ACode := (.seq (.region [⟨some 15, none, .mov (.tmp 4)⟩,
  ⟨some 16, none, .call (.const (.func (.func n_lex_great) [] [])) [(.tmp 15)]⟩,
  ⟨some 14, none, .mov (.tmp 16)⟩])
 (.cond (.tmp 14) (.seq (.region [⟨some 17, none, .mov (.tmp 0)⟩,
  ⟨some 18, none, .call (.const (.func (.func n_lex_run) [] [])) [(.tmp 17), (.const (.func (.func n_lex_word_1) [] []))]⟩,
  ⟨some 2, none, .mov (.const (.int .i64 2))⟩,
  ⟨some 3, none, .mov (.tmp 18)⟩])
 .ret) k_lex_word_p0))
def k_lex_word_p2 : ACode := (.seq (.region [⟨some 10, none, .mov (.tmp 4)⟩,
  ⟨some 11, none, .call (.const (.func (.func n_lex_small) [] [])) [(.tmp 10)]⟩,
  ⟨some 9, none, .mov (.tmp 11)⟩])
 (.cond (.tmp 9) (.seq (.region [⟨some 12, none, .mov (.tmp 0)⟩,
  ⟨some 13, none, .call (.const (.func (.func n_lex_run) [] [])) [(.tmp 12), (.const (.func (.func n_lex_named) [] []))]⟩,
  ⟨some 2, none, .mov (.const (.int .i64 1))⟩,
  ⟨some 3, none, .mov (.tmp 13)⟩])
 .ret) k_lex_word_p1))
def k_lex_word_p3 : ACode := (.seq (.region [⟨some 32, none, .indexAddr 1 (.tmp 28) (.tmp 30)⟩,
  ⟨some 33, none, .load 1 false (.tmp 32)⟩,
  ⟨some 6, none, .mov (.tmp 33)⟩])
 (.seq (.region [⟨some 34, none, .mov (.tmp 0)⟩,
  ⟨some 35, none, .mov (.tmp 6)⟩,
  ⟨some 36, none, .call (.const (.func (.func n_strings_HasPrefix) [] [])) [(.tmp 34), (.tmp 35)]⟩])
 (.cond (.tmp 36) (.seq (.region [⟨some 37, none, .mov (.tmp 6)⟩,
  ⟨some 38, none, .lenStr (.tmp 37)⟩,
  ⟨some 2, none, .mov (.const (.int .i64 4))⟩,
  ⟨some 3, none, .mov (.tmp 38)⟩])
 .ret) .skip)))
def k_lex_word_p4 : ACode := (.seq (.region [⟨some 31, none, .bin .lss (.tmp 30) (.tmp 29)⟩])
 (.seq (.cond (.tmp 31) .skip (.exit 1))
 (.seq (.block 2 k_lex_word_p3)
 (.region [⟨some 39, none, .bin .add (.tmp 30) (.const (.int .i64 1))⟩,
  ⟨some 30, none, .mov (.tmp 39)⟩]))))
def k_lex_word : AFun := ⟨40, [.tmp 2, .tmp 3], (.seq (.region [⟨some 2, none, .mov (.const (.int .i64 0))⟩,
  ⟨some 3, none, .mov (.const (.int .i64 0))⟩])
 (.seq (.region [⟨some 7, none, .mov (.tmp 0)⟩,
  ⟨some 8, none, .indexStr (.tmp 7) (.const (.int .i64 0))⟩,
  ⟨some 4, none, .mov (.tmp 8)⟩])
 (.seq (.block 0 k_lex_word_p2)
 (.seq (.seq (.region [⟨some 28, none, .buildSlice 10 [(.str []), (.str []), (.str []), (.str []), (.str []), (.str []), (.str []), (.str []), (.str []), (.str [])] [(0, 1, (.const (.str [58, 45]))), (1, 1, (.const (.str [33, 61]))), (2, 1, (.const (.str [60, 61]))), (3, 1, (.const (.str [40]))), (4, 1, (.const (.str [41]))), (5, 1, (.const (.str [44]))), (6, 1, (.const (.str [46]))), (7, 1, (.const (.str [33]))), (8, 1, (.const (.str [61]))), (9, 1, (.const (.str [60])))]⟩,
  ⟨some 29, none, .lenSl (.tmp 28)⟩,
  ⟨some 30, none, .mov (.const (.int .i64 0))⟩])
 (.block 1 (.loop k_lex_word_p4)))
 (.seq (.region [⟨some 2, none, .mov (.const (.int .i64 0))⟩,
  ⟨some 3, none, .mov (.const (.int .i64 0))⟩])
 .ret)))))⟩
theorem c_lex_word : (XTab.of Tryz.prog).code 113 = some k_lex_word := by kernel_rfl
def k_syntax_parser_next_p0 : ACode := (.seq (.region [⟨some 9, none, .mov (.tmp 0)⟩,
  ⟨some 10, none, .call (.const (.func (.func n_syntax_parser_fail) [] [])) [(.tmp 9), (.const (.int .i64 4))]⟩])
 (.seq (.region [⟨some 11, none, .load 3 true (.tmp 3)⟩,
  ⟨none, none, .store 3 (.tmp 2) (.tmp 11)⟩])
 .ret))
def k_syntax_parser_next_p1 : ACode := (.seq (.region [⟨some 12, none, .mov (.tmp 0)⟩,
  ⟨some 13, none, .mov (.tmp 0)⟩,
  ⟨some 14, none, .nilCheck (.tmp 13)⟩,
  ⟨some 15, none, .fieldAddr 0 (.tmp 14)⟩,
  ⟨some 16, none, .load 1 false (.tmp 15)⟩,
  ⟨some 17, none, .slice 3 (.tmp 16) (some (.const (.int .i64 1))) none none⟩,
  ⟨some 18, none, .nilCheck (.tmp 12)⟩,
  ⟨some 19, none, .fieldAddr 0 (.tmp 18)⟩,
  ⟨none, none, .store 1 (.tmp 19) (.tmp 17)⟩])
 (.seq (.region [⟨some 20, none, .load 3 true (.tmp 3)⟩,
  ⟨none, none, .store 3 (.tmp 2) (.tmp 20)⟩])
 .ret))
def k_syntax_parser_next_p2 : ACode := (.seq (.region [⟨some 4, none, .mov (.tmp 0)⟩,
  ⟨some 5, none, .call (.const (.func (.func n_syntax_parser_peek) [] [])) [(.tmp 4), (.const (.int .i64 0))]⟩,
  ⟨some 3, none, .alloc [(.int .i64 0), (.str []), (.int .i64 0)]⟩,
  ⟨none, none, .store 3 (.tmp 3) (.tmp 5)⟩])
 (.seq (.seq (.region [⟨some 6, none, .fieldAddr 0 (.tmp 3)⟩,
  ⟨some 7, none, .load 1 false (.tmp 6)⟩,
  ⟨some 8, none, .bin .eql (.tmp 7) (.const (.int .i64 0))⟩])
 (.cond (.tmp 8) k_syntax_parser_next_p0 .skip))
 k_syntax_parser_next_p1))
def k_syntax_parser_next : AFun := ⟨21, [.cell 2 3 true], (.seq (.region [⟨some 2, none, .alloc [(.int .i64 0), (.str []), (.int .i64 0)]⟩])
 k_syntax_parser_next_p2)⟩
theorem c_syntax_parser_next : (XTab.of Tryz.prog).code 114 = some k_syntax_parser_next := by kernel_rfl
def k_syntax_parser_term_p0 : ACode := (.region [⟨some 38, none, .mov (.tmp 0)⟩,
  ⟨some 39, none, .call (.const (.func (.func n_syntax_parser_fail) [] [])) [(.tmp 38), (.const (.int .i64 4))]⟩])
def k_syntax_parser_term_p1 : ACode := (.seq (.seq (.region [⟨some 31, none, .mov (.tmp 5)⟩,
  ⟨some 32, none, .eqv true .iface (.tmp 31) (.const .niliface)⟩,
  ⟨some 33, none, .mov (.tmp 32)⟩,
  ⟨some 34, (some (33, false)), .load 3 true (.tmp 6)⟩,
  ⟨some 35, (some (33, false)), .call (.const (.func (.func n_value_May) [] [])) [(.tmp 34)]⟩,
  ⟨some 36, (some (33, false)), .un .not (.tmp 35)⟩,
  ⟨some 37, none, .pick (.tmp 33) (.const (.bool true)) (.tmp 36)⟩])
 (.cond (.tmp 37) k_syntax_parser_term_p0 .skip))
 (.seq (.region [⟨some 40, none, .load 3 true (.tmp 6)⟩,
  ⟨none, none, .store 3 (.tmp 2) (.tmp 40)⟩])
 .ret))
def k_syntax_parser_term_p2 : ACode := (.seq (.region [⟨some 29, none, .mov (.tmp 4)⟩,
  ⟨some 30, none, .build [(.int .i64 0), (.str []), (.int .i64 0)] [(0, 1, (.const (.int .i64 3))), (2, 1, (.tmp 29))]⟩,
  ⟨some 6, none, .alloc [(.int .i64 0), (.str []), (.int .i64 0)]⟩,
  ⟨none, none, .store 3 (.tmp 6) (.tmp 30)⟩])
 k_syntax_parser_term_p1)
def k_syntax_parser_term_p3 : ACode := (.seq (.region [⟨some 24, none, .fieldAddr 1 (.tmp 3)⟩,
  ⟨some 25, none, .load 1 false (.tmp 24)⟩,
  ⟨some 26, none, .call (.const (.func (.func n_strconv_ParseInt) [] [])) [(.tmp 25), (.const (.int .i64 10)), (.const (.int .i64 64))]⟩,
  ⟨some 23, none, .mov (.tmp 26)⟩,
  ⟨some 27, none, .extract 0 (.tmp 23)⟩,
  ⟨some 28, none, .extract 1 (.tmp 23)⟩,
  ⟨some 4, none, .mov (.tmp 27)⟩,
  ⟨some 5, none, .mov (.tmp 28)⟩])
 k_syntax_parser_term_p2)
def k_syntax_parser_term_p4 : ACode := (.seq (.region [⟨some 18, none, .fieldAddr 1 (.tmp 3)⟩,
  ⟨some 19, none, .load 1 false (.tmp 18)⟩,
  ⟨some 20, none, .build [(.int .i64 0), (.str []), (.int .i64 0)] [(0, 1, (.const (.int .i64 2))), (1, 1, (.tmp 19))]⟩,
  ⟨none, none, .store 3 (.tmp 2) (.tmp 20)⟩])
 .ret)
def k_syntax_parser_term_p5 : ACode := (.seq (.region [⟨some 22, none, .bin .eql (.tmp 10) (.const (.int .i64 3))⟩,
  ⟨some 21, none, .mov (.tmp 22)⟩])
 (.cond (.tmp 21) k_syntax_parser_term_p3 .skip))
def k_syntax_parser_term_p6 : ACode := (.seq (.region [⟨some 13, none, .fieldAddr 1 (.tmp 3)⟩,
  ⟨some 14, none, .load 1 false (.tmp 13)⟩,
  ⟨some 15, none, .build [(.int .i64 0), (.str []), (.int .i64 0)] [(0, 1, (.const (.int .i64 1))), (1, 1, (.tmp 14))]⟩,
  ⟨none, none, .store 3 (.tmp 2) (.tmp 15)⟩])
 .ret)
def k_syntax_parser_term_p7 : ACode := (.seq (.region [⟨some 17, none, .bin .eql (.tmp 10) (.const (.int .i64 1))⟩,
  ⟨some 16, none, .mov (.tmp 17)⟩])
 (.cond (.tmp 16) k_syntax_parser_term_p4 k_syntax_parser_term_p5))
def k_syntax_parser_term_p8 : ACode := (.seq (.region [⟨some 9, none, .fieldAddr 0 (.tmp 3)⟩,
  ⟨some 10, none, .load 1 false (.tmp 9)⟩])
 (.block 0 (.seq (.region [⟨some 12, none, .bin .eql (.tmp 10) (.const (.int .i64 2))⟩,
  ⟨some 11, none, .mov (.tmp 12)⟩])
 (.cond (.tmp 11) k_syntax_parser_term_p6 k_syntax_parser_term_p7))))
def k_syntax_parser_term_p9 : ACode := (.seq (.region [⟨some 41, none, .mov (.tmp 0)⟩,
  ⟨some 42, none, .call (.const (.func (.func n_syntax_parser_fail) [] [])) [(.tmp 41), (.const (.int .i64 4))]⟩])
 (.seq (.region [⟨some 43, none, .build [(.int .i64 0), (.str []), (.int .i64 0)] []⟩,
  ⟨none, none, .store 3 (.tmp 2) (.tmp 43)⟩])
 .ret))
def k_syntax_parser_term_p10 : ACode := (.seq (.seq (.region [⟨some 7, none, .mov (.tmp 0)⟩,
  ⟨some 8, none, .call (.const (.func (.func n_syntax_parser_next) [] [])) [(.tmp 7)]⟩,
  ⟨some 3, none, .alloc [(.int .i64 0), (.str []), (.int .i64 0)]⟩,
  ⟨none, none, .store 3 (.tmp 3) (.tmp 8)⟩])
 k_syntax_parser_term_p8)
 k_syntax_parser_term_p9)
def k_syntax_parser_term : AFun := ⟨44, [.cell 2 3 true], (.seq (.region [⟨some 2, none, .alloc [(.int .i64 0), (.str []), (.int .i64 0)]⟩])
 k_syntax_parser_term_p10)⟩
theorem c_syntax_parser_term : (XTab.of Tryz.prog).code 115 = some k_syntax_parser_term := by kernel_rfl
def k_syntax_parser_is_p0 : ACode := (.seq (.region [⟨some 8, none, .fieldAddr 0 (.tmp 5)⟩,
  ⟨some 9, none, .load 1 false (.tmp 8)⟩,
  ⟨some 10, none, .bin .eql (.tmp 9) (.const (.int .i64 4))⟩,
  ⟨some 11, none, .mov (.tmp 10)⟩,
  ⟨some 12, (some (11, true)), .fieldAddr 1 (.tmp 5)⟩,
  ⟨some 13, (some (11, true)), .load 1 false (.tmp 12)⟩,
  ⟨some 14, (some (11, true)), .mov (.tmp 1)⟩,
  ⟨some 15, (some (11, true)), .bin .eql (.tmp 13) (.tmp 14)⟩,
  ⟨some 16, none, .pick (.tmp 11) (.tmp 15) (.const (.bool false))⟩,
  ⟨some 4, none, .mov (.tmp 16)⟩])
 .ret)
def k_syntax_parser_is_p1 : ACode := (.seq (.region [⟨some 6, none, .mov (.tmp 0)⟩,
  ⟨some 7, none, .call (.const (.func (.func n_syntax_parser_peek) [] [])) [(.tmp 6), (.const (.int .i64 0))]⟩,
  ⟨some 5, none, .alloc [(.int .i64 0), (.str []), (.int .i64 0)]⟩,
  ⟨none, none, .store 3 (.tmp 5) (.tmp 7)⟩])
 k_syntax_parser_is_p0)
def k_syntax_parser_is : AFun := ⟨17, [.tmp 4], (.seq (.region [⟨some 4, none, .mov (.const (.bool false))⟩])
 k_syntax_parser_is_p1)⟩
theorem c_syntax_parser_is : (XTab.of Tryz.prog).code 116 = some k_syntax_parser_is := by kernel_rfl
def k_syntax_parser_peek_p0 : ACode := (.seq (.region [⟨some 19, none, .build [(.int .i64 0), (.str []), (.int .i64 0)] []⟩,
  ⟨none, none, .store 3 (.tmp 4) (.tmp 19)⟩])
 .ret)
def k_syntax_parser_peek_p1 : ACode := (.seq (.region [⟨some 20, none, .mov (.tmp 0)⟩,
  ⟨some 21, none, .nilCheck (.tmp 20)⟩,
  ⟨some 22, none, .fieldAddr 0 (.tmp 21)⟩,
  ⟨some 23, none, .load 1 false (.tmp 22)⟩,
  ⟨some 24, none, .mov (.tmp 1)⟩,
  ⟨some 25, none, .indexAddr 3 (.tmp 23) (.tmp 24)⟩,
  ⟨some 26, none, .load 3 true (.tmp 25)⟩,
  ⟨none, none, .store 3 (.tmp 4) (.tmp 26)⟩])
 .ret)
def k_syntax_parser_peek_p2 : ACode := (.seq (.seq (.region [⟨some 5, none, .mov (.tmp 0)⟩,
  ⟨some 6, none, .nilCheck (.tmp 5)⟩,
  ⟨some 7, none, .fieldAddr 2 (.tmp 6)⟩,
  ⟨some 8, none, .load 1 false (.tmp 7)⟩,
  ⟨some 9, none, .bin .neq (.tmp 8) (.const (.int .i64 0))⟩,
  ⟨some 10, none, .mov (.tmp 9)⟩,
  ⟨some 11, (some (10, false)), .mov (.tmp 1)⟩,
  ⟨some 12, (some (10, false)), .mov (.tmp 0)⟩,
  ⟨some 13, (some (10, false)), .nilCheck (.tmp 12)⟩,
  ⟨some 14, (some (10, false)), .fieldAddr 0 (.tmp 13)⟩,
  ⟨some 15, (some (10, false)), .load 1 false (.tmp 14)⟩,
  ⟨some 16, (some (10, false)), .lenSl (.tmp 15)⟩,
  ⟨some 17, (some (10, false)), .bin .geq (.tmp 11) (.tmp 16)⟩,
  ⟨some 18, none, .pick (.tmp 10) (.const (.bool true)) (.tmp 17)⟩])
 (.cond (.tmp 18) k_syntax_parser_peek_p0 .skip))
 k_syntax_parser_peek_p1)
def k_syntax_parser_peek : AFun := ⟨27, [.cell 4 3 true], (.seq (.region [⟨some 4, none, .alloc [(.int .i64 0), (.str []), (.int .i64 0)]⟩])
 k_syntax_parser_peek_p2)⟩
theorem c_syntax_parser_peek : (XTab.of Tryz.prog).code 117 = some k_syntax_parser_peek := by kernel_rfl
def k_syntax_sign_p0 : ACode := (.seq (.region [⟨some 2, none, .mov (.const (.int .i64 0))⟩])
 .ret)
def k_syntax_sign_p1 : ACode := (.seq (.region [⟨some 2, none, .mov (.const (.int .i64 6))⟩])
 .ret)
def k_syntax_sign_p2 : ACode := (.seq (.region [⟨some 2, none, .mov (.const (.int .i64 5))⟩])
 .ret)
def k_syntax_sign_p3 : ACode := (.seq (.region [⟨some 15, none, .bin .eql (.tmp 7) (.const (.str [60, 61]))⟩,
  ⟨some 14, none, .mov (.tmp 15)⟩])
 (.cond (.tmp 14) k_syntax_sign_p1 .skip))
def k_syntax_sign_p4 : ACode := (.seq (.region [⟨some 2, none, .mov (.const (.int .i64 4))⟩])
 .ret)
def k_syntax_sign_p5 : ACode := (.seq (.region [⟨some 13, none, .bin .eql (.tmp 7) (.const (.str [60]))⟩,
  ⟨some 12, none, .mov (.tmp 13)⟩])
 (.cond (.tmp 12) k_syntax_sign_p2 k_syntax_sign_p3))
def k_syntax_sign_p6 : ACode := (.seq (.region [⟨some 2, none, .mov (.const (.int .i64 3))⟩])
 .ret)
def k_syntax_sign_p7 : ACode := (.seq (.region [⟨some 11, none, .bin .eql (.tmp 7) (.const (.str [33, 61]))⟩,
  ⟨some 10, none, .mov (.tmp 11)⟩])
 (.cond (.tmp 10) k_syntax_sign_p4 k_syntax_sign_p5))
def k_syntax_sign_p8 : ACode := (.seq (.seq (.region [⟨some 6, none, .fieldAddr 1 (.tmp 1)⟩,
  ⟨some 7, none, .load 1 false (.tmp 6)⟩])
 (.block 0 (.seq (.region [⟨some 9, none, .bin .eql (.tmp 7) (.const (.str [61]))⟩,
  ⟨some 8, none, .mov (.tmp 9)⟩])
 (.cond (.tmp 8) k_syntax_sign_p6 k_syntax_sign_p7))))
 (.seq (.region [⟨some 2, none, .mov (.const (.int .i64 0))⟩])
 .ret))
def k_syntax_sign : AFun := ⟨16, [.tmp 2], (.seq (.region [⟨some 1, none, .box (.tmp 0)⟩,
  ⟨some 2, none, .mov (.const (.int .i64 0))⟩])
 (.seq (.seq (.region [⟨some 3, none, .fieldAddr 0 (.tmp 1)⟩,
  ⟨some 4, none, .load 1 false (.tmp 3)⟩,
  ⟨some 5, none, .bin .neq (.tmp 4) (.const (.int .i64 4))⟩])
 (.cond (.tmp 5) k_syntax_sign_p0 .skip))
 k_syntax_sign_p8))⟩
theorem c_syntax_sign : (XTab.of Tryz.prog).code 118 = some k_syntax_sign := by kernel_rfl
def k_strings_IndexByte : AFun := ⟨8, [.tmp 4], (.seq (.region [⟨some 4, none, .mov (.const (.int .i64 0))⟩])
 (.seq (.region [⟨some 5, none, .mov (.tmp 0)⟩,
  ⟨some 6, none, .mov (.tmp 1)⟩,
  ⟨some 7, none, .call (.const (.func (.func n_int_stringslite_IndexByte) [] [])) [(.tmp 5), (.tmp 6)]⟩,
  ⟨some 4, none, .mov (.tmp 7)⟩])
 .ret))⟩
theorem c_strings_IndexByte : (XTab.of Tryz.prog).code 133 = some k_strings_IndexByte := by kernel_rfl
def k_lex_small : AFun := ⟨9, [.tmp 2], (.seq (.region [⟨some 2, none, .mov (.const (.bool false))⟩])
 (.seq (.region [⟨some 3, none, .mov (.tmp 0)⟩,
  ⟨some 4, none, .bin .geq (.tmp 3) (.const (.int .u8 97))⟩,
  ⟨some 5, none, .mov (.tmp 4)⟩,
  ⟨some 6, (some (5, true)), .mov (.tmp 0)⟩,
  ⟨some 7, (some (5, true)), .bin .leq (.tmp 6) (.const (.int .u8 122))⟩,
  ⟨some 8, none, .pick (.tmp 5) (.tmp 7) (.const (.bool false))⟩,
  ⟨some 2, none, .mov (.tmp 8)⟩])
 .ret))⟩
theorem c_lex_small : (XTab.of Tryz.prog).code 134 = some k_lex_small := by kernel_rfl
def k_lex_run_p0 : ACode := (.seq (.seq (.region [⟨some 6, none, .mov (.tmp 5)⟩,
  ⟨some 7, none, .mov (.tmp 0)⟩,
  ⟨some 8, none, .lenStr (.tmp 7)⟩,
  ⟨some 9, none, .bin .lss (.tmp 6) (.tmp 8)⟩,
  ⟨some 10, none, .mov (.tmp 9)⟩,
  ⟨some 11, (some (10, true)), .mov (.tmp 1)⟩,
  ⟨some 12, (some (10, true)), .mov (.tmp 0)⟩,
  ⟨some 13, (some (10, true)), .mov (.tmp 5)⟩,
  ⟨some 14, (some (10, true)), .indexStr (.tmp 12) (.tmp 13)⟩,
  ⟨some 15, (some (10, true)), .call (.tmp 11) [(.tmp 14)]⟩,
  ⟨some 16, none, .pick (.tmp 10) (.tmp 15) (.const (.bool false))⟩])
 (.cond (.tmp 16) .skip (.exit 0)))
 (.block 1 (.region [⟨some 17, none, .mov (.tmp 5)⟩,
  ⟨some 18, none, .bin .add (.tmp 17) (.const (.int .i64 1))⟩,
  ⟨some 5, none, .mov (.tmp 18)⟩])))
def k_lex_run : AFun := ⟨20, [.tmp 4], (.seq (.region [⟨some 4, none, .mov (.const (.int .i64 0))⟩])
 (.seq (.region [⟨some 5, none, .mov (.const (.int .i64 0))⟩])
 (.seq (.block 0 (.loop k_lex_run_p0))
 (.seq (.region [⟨some 19, none, .mov (.tmp 5)⟩,
  ⟨some 4, none, .mov (.tmp 19)⟩])
 .ret))))⟩
theorem c_lex_run : (XTab.of Tryz.prog).code 135 = some k_lex_run := by kernel_rfl
def k_lex_named : AFun := ⟨13, [.tmp 2], (.seq (.region [⟨some 2, none, .mov (.const (.bool false))⟩])
 (.seq (.region [⟨some 3, none, .mov (.tmp 0)⟩,
  ⟨some 4, none, .call (.const (.func (.func n_lex_small) [] [])) [(.tmp 3)]⟩,
  ⟨some 5, none, .mov (.tmp 4)⟩,
  ⟨some 6, (some (5, false)), .mov (.tmp 0)⟩,
  ⟨some 7, (some (5, false)), .call (.const (.func (.func n_lex_digit) [] [])) [(.tmp 6)]⟩,
  ⟨some 8, none, .pick (.tmp 5) (.const (.bool true)) (.tmp 7)⟩,
  ⟨some 9, none, .mov (.tmp 8)⟩,
  ⟨some 10, (some (9, false)), .mov (.tmp 0)⟩,
  ⟨some 11, (some (9, false)), .bin .eql (.tmp 10) (.const (.int .u8 95))⟩,
  ⟨some 12, none, .pick (.tmp 9) (.const (.bool true)) (.tmp 11)⟩,
  ⟨some 2, none, .mov (.tmp 12)⟩])
 .ret))⟩
theorem c_lex_named : (XTab.of Tryz.prog).code 136 = some k_lex_named := by kernel_rfl
def k_lex_great : AFun := ⟨9, [.tmp 2], (.seq (.region [⟨some 2, none, .mov (.const (.bool false))⟩])
 (.seq (.region [⟨some 3, none, .mov (.tmp 0)⟩,
  ⟨some 4, none, .bin .geq (.tmp 3) (.const (.int .u8 65))⟩,
  ⟨some 5, none, .mov (.tmp 4)⟩,
  ⟨some 6, (some (5, true)), .mov (.tmp 0)⟩,
  ⟨some 7, (some (5, true)), .bin .leq (.tmp 6) (.const (.int .u8 90))⟩,
  ⟨some 8, none, .pick (.tmp 5) (.tmp 7) (.const (.bool false))⟩,
  ⟨some 2, none, .mov (.tmp 8)⟩])
 .ret))⟩
theorem c_lex_great : (XTab.of Tryz.prog).code 137 = some k_lex_great := by kernel_rfl
def k_lex_word_1 : AFun := ⟨9, [.tmp 2], (.seq (.region [⟨some 2, none, .mov (.const (.bool false))⟩])
 (.seq (.region [⟨some 3, none, .mov (.tmp 0)⟩,
  ⟨some 4, none, .call (.const (.func (.func n_lex_named) [] [])) [(.tmp 3)]⟩,
  ⟨some 5, none, .mov (.tmp 4)⟩,
  ⟨some 6, (some (5, false)), .mov (.tmp 0)⟩,
  ⟨some 7, (some (5, false)), .call (.const (.func (.func n_lex_great) [] [])) [(.tmp 6)]⟩,
  ⟨some 8, none, .pick (.tmp 5) (.const (.bool true)) (.tmp 7)⟩,
  ⟨some 2, none, .mov (.tmp 8)⟩])
 .ret))⟩
theorem c_lex_word_1 : (XTab.of Tryz.prog).code 138 = some k_lex_word_1 := by kernel_rfl
def k_lex_digit : AFun := ⟨9, [.tmp 2], (.seq (.region [⟨some 2, none, .mov (.const (.bool false))⟩])
 (.seq (.region [⟨some 3, none, .mov (.tmp 0)⟩,
  ⟨some 4, none, .bin .geq (.tmp 3) (.const (.int .u8 48))⟩,
  ⟨some 5, none, .mov (.tmp 4)⟩,
  ⟨some 6, (some (5, true)), .mov (.tmp 0)⟩,
  ⟨some 7, (some (5, true)), .bin .leq (.tmp 6) (.const (.int .u8 57))⟩,
  ⟨some 8, none, .pick (.tmp 5) (.tmp 7) (.const (.bool false))⟩,
  ⟨some 2, none, .mov (.tmp 8)⟩])
 .ret))⟩
theorem c_lex_digit : (XTab.of Tryz.prog).code 139 = some k_lex_digit := by kernel_rfl
def k_lex_number_p0 : ACode := (.region [⟨some 18, none, .mov (.tmp 3)⟩,
  ⟨some 19, none, .bin .eql (.tmp 18) (.const (.int .i64 1))⟩,
  ⟨some 20, none, .mov (.tmp 19)⟩,
  ⟨some 21, (some (20, true)), .mov (.tmp 0)⟩,
  ⟨some 22, (some (20, true)), .indexStr (.tmp 21) (.const (.int .i64 1))⟩,
  ⟨some 23, (some (20, true)), .bin .eql (.tmp 22) (.const (.int .u8 48))⟩,
  ⟨some 24, none, .pick (.tmp 20) (.tmp 23) (.const (.bool false))⟩,
  ⟨some 15, none, .mov (.tmp 24)⟩])
def k_lex_number_p1 : ACode := (.seq (.region [⟨some 26, none, .mov (.tmp 0)⟩,
  ⟨some 27, none, .mov (.tmp 3)⟩,
  ⟨some 28, none, .indexStr (.tmp 26) (.tmp 27)⟩,
  ⟨some 29, none, .bin .eql (.tmp 28) (.const (.int .u8 48))⟩,
  ⟨some 25, none, .mov (.tmp 29)⟩])
 (.cond (.tmp 25) (.seq (.region [⟨some 2, none, .mov (.const (.int .i64 1))⟩])
 .ret) (.seq (.region [⟨some 12, none, .mov (.tmp 3)⟩,
  ⟨some 13, none, .mov (.tmp 4)⟩,
  ⟨some 14, none, .bin .add (.tmp 12) (.tmp 13)⟩,
  ⟨some 2, none, .mov (.tmp 14)⟩])
 .ret)))
def k_lex_number_p2 : ACode := (.seq (.seq (.region [⟨some 16, none, .mov (.tmp 4)⟩,
  ⟨some 17, none, .bin .eql (.tmp 16) (.const (.int .i64 0))⟩,
  ⟨some 15, none, .mov (.tmp 17)⟩])
 (.cond (.tmp 15) .skip k_lex_number_p0))
 (.cond (.tmp 15) (.seq (.region [⟨some 2, none, .mov (.const (.int .i64 0))⟩])
 .ret) k_lex_number_p1))
def k_lex_number : AFun := ⟨30, [.tmp 2], (.seq (.region [⟨some 2, none, .mov (.const (.int .i64 0))⟩])
 (.seq (.region [⟨some 3, none, .mov (.const (.int .i64 0))⟩])
 (.seq (.seq (.region [⟨some 5, none, .mov (.tmp 0)⟩,
  ⟨some 6, none, .indexStr (.tmp 5) (.const (.int .i64 0))⟩,
  ⟨some 7, none, .bin .eql (.tmp 6) (.const (.int .u8 45))⟩])
 (.cond (.tmp 7) (.region [⟨some 3, none, .mov (.const (.int .i64 1))⟩]) .skip))
 (.seq (.region [⟨some 8, none, .mov (.tmp 0)⟩,
  ⟨some 9, none, .mov (.tmp 3)⟩,
  ⟨some 10, none, .sliceStr (.tmp 8) (some (.tmp 9)) none⟩,
  ⟨some 11, none, .call (.const (.func (.func n_lex_run) [] [])) [(.tmp 10), (.const (.func (.func n_lex_digit) [] []))]⟩,
  ⟨some 4, none, .mov (.tmp 11)⟩])
 (.block 0 k_lex_number_p2)))))⟩
theorem c_lex_number : (XTab.of Tryz.prog).code 140 = some k_lex_number := by kernel_rfl
def k_strings_HasPrefix : AFun := ⟨8, [.tmp 4], (.seq (.region [⟨some 4, none, .mov (.const (.bool false))⟩])
 (.seq (.region [⟨some 5, none, .mov (.tmp 0)⟩,
  ⟨some 6, none, .mov (.tmp 1)⟩,
  ⟨some 7, none, .call (.const (.func (.func n_int_stringslite_HasPrefix) [] [])) [(.tmp 5), (.tmp 6)]⟩,
  ⟨some 4, none, .mov (.tmp 7)⟩])
 .ret))⟩
theorem c_strings_HasPrefix : (XTab.of Tryz.prog).code 141 = some k_strings_HasPrefix := by kernel_rfl
end Go.Proofs.YtegdcbdicpfbpaaGreatDoor
set_option maxRecDepth 100000
set_option linter.unusedVariables false
namespace Go.Proofs.YtegdcbdicpfbpaaGreatDoor
open Go.AE
def k_int_stringslite_IndexByte : AFun := ⟨8, [.tmp 4], (.seq (.region [⟨some 4, none, .mov (.const (.int .i64 0))⟩])
 (.seq (.region [⟨some 5, none, .mov (.tmp 0)⟩,
  ⟨some 6, none, .mov (.tmp 1)⟩,
  ⟨some 7, none, .call (.const (.func (.func n_int_bytealg_IndexByteString) [] [])) [(.tmp 5), (.tmp 6)]⟩,
  ⟨some 4, none, .mov (.tmp 7)⟩])
 .ret))⟩
theorem c_int_stringslite_IndexByte : (XTab.of Tryz.prog).code 152 = some k_int_stringslite_IndexByte := by kernel_rfl
def k_int_stringslite_HasPrefix : AFun := ⟨18, [.tmp 4], (.seq (.region [⟨some 4, none, .mov (.const (.bool false))⟩])
 (.seq (.region [⟨some 5, none, .mov (.tmp 0)⟩,
  ⟨some 6, none, .lenStr (.tmp 5)⟩,
  ⟨some 7, none, .mov (.tmp 1)⟩,
  ⟨some 8, none, .lenStr (.tmp 7)⟩,
  ⟨some 9, none, .bin .geq (.tmp 6) (.tmp 8)⟩,
  ⟨some 10, none, .mov (.tmp 9)⟩,
  ⟨some 11, (some (10, true)), .mov (.tmp 0)⟩,
  ⟨some 12, (some (10, true)), .mov (.tmp 1)⟩,
  ⟨some 13, (some (10, true)), .lenStr (.tmp 12)⟩,
  ⟨some 14, (some (10, true)), .sliceStr (.tmp 11) none (some (.tmp 13))⟩,
  ⟨some 15, (some (10, true)), .mov (.tmp 1)⟩,
  ⟨some 16, (some (10, true)), .bin .eql (.tmp 14) (.tmp 15)⟩,
  ⟨some 17, none, .pick (.tmp 10) (.tmp 16) (.const (.bool false))⟩,
  ⟨some 4, none, .mov (.tmp 17)⟩])
 .ret))⟩
theorem c_int_stringslite_HasPrefix : (XTab.of Tryz.prog).code 153 = some k_int_stringslite_HasPrefix := by kernel_rfl
end Go.Proofs.YtegdcbdicpfbpaaGreatDoor
set_option maxRecDepth 100000
set_option linter.unusedVariables false
namespace Go.Proofs.YtegdcbdicpfbpaaGreatDoor
open Go.AE
end Go.Proofs.YtegdcbdicpfbpaaGreatDoor
namespace Go.Proofs.YtegdcbdicpfbpaaGreatDoor
open Go.AE
structure Codes (tab : Tab) : Prop where
  c_law8_SyntaxPrint : tab.code 5 = some k_law8_SyntaxPrint
  c_law8_begun : tab.code 19 = some k_law8_begun
  c_ref8_Program : tab.code 20 = some k_ref8_Program
  c_law1_Cut : tab.code 21 = some k_law1_Cut
  c_syntax_Print : tab.code 22 = some k_syntax_Print
  c_ref8_PrintRule : tab.code 23 = some k_ref8_PrintRule
  c_syntax_Program : tab.code 24 = some k_syntax_Program
  c_ref8_EqRules : tab.code 25 = some k_ref8_EqRules
  c_syntax_Fact : tab.code 38 = some k_syntax_Fact
  c_ref8_Scan : tab.code 39 = some k_ref8_Scan
  c_ref8_P_atom : tab.code 40 = some k_ref8_P_atom
  c_ref8_P_sign : tab.code 41 = some k_ref8_P_sign
  c_ref8_P_literal : tab.code 42 = some k_ref8_P_literal
  c_ref8_P_bad : tab.code 43 = some k_ref8_P_bad
  c_ref8_P_eat : tab.code 44 = some k_ref8_P_eat
  c_syntax_literal : tab.code 45 = some k_syntax_literal
  c_ref8_Atom : tab.code 47 = some k_ref8_Atom
  c_ref8_Print : tab.code 48 = some k_ref8_Print
  c_ref8_sign : tab.code 49 = some k_ref8_sign
  c_syntax_open : tab.code 50 = some k_syntax_open
  c_syntax_parser_end : tab.code 51 = some k_syntax_parser_end
  c_syntax_parser_clause : tab.code 52 = some k_syntax_parser_clause
  c_syntax_parser_fail : tab.code 53 = some k_syntax_parser_fail
  c_ref8_EqRule : tab.code 54 = some k_ref8_EqRule
  c_value_May : tab.code 55 = some k_value_May
  c_ref8_Eq : tab.code 59 = some k_ref8_Eq
  c_syntax_single : tab.code 70 = some k_syntax_single
  c_ref8_word : tab.code 71 = some k_ref8_word
  c_ref8_P_term : tab.code 72 = some k_ref8_P_term
  c_ref8_compare : tab.code 73 = some k_ref8_compare
  c_syntax_between : tab.code 74 = some k_syntax_between
  c_value_Print : tab.code 75 = some k_value_Print
  c_value_Atom : tab.code 76 = some k_value_Atom
  c_ref8_dec : tab.code 80 = some k_ref8_dec
  c_lex_Front : tab.code 81 = some k_lex_Front
  c_syntax_parser_atom : tab.code 82 = some k_syntax_parser_atom
  c_syntax_parser_take : tab.code 83 = some k_syntax_parser_take
  c_syntax_parser_literal : tab.code 84 = some k_syntax_parser_literal
  c_syntax_parser_must : tab.code 85 = some k_syntax_parser_must
  c_ref8_EqLiteral : tab.code 86 = some k_ref8_EqLiteral
  c_value_Word : tab.code 87 = some k_value_Word
  c_ref8_small : tab.code 106 = some k_ref8_small
  c_ref8_digit : tab.code 107 = some k_ref8_digit
  c_ref8_great : tab.code 108 = some k_ref8_great
  c_lex_blank : tab.code 112 = some k_lex_blank
  c_lex_word : tab.code 113 = some k_lex_word
  c_syntax_parser_next : tab.code 114 = some k_syntax_parser_next
  c_syntax_parser_term : tab.code 115 = some k_syntax_parser_term
  c_syntax_parser_is : tab.code 116 = some k_syntax_parser_is
  c_syntax_parser_peek : tab.code 117 = some k_syntax_parser_peek
  c_syntax_sign : tab.code 118 = some k_syntax_sign
  c_strings_IndexByte : tab.code 133 = some k_strings_IndexByte
  c_lex_small : tab.code 134 = some k_lex_small
  c_lex_run : tab.code 135 = some k_lex_run
  c_lex_named : tab.code 136 = some k_lex_named
  c_lex_great : tab.code 137 = some k_lex_great
  c_lex_word_1 : tab.code 138 = some k_lex_word_1
  c_lex_digit : tab.code 139 = some k_lex_digit
  c_lex_number : tab.code 140 = some k_lex_number
  c_strings_HasPrefix : tab.code 141 = some k_strings_HasPrefix
  c_int_stringslite_IndexByte : tab.code 152 = some k_int_stringslite_IndexByte
  c_int_stringslite_HasPrefix : tab.code 153 = some k_int_stringslite_HasPrefix
theorem codesOf {tab : Tab} (h : tab.code = (XTab.of Tryz.prog).code) : Codes tab where
  c_law8_SyntaxPrint := h ▸ c_law8_SyntaxPrint
  c_law8_begun := h ▸ c_law8_begun
  c_ref8_Program := h ▸ c_ref8_Program
  c_law1_Cut := h ▸ c_law1_Cut
  c_syntax_Print := h ▸ c_syntax_Print
  c_ref8_PrintRule := h ▸ c_ref8_PrintRule
  c_syntax_Program := h ▸ c_syntax_Program
  c_ref8_EqRules := h ▸ c_ref8_EqRules
  c_syntax_Fact := h ▸ c_syntax_Fact
  c_ref8_Scan := h ▸ c_ref8_Scan
  c_ref8_P_atom := h ▸ c_ref8_P_atom
  c_ref8_P_sign := h ▸ c_ref8_P_sign
  c_ref8_P_literal := h ▸ c_ref8_P_literal
  c_ref8_P_bad := h ▸ c_ref8_P_bad
  c_ref8_P_eat := h ▸ c_ref8_P_eat
  c_syntax_literal := h ▸ c_syntax_literal
  c_ref8_Atom := h ▸ c_ref8_Atom
  c_ref8_Print := h ▸ c_ref8_Print
  c_ref8_sign := h ▸ c_ref8_sign
  c_syntax_open := h ▸ c_syntax_open
  c_syntax_parser_end := h ▸ c_syntax_parser_end
  c_syntax_parser_clause := h ▸ c_syntax_parser_clause
  c_syntax_parser_fail := h ▸ c_syntax_parser_fail
  c_ref8_EqRule := h ▸ c_ref8_EqRule
  c_value_May := h ▸ c_value_May
  c_ref8_Eq := h ▸ c_ref8_Eq
  c_syntax_single := h ▸ c_syntax_single
  c_ref8_word := h ▸ c_ref8_word
  c_ref8_P_term := h ▸ c_ref8_P_term
  c_ref8_compare := h ▸ c_ref8_compare
  c_syntax_between := h ▸ c_syntax_between
  c_value_Print := h ▸ c_value_Print
  c_value_Atom := h ▸ c_value_Atom
  c_ref8_dec := h ▸ c_ref8_dec
  c_lex_Front := h ▸ c_lex_Front
  c_syntax_parser_atom := h ▸ c_syntax_parser_atom
  c_syntax_parser_take := h ▸ c_syntax_parser_take
  c_syntax_parser_literal := h ▸ c_syntax_parser_literal
  c_syntax_parser_must := h ▸ c_syntax_parser_must
  c_ref8_EqLiteral := h ▸ c_ref8_EqLiteral
  c_value_Word := h ▸ c_value_Word
  c_ref8_small := h ▸ c_ref8_small
  c_ref8_digit := h ▸ c_ref8_digit
  c_ref8_great := h ▸ c_ref8_great
  c_lex_blank := h ▸ c_lex_blank
  c_lex_word := h ▸ c_lex_word
  c_syntax_parser_next := h ▸ c_syntax_parser_next
  c_syntax_parser_term := h ▸ c_syntax_parser_term
  c_syntax_parser_is := h ▸ c_syntax_parser_is
  c_syntax_parser_peek := h ▸ c_syntax_parser_peek
  c_syntax_sign := h ▸ c_syntax_sign
  c_strings_IndexByte := h ▸ c_strings_IndexByte
  c_lex_small := h ▸ c_lex_small
  c_lex_run := h ▸ c_lex_run
  c_lex_named := h ▸ c_lex_named
  c_lex_great := h ▸ c_lex_great
  c_lex_word_1 := h ▸ c_lex_word_1
  c_lex_digit := h ▸ c_lex_digit
  c_lex_number := h ▸ c_lex_number
  c_strings_HasPrefix := h ▸ c_strings_HasPrefix
  c_int_stringslite_IndexByte := h ▸ c_int_stringslite_IndexByte
  c_int_stringslite_HasPrefix := h ▸ c_int_stringslite_HasPrefix
end Go.Proofs.YtegdcbdicpfbpaaGreatDoor
set_option linter.unusedVariables false
set_option linter.unusedSectionVars false
set_option linter.unusedSimpArgs false
namespace Go.AE
variable [Globs]
end Go.AE
set_option linter.unusedVariables false
set_option linter.unusedSectionVars false
set_option linter.unusedSimpArgs false
open Go.RowKit
namespace Go.AE
variable [Globs]
theorem BR.same {aw : AW} {m : Map} {w w' : World} {b : Nat} {e : Emb} (h : w'.heap[e.c]? = w.heap[e.c]?) : ∀ {x : Blk}, BR aw m w b e x → BR aw m w' b e x := by
  intro x hx
  cases x with
  | cells l sh => intro ha; obtain ⟨cur, t, lo, hi, h1, h2⟩ := hx ha; exact ⟨cur, t, lo, hi, h.trans h1, h2⟩
  | map es ck => obtain ⟨es', h1, h2⟩ := hx; exact ⟨es', h.trans h1, h2⟩
  | mapIter x s q l => obtain ⟨h0, r, h1, h2⟩ := hx; exact ⟨h0, r, h.trans h1, h2⟩
theorem R.below {aw : AW} {w w' : World} {m : Map} {base : Nat} (hR : R aw w m base) (h : Below w.heap.size w w') : R aw w' m base ∧ Goes aw aw w w' m m := by
  have hb : ∀ b e, m b = some e → w'.heap[e.c]? = w.heap[e.c]? := fun b e he => h.block e.c (hR.lt b e he).2
  refine ⟨⟨hR.glob, hR.gblk, hR.famlt, Nat.le_trans hR.size h.size, fun b e he => ⟨(hR.lt b e he).1, Nat.lt_of_lt_of_le (hR.lt b e he).2 h.size⟩, hR.base, fun b e x he hx => (hR.blk b e x he hx).same (hb b e he), hR.apart, hR.fam⟩, ?_⟩
  exact ⟨.refl m, fun b e he => .inl he, Nat.le_refl _, h.size, h.os, h.tape, h.output, fun b l hl _ => hl, fun b l hl _ => ⟨l, hl⟩, fun c hc _ => h.block c hc, fun b _ hx => hx, fun _ _ _ => rfl⟩
def idxN : List Nat → Nat → Option Nat
  | [], _ => none
  | b :: l, c => match Nat.beq b c with
    | true => some 0
    | false => match idxN l c with
      | some n => some (n + 1)
      | none => none
def idxV (o : Option Nat) : V :=
  match o with
  | some n => .int .i64 (Int.ofNat n)
  | none => .int .i64 (-1)
def extIdx (args : List V) : Option V :=
  match args with
  | [.str l, .int .u8 (.ofNat c)] => match Nat.blt c 256 with
    | true => some (idxV (idxN l c))
    | false => none
  | _ => none
theorem idxN_ok {c : Nat} (hc : c < 256) : ∀ (l : List UInt8), V.int .i64 (Lib.indexByte l c.toUInt8) = idxV (idxN (l.map UInt8.toNat) c)
  | [] => rfl
  | b :: l => by
    have ih := idxN_ok hc l
    have hb : (b == c.toUInt8) = Nat.beq b.toNat c := by
      cases h : Nat.beq b.toNat c with
      | true =>
        have := Nat.eq_of_beq_eq_true h
        rw [beq_iff_eq]
        apply UInt8.toNat.inj
        rw [this]
        simp only [Nat.toUInt8, UInt8.toNat_ofNat']
        omega
      | false =>
        rw [beq_eq_false_iff_ne]
        intro he
        subst he
        have : (Nat.toUInt8 c).toNat = c := by simp only [Nat.toUInt8, UInt8.toNat_ofNat']; omega
        rw [this, Nat.beq_refl] at h; cases h
    simp only [Lib.indexByte, List.map_cons, idxN]
    rw [hb]
    cases h : Nat.beq b.toNat c with
    | true => rfl
    | false =>
      simp only [Bool.false_eq_true, if_false]
      cases hn : idxN (l.map UInt8.toNat) c with
      | none =>
        rw [hn] at ih
        simp only [idxV, V.int.injEq, true_and] at ih ⊢
        rw [ih]; rfl
      | some n =>
        rw [hn] at ih
        simp only [idxV, V.int.injEq, true_and] at ih ⊢
        rw [ih]
        have : (Int.ofNat n == -1) = false := by rw [beq_eq_false_iff_ne]; intro hh; cases hh
        rw [this]
        rfl
theorem extIdx_ok {P : Program} {f : Nat} {fn : Func} (hf : P.funcs[f]? = some fn) (h1 : (fn.name == "runtime.NumGoroutine") = false) (h2 : fn.body.isNone = true) (h3 : Extern.findNext fn = none) (h4 : Extern.find fn = some Extern.BytealgIndexByte.indexByte)
    {args : List V} {v : V} (h : extIdx args = some v) (w : World) (m : Map) (args' : Array Value) (hargs : VRs m args args'.toList) : ∃ v', (callFunc f args').run P w = .ok (.value v') w ∧ VR m v v' := by
  unfold extIdx at h
  split at h
  · rename_i l c
    split at h
    · rename_i hc
      cases h
      have hc := Nat.blt_eq.mp hc
      obtain ⟨y, ys, e1, ⟨s, rfl, hs⟩, e2⟩ := hargs
      obtain ⟨y2, ys2, e3, rfl, e4⟩ := e2
      cases e4
      obtain rfl : args' = #[.string s, .int .u8 (Int.ofNat c)] := by cases args'; simp_all
      refine ⟨_, by rw [run_callFunc_extern hf h1 h2 h3 h4, Lib.run_indexByteString]; rfl, ?_⟩
      have hx := idxN_ok hc s.data.toList
      have hl : s.data.toList.map UInt8.toNat = l := hs
      rw [hl] at hx
      rw [← hx]
      rfl
    · cases h
  · cases h
theorem ext_still {P : Program} {f : Nat} {v : V} {aw : AW} {w : World} {m : Map} {base : Nat} {args' : Array Value} (hR : R aw w m base) (h : ∃ v', (callFunc f args').run P w = .ok (.value v') w ∧ VR m v v') : ∃ v' w' m', (callFunc f args').run P w = .ok (.value v') w' ∧ VR m' v v' ∧ R aw w' m' base ∧ Goes aw aw w w' m m' := by
  obtain ⟨v', h1, h2⟩ := h
  exact ⟨v', w, m, h1, h2, hR, .refl _ _ _⟩
end Go.AE
set_option linter.unusedVariables false
set_option linter.unusedSectionVars false
set_option linter.unusedSimpArgs false
open Go.RowKit Go.WideShapes Go.ChangeShapes
namespace Go.AE
variable [Globs]
theorem Goes.belowRo {aw aw' : AW} {w w' : World} {m m' : Map} (h : Goes aw aw' w w' m m') (hm : ∀ b e x, m b = some e → aw.heap.get b = some x → ∃ l, x = .cells l .ro) : Below w.heap.size w w' :=
  ⟨h.os, h.tape, h.output, h.size, fun k hk => h.frame k hk fun b e x hb hx hro => by obtain ⟨l, hl⟩ := hm b e x hb hx; exact absurd hl (hro l)⟩
section
variable {H : Type} {enc : TypeId × Value → H} {P : Program}
theorem below_trodAll (hl : laidOutB P = true) {W W' : World} (hb : Below W.heap.size W W') : ∀ {ts : List TypeId} {vs : List Value} {ds : List (DataW H)} {ps : List MemPlace}, (∀ t ∈ ts, P.readableRec t = true ∧ t < P.types.size) →
    DataW.TrodAll enc P W 0 (fun _ => true) true ts vs ds ps → (∀ x ∈ ps, x.block < W.heap.size) → DataW.TrodAll enc P W' 0 (fun b => decide (b < W.heap.size)) true ts vs ds ps
  | [], vs, ds, ps, _, h, _ => by
    obtain ⟨rfl, rfl, rfl⟩ := trodAll_nil h
    exact trodAll_mk0
  | t :: ts, vs, ds, ps, hr, h, hlt => by
    obtain ⟨v, vs', d, ds', p, q, rfl, rfl, rfl, hd, hrest⟩ := trodAll_cons h
    have h1 := hr t (by simp)
    exact trodAll_cons_mk (Below.trod hl h1.1 h1.2 hd hb (fun x hx => hlt x (by simp [hx]))) (below_trodAll hl hb (fun t ht => hr t (by simp [ht])) hrest (fun x hx => hlt x (by simp [hx])))
theorem law_post {f : Func} {s : ChangeSpec} {apart fresh handsOn : Bool} {W W' : World} {args : Array Value} {ds gs : List (DataW H)} {before : List MemPlace} {tb : TypeId}
    (hW : DataW.Whole enc P f.params.toList s.vars apart W args.toList ds gs before) (hl : laidOutB P = true) (hr : ∀ t ∈ f.params.toList, P.readableRec t = true ∧ t < P.types.size)
    (hb : Below W.heap.size W W') (hsv : s.vars = []) (hres : f.resultTypes = #[tb]) (htb : P.underlying tb = some .bool) (hfn : (s.fn H (ds ++ gs)).results = [.lit (.bool true)]) (hfa : (s.fn H (ds ++ gs)).args = ds) (hfv : (s.fn H (ds ++ gs)).vars = []) :
    s.post enc P f apart fresh handsOn false W args (.bool true) W' := by
  have hlt : ∀ x ∈ before, x.block < W.heap.size := fun x hx => hW.lt x hx
  obtain ⟨p, q, hA, hV, hbe, hfz, hnd⟩ := id hW
  rw [hsv] at hV
  obtain ⟨rfl, rfl⟩ := trodVars_none hV
  have hbe' : before = p := by simpa using hbe
  subst hbe'
  have hA' := below_trodAll hl hb hr hA hlt
  refine ⟨ds, [], before, [], before, [], hW, ?_, ?_, ?_, hb.frame _, fun h => by cases h⟩
  · rw [hfn, hres]
    exact trodAll_cons_mk (shut_bool htb _) trodAll_mk0
  · rw [hfa]; exact hA'
  · rw [hfv, hsv]; exact rfl
end
end Go.AE
set_option linter.unusedVariables false
set_option linter.unusedSectionVars false
set_option linter.unusedSimpArgs false
open Go.RowKit Go.WideShapes Go.ChangeShapes
namespace Go.AE
variable [Globs]
structure RoExt (aw aw' : AW) : Prop where
  next : aw.next ≤ aw'.next
  heap : ∀ b, b < aw.next → aw'.heap.get b = aw.heap.get b
theorem RoExt.refl (aw : AW) : RoExt aw aw := ⟨Nat.le_refl _, fun _ _ => rfl⟩
theorem RoExt.trans {a b c : AW} (h : RoExt a b) (h' : RoExt b c) : RoExt a c := ⟨Nat.le_trans h.next h'.next, fun k hk => (h'.heap k (Nat.lt_of_lt_of_le hk h.next)).trans (h.heap k hk)⟩
theorem RoExt.new (aw : AW) (x : Blk) : RoExt aw (aw.new x) := ⟨Nat.le_succ _, fun b hb => T.get_put_ne (by omega)⟩
inductive All2 {α β : Type} (r : α → β → Prop) : List α → List β → Prop
  | nil : All2 r [] []
  | cons {a b l m} : r a b → All2 r l m → All2 r (a :: l) (b :: m)
theorem All2.imp {α β : Type} {r q : α → β → Prop} (h : ∀ a b, r a b → q a b) : ∀ {l : List α} {m : List β}, All2 r l m → All2 q l m
  | [], _, .nil => .nil
  | _ :: _, _, .cons h1 h2 => .cons (h _ _ h1) (All2.imp h h2)
theorem All2.len {α β : Type} {r : α → β → Prop} : ∀ {l : List α} {m : List β}, All2 r l m → l.length = m.length
  | [], _, .nil => rfl
  | _ :: _, _, .cons _ h2 => by simp [All2.len h2]
theorem All2.snoc {α β : Type} {r : α → β → Prop} {a : α} {b : β} (h : r a b) : ∀ {l : List α} {m : List β}, All2 r l m → All2 r (l ++ [a]) (m ++ [b])
  | [], _, .nil => .cons h .nil
  | _ :: _, _, .cons h1 h2 => .cons h1 (All2.snoc h h2)
theorem All2.get {α β : Type} {r : α → β → Prop} : ∀ {l : List α} {m : List β}, All2 r l m → ∀ {i : Nat} {a : α}, l[i]? = some a → ∃ b, m[i]? = some b ∧ r a b
  | [], _, .nil, i, a, h => by simp at h
  | x :: l, y :: m, .cons h1 h2, 0, a, h => by simp at h; subst h; exact ⟨y, rfl, h1⟩
  | x :: l, y :: m, .cons h1 h2, i + 1, a, h => by simpa using All2.get h2 (i := i) (by simpa using h)
section
variable {H : Type} {enc : TypeId × Value → H} {P : Program} {w : World}
end
end Go.AE
namespace Go.AE
variable [Globs]
section
variable {H : Type} {enc : TypeId × Value → H} {P : Program} {w : World}
end
end Go.AE
set_option linter.unusedVariables false
set_option linter.unusedSectionVars false
set_option linter.unusedSimpArgs false
open Go.RowKit
namespace Go.AE
variable [Globs]
theorem R.bind {y : AW} {w : World} {m : Map} {base n c tot : Nat} (hR : R y w m base) {x : Blk} (hn : n < y.next) (hm : m n = none) (hx : y.heap.get n = some x) (hl : x.lone = true) (hcl : c < w.heap.size) (hcb : base ≤ c) (hfr : ∀ b e, m b = some e → e.c ≠ c)
    (hb : BR y (m.set n ⟨c, 0, tot⟩) w n ⟨c, 0, tot⟩ x) : R y w (m.set n ⟨c, 0, tot⟩) base := by
  have hle : m.le (m.set n ⟨c, 0, tot⟩) := Map.le_set hm
  have hnf : ∀ {l : List V} {f : Nat}, y.heap.get n ≠ some (.cells l (.fam f)) := by
    intro l f h; rw [hx] at h; cases h; cases hl
  refine ⟨hR.glob.le hle, hR.gblk, fun b e l f h hy => ?_, hR.size, fun b e h => ?_, fun b e h => ?_, fun b e z h hz => ?_, fun b e z b' e' z' h hz h' hz' h1 h2 hne hec => ?_, fun f F hF => ?_⟩
  · rcases Map.set_cases h with ⟨rfl, rfl⟩ | ⟨h1, h2⟩
    · exact absurd hy hnf
    · exact hR.famlt b e l f h2 hy
  · rcases Map.set_cases h with ⟨rfl, rfl⟩ | ⟨h1, h2⟩
    · exact ⟨hn, hcl⟩
    · exact hR.lt b e h2
  · rcases Map.set_cases h with ⟨rfl, rfl⟩ | ⟨h1, h2⟩
    · exact .inl hcb
    · exact hR.base b e h2
  · rcases Map.set_cases h with ⟨rfl, rfl⟩ | ⟨h1, h2⟩
    · rw [hx] at hz; cases hz; exact hb
    · exact BR.mono hle (fun _ _ _ h => h) rfl (hR.blk b e z h2 hz)
  · rcases Map.set_cases h with ⟨rfl, rfl⟩ | ⟨k1, k2⟩
    · rcases Map.set_cases h' with ⟨rfl, rfl⟩ | ⟨k3, k4⟩
      · exact absurd rfl hne
      · exact absurd hec.symm (hfr b' e' k4)
    · rcases Map.set_cases h' with ⟨rfl, rfl⟩ | ⟨k3, k4⟩
      · exact absurd hec (hfr b e k2)
      · exact hR.apart b e z b' e' z' k2 hz k4 hz' h1 h2 hne hec
  · obtain ⟨h1, h2⟩ := hR.fam f F hF
    refine ⟨h1, fun b e l e' l' h hy ha h' hy' hec => ?_⟩
    rcases Map.set_cases h with ⟨rfl, rfl⟩ | ⟨k1, k2⟩
    · exact absurd hy hnf
    · rcases Map.set_cases h' with ⟨q, rfl⟩ | ⟨k3, k4⟩
      · rw [q] at hy'; exact absurd hy' hnf
      · exact h2 b e l e' l' k2 hy ha k4 hy' hec
theorem R.take {aw : AW} {w w' : World} {m : Map} {base : Nat} (hR : R aw w m base) (hb : Below w.heap.size w w') {c lo hi : Nat} {cur : Array Value} {t : TypeId} {l : List V} (hc : w.heap.size ≤ c) (hx : w'.heap[c]? = some (.cells cur t (lo, hi))) (hlh : lo = hi) (hl : CR m l 0 cur) (hsz : l.length ≤ cur.size) :
    R (aw.fresh l) w' (m.set aw.next ⟨c, 0, cur.size⟩) base ∧ Goes aw (aw.fresh l) w w' m (m.set aw.next ⟨c, 0, cur.size⟩) := by
  obtain ⟨h1, h2⟩ := hR.below hb
  have hnone : m aw.next = none := next_none hR
  have hle : m.le (m.set aw.next ⟨c, 0, cur.size⟩) := Map.le_set hnone
  have hcl : c < w'.heap.size := (Array.getElem?_eq_some_iff.1 hx).1
  refine ⟨(h1.pad (.cells l .own)).bind (Nat.lt_succ_self _) hnone T.get_put_same rfl hcl (Nat.le_trans hR.size hc) (fun b e he hec => ?_) (fun _ => ⟨cur, t, lo, hi, hx, rfl, by simpa using hsz, .inr (.inl ⟨hlh, fun _ => rfl⟩), hl.mono hle⟩), ?_⟩
  · have := (hR.lt b e he).2; omega
  · have h3 := h2.pad (.cells l .own)
    refine ⟨hle, fun b e hbe => ?_, h3.next, h3.size, h3.os, h3.tape, h3.output, h3.ro, h3.roOld, h3.frame, h3.none, h3.unm⟩
    rcases Map.set_cases hbe with ⟨rfl, rfl⟩ | ⟨_, h4⟩
    · exact .inr ⟨Nat.le_refl _, .inl hc⟩
    · exact .inl h4
end Go.AE
set_option linter.unusedVariables false
set_option linter.unusedSectionVars false
set_option linter.unusedSimpArgs false
open Go.RowKit
namespace Go.AE
variable [Globs]
section
def digsN : Nat → Nat → List Nat → List Nat
  | 0, _, acc => acc
  | f + 1, n, acc => match Nat.blt n 10 with
    | true => (48 + n) :: acc
    | false => digsN f (n / 10) ((48 + n % 10) :: acc)
def decN (n : Nat) : List Nat := digsN (n + 1) n []
def fmtI : Int → List Nat
  | .ofNat n => decN n
  | .negSucc n => 45 :: decN (n + 1)
theorem digsN_acc : ∀ (f n : Nat) (acc : List Nat), n < f → digsN f n acc = (Lib.decDigits n).map UInt8.toNat ++ acc
  | 0, n, acc, h => by omega
  | f + 1, n, acc, h => by
    rw [digsN, Lib.decDigits]
    by_cases hn : n < 10
    · have : Nat.blt n 10 = true := Nat.blt_eq.mpr hn
      rw [this, dif_pos hn]
      simp only [List.map_cons, List.map_nil, List.singleton_append]
      congr 1
      rw [UInt8.toNat_ofNat']; omega
    · have hb : Nat.blt n 10 = false := by
        cases hb : Nat.blt n 10 with
        | false => rfl
        | true => exact absurd (Nat.blt_eq.mp hb) hn
      rw [hb, dif_neg hn]
      simp only []
      rw [digsN_acc f (n / 10) _ (by omega), List.map_append, List.append_assoc]
      simp only [List.map_cons, List.map_nil, List.singleton_append]
      congr 2
      rw [UInt8.toNat_ofNat']; omega
theorem decN_eq (n : Nat) : decN n = (Lib.decDigits n).map UInt8.toNat := by
  rw [decN, digsN_acc _ _ _ (Nat.lt_succ_self n), List.append_nil]
theorem fmtI_eq : ∀ (n : Int), fmtI n = (Lib.itoa n).map UInt8.toNat
  | .ofNat n => by
    have : Lib.itoa (Int.ofNat n) = Lib.decDigits n := Lib.itoa_nonneg n
    rw [this]; exact decN_eq n
  | .negSucc n => by
    have : Lib.itoa (Int.negSucc n) = 45 :: Lib.decDigits (n + 1) := Lib.itoa_neg (n + 1) (by omega)
    rw [this, List.map_cons]
    show 45 :: decN (n + 1) = _
    rw [decN_eq]; rfl
theorem decN_small {n : Nat} (h : n < 10) : decN n = [48 + n] := by
  rw [decN_eq, Lib.decDigits, dif_pos h]
  simp only [List.map_cons, List.map_nil]
  congr 1
  rw [UInt8.toNat_ofNat']; omega
theorem decN_step {n : Nat} (h : ¬ n < 10) : decN n = decN (n / 10) ++ [48 + n % 10] := by
  rw [decN_eq, Lib.decDigits, dif_neg h, List.map_append, ← decN_eq]
  simp only [List.map_cons, List.map_nil]
  congr 2
  rw [UInt8.toNat_ofNat']; omega
def toValI : V → Value
  | .int k n => .int k n
  | _ => undef
theorem ints_are {m : Map} : ∀ {l : List V} {c : List Value}, (∀ x ∈ l, ∃ k n, x = .int k n) → c.length = l.length → (∀ (i : Nat) (x : V), l[i]? = some x → ∃ y, c[i]? = some y ∧ VR m x y) → c = l.map toValI
  | [], c, _, hl, _ => by simpa using hl
  | x :: l, [], _, hl, _ => by simp at hl
  | x :: l, y :: c, hi, hl, hr => by
    obtain ⟨k, n, rfl⟩ := hi x (by simp)
    obtain ⟨y', h1, h2⟩ := hr 0 _ rfl
    simp at h1
    subst h1
    rw [List.map_cons, ← ints_are (l := l) (c := c) (fun z hz => hi z (by simp [hz])) (by simpa using hl) (fun i z hz => by simpa using hr (i + 1) z (by simpa using hz))]
    congr 1
def FormatsAt (P : Program) (f g : Nat) : Prop := ∀ (n : Int) (w : World), -9223372036854775808 ≤ n → n ≤ 9223372036854775807 → (∃ t fz, w.heap[g]? = some (.cells (Lib.pow10Tab.map (Value.int .u64)).toArray t fz)) →
  Calls P f #[.int .i64 n, .int .i64 10] w fun e w' => e = .returned (.string ⟨(Lib.itoa n).toArray⟩) ∧ Below w.heap.size w w'
def formatI (args : List V) (aw : AW) : Option (V × AW) :=
  match args with
  | [.int .i64 n, .int .i64 10] => if -9223372036854775808 ≤ n ∧ n ≤ 9223372036854775807 then some (.str (fmtI n), aw) else none
  | _ => none
theorem formatI_ok {P : Program} {f g : Nat} (hF : FormatsAt P f g) (hg : Globs.gl[0]? = some (g, pow10V)) {args : List V} {aw : AW} {v : V} {aw' : AW} (h : formatI args aw = some (v, aw')) (w : World) (m : Map) (base : Nat) (args' : Array Value) (hR : R aw w m base) (hargs : VRs m args args'.toList) :
    Calls P f args' w fun r w' => ∃ v' m', r = .returned v' ∧ VR m' v v' ∧ R aw' w' m' base ∧ Goes aw aw' w w' m m' := by
  unfold formatI at h
  split at h
  · rename_i n
    split at h
    · rename_i hn
      cases h
      obtain ⟨x, r1, e1, hx, e2⟩ := hargs
      obtain ⟨y, r2, e3, hy, e4⟩ := e2
      cases e4
      have hx' : x = .int .i64 n := hx
      have hy' : y = .int .i64 10 := hy
      subst hx'; subst hy'
      obtain rfl : args' = #[.int .i64 n, .int .i64 10] := by cases args'; simp_all
      have hm := hR.glob 0 g _ hg
      obtain ⟨cur, t, lo, hi, p1, p2, p3, p4, p5⟩ := hR.blk 0 _ _ hm (hR.gblk 0 g _ hg) rfl
      have hcur : cur.toList = pow10V.map toValI := by
        refine ints_are (m := m) (fun x hx => ?_) (by rw [Array.length_toList]; exact p2) (fun i x hx => ?_)
        · simp only [pow10V, List.mem_cons, List.not_mem_nil, or_false] at hx
          rcases hx with rfl | rfl | rfl | rfl | rfl | rfl | rfl | rfl | rfl | rfl | rfl | rfl | rfl | rfl | rfl | rfl | rfl | rfl | rfl | rfl <;> exact ⟨_, _, rfl⟩
        · obtain ⟨y, q1, q2⟩ := p5 i x hx
          exact ⟨y, by simpa using q1, q2⟩
      have htab : pow10V.map toValI = Lib.pow10Tab.map (Value.int .u64) := by rfl
      have hc : cur = (Lib.pow10Tab.map (Value.int .u64)).toArray := by
        apply Array.ext'; rw [hcur, htab]
      refine (hF n w hn.1 hn.2 ⟨t, (lo, hi), by rw [p1, hc]⟩).mono ?_
      rintro r w' ⟨rfl, hbel⟩
      obtain ⟨q1, q2⟩ := hR.below hbel
      refine ⟨_, m, rfl, ⟨_, rfl, ?_⟩, q1, q2⟩
      rw [fmtI_eq]; simp [strL]
    · cases h
  · cases h
end
end Go.AE
set_option linter.unusedVariables false
set_option linter.unusedSimpArgs false
namespace Delphi
def isSmall (c : Nat) : Bool := decide (97 ≤ c) && decide (c ≤ 122)
def isDigit (c : Nat) : Bool := decide (48 ≤ c) && decide (c ≤ 57)
def isGreat (c : Nat) : Bool := decide (65 ≤ c) && decide (c ≤ 90)
def isNamed (c : Nat) : Bool := isSmall c || (isDigit c || decide (c = 95))
def isVarC (c : Nat) : Bool := isNamed c || isGreat c
def isBlank (c : Nat) : Bool := decide (c = 32) || decide (c = 9) || decide (c = 10) || decide (c = 13)
def blk : Bool → List Nat → Nat
  | _, [] => 0
  | true, c :: t => if c = 10 then blk false t + 1 else blk true t + 1
  | false, c :: t => if isBlank c then blk false t + 1 else if c = 37 then blk true t + 1 else 0
theorem blk_le : ∀ (b : Bool) (s : List Nat), blk b s ≤ s.length
  | _, [] => by simp [blk]
  | true, c :: t => by
    have h1 := blk_le false t; have h2 := blk_le true t
    simp only [blk, List.length_cons]; split <;> omega
  | false, c :: t => by
    have h1 := blk_le false t; have h2 := blk_le true t
    simp only [blk, List.length_cons]; (repeat' split) <;> omega
theorem blk_drop : ∀ (b : Bool) (s : List Nat), blk false (s.drop (blk b s)) = 0
  | b, [] => by simp [blk]
  | true, c :: t => by
    simp only [blk]; split
    · simpa using blk_drop false t
    · simpa using blk_drop true t
  | false, c :: t => by
    simp only [blk]
    split
    · simpa using blk_drop false t
    · rename_i h1
      split
      · simpa using blk_drop true t
      · rename_i h2; simp [blk, h1, h2]
def numberLen (s : List Nat) : Nat :=
  let n := if s.head? = some 45 then 1 else 0
  let d := ((s.drop n).takeWhile isDigit).length
  if d = 0 then 0 else if n = 1 ∧ s[1]? = some 48 then 0 else if s[n]? = some 48 then 1 else n + d
def signs : List (List Nat) := [[58, 45], [33, 61], [60, 61], [40], [41], [44], [46], [33], [61], [60]]
def lexWord (s : List Nat) : Nat × Nat :=
  match s with
  | [] => (0, 0)
  | c :: _ =>
    if isSmall c then (1, (s.takeWhile isNamed).length)
    else if isGreat c then (2, (s.takeWhile isVarC).length)
    else if isDigit c || decide (c = 45) then (3, numberLen s)
    else match signs.find? (fun g => g.isPrefixOf s) with
      | some g => (4, g.length)
      | none => (0, 0)
theorem numberLen_le (s : List Nat) : numberLen s ≤ s.length := by
  unfold numberLen
  have h1 : ∀ n, ((s.drop n).takeWhile isDigit).length ≤ s.length - n := fun n => by
    have := (List.takeWhile_prefix (p := isDigit) (l := s.drop n)).length_le
    simpa using this
  cases s with
  | nil => simp
  | cons c t =>
    by_cases hc : (c :: t).head? = some 45
    · have := h1 1
      simp only [hc, if_true] at this ⊢
      simp only [List.length_cons] at this ⊢
      (repeat' split) <;> omega
    · have := h1 0
      simp only [hc, if_false] at this ⊢
      simp only [List.length_cons] at this ⊢
      (repeat' split) <;> omega
theorem lexWord_le (s : List Nat) : (lexWord s).2 ≤ s.length := by
  cases s with
  | nil => simp [lexWord]
  | cons c t =>
    simp only [lexWord]
    split
    · exact (List.takeWhile_prefix _).length_le
    · split
      · exact (List.takeWhile_prefix _).length_le
      · split
        · exact numberLen_le _
        · split
          · rename_i g hg
            have := List.find?_some hg
            exact (List.isPrefixOf_iff_prefix.1 this).length_le
          · simp
structure Wd where
  kind : Nat
  text : List Nat
  at' : Nat
def scanP : Nat → Nat → List Nat → List Wd × Bool
  | 0, _, _ => ([], true)
  | n + 1, at', s =>
    let u := s.drop (blk false s)
    match u with
    | [] => ([], true)
    | _ :: _ =>
      if (lexWord u).2 = 0 ∨ ((lexWord u).1 ≠ 4 ∧ 16 < (lexWord u).2) then ([], false)
      else
        let r := scanP n (at' + blk false s + (lexWord u).2) (u.drop (lexWord u).2)
        (⟨(lexWord u).1, u.take (lexWord u).2, at' + blk false s⟩ :: r.1, r.2)
theorem scanP_more : ∀ (n m at' : Nat) (s : List Nat), s.length < n → s.length < m → scanP n at' s = scanP m at' s
  | 0, m, _, s, h, _ => by omega
  | n + 1, 0, _, s, _, h => by omega
  | n + 1, m + 1, at', s, h1, h2 => by
    simp only [scanP]
    split
    · rfl
    · rename_i c t hu
      split
      · rfl
      · rename_i hw
        have hlen : ((s.drop (blk false s)).drop (lexWord (s.drop (blk false s))).2).length < s.length := by
          have hb := blk_le false s
          have : (s.drop (blk false s)).length = s.length - blk false s := by simp
          have hpos : 0 < (s.drop (blk false s)).length := by rw [hu]; simp
          have : 0 < (lexWord (s.drop (blk false s))).2 := by omega
          simp only [List.length_drop] at *
          omega
        rw [scanP_more n m _ _ (by omega) (by omega)]
def scan (at' : Nat) (s : List Nat) : List Wd × Bool := scanP (s.length + 1) at' s
theorem scan_eq (at' : Nat) (s : List Nat) : scan at' s =
    match s.drop (blk false s) with
    | [] => ([], true)
    | c :: t =>
      if (lexWord (c :: t)).2 = 0 ∨ ((lexWord (c :: t)).1 ≠ 4 ∧ 16 < (lexWord (c :: t)).2) then ([], false)
      else
        let r := scan (at' + blk false s + (lexWord (c :: t)).2) ((c :: t).drop (lexWord (c :: t)).2)
        (⟨(lexWord (c :: t)).1, (c :: t).take (lexWord (c :: t)).2, at' + blk false s⟩ :: r.1, r.2) := by
  unfold scan
  conv => lhs; simp only [scanP]
  split
  · rfl
  · rename_i c t h
    rw [h]
    simp only []
    split
    · rfl
    · rename_i hw
      have hlen : ((c :: t).drop (lexWord (c :: t)).2).length < s.length := by
        have hb := blk_le false s
        have : (s.drop (blk false s)).length = s.length - blk false s := by simp
        rw [h] at this
        have hm : (lexWord (c :: t)).2 ≠ 0 := fun he => hw (.inl he)
        simp only [List.length_drop, List.length_cons] at this ⊢
        omega
      rw [scanP_more s.length _ _ _ hlen (Nat.lt_succ_self _)]
theorem scan_skip (at' : Nat) (s : List Nat) (k : Nat) (h : blk false s = k + blk false (s.drop k)) : scan at' s = scan (at' + k) (s.drop k) := by
  rw [scan_eq at' s, scan_eq (at' + k) (s.drop k), List.drop_drop, h, Nat.add_assoc]
end Delphi
set_option linter.unusedVariables false
set_option linter.unusedSimpArgs false
namespace Delphi
structure Tm where
  kind : Nat
  name : List Nat
  num : Int
  deriving DecidableEq
structure Lt where
  kind : Nat
  name : List Nat
  args : List Tm
  deriving DecidableEq
structure Rl where
  head : Lt
  body : List Lt
  deriving DecidableEq
def Tm.zero : Tm := ⟨0, [], 0⟩
def Lt.zero : Lt := ⟨0, [], []⟩
def rBad (e x : Nat) : Nat := if e = 0 then x else e
def rSign (ws : List Wd) (k : Nat) (s : List Nat) : Bool :=
  match ws[k]? with
  | some w => decide (w.kind = 4) && decide (w.text = s)
  | none => false
def rEat (ws : List Wd) (s : List Nat) (k e : Nat) : Nat × Nat :=
  if e = 0 then (if rSign ws k s then (k + 1, e) else (k, 4)) else (k, e)
def rDig (n c : Nat) : Nat := if c = 45 then n else n * 10 + (c + 208) % 256
def rNum (s : List Nat) : Nat := s.foldl rDig 0
def rNext (ws : List Wd) (k e : Nat) : Option Wd := if e = 0 then ws[k]? else none
def rTerm (ws : List Wd) (k e : Nat) : Tm × Nat × Nat :=
  match rNext ws k e with
  | none => (Tm.zero, k, rBad e 4)
  | some w =>
    if w.kind = 4 then (Tm.zero, k, 4)
    else if w.kind = 1 then (⟨2, w.text, 0⟩, k + 1, e)
    else if w.kind = 2 then (⟨1, w.text, 0⟩, k + 1, e)
    else if 2147483648 < rNum w.text then (Tm.zero, k + 1, 4)
    else (⟨3, [], if w.text.head? = some 45 then -(rNum w.text : Int) else (rNum w.text : Int)⟩, k + 1, e)
def rArgs (ws : List Wd) : Nat → List Tm → Nat → Nat → List Tm × Nat × Nat
  | 0, args, k, e => (args, k, e)
  | n + 1, args, k, e =>
    if e = 0 then
      let r := rTerm ws k e
      let e2 := if r.2.2 = 0 ∧ args.length = 4 then 8 else r.2.2
      if rSign ws r.2.1 [44] then rArgs ws n (args ++ [r.1]) (r.2.1 + 1) e2 else (args ++ [r.1], r.2.1, e2)
    else (args, k, e)
def rAtom (ws : List Wd) (k e : Nat) : Lt × Nat × Nat :=
  match rNext ws k e with
  | none => (Lt.zero, k, rBad e 4)
  | some w =>
    if w.kind = 1 then
      if rSign ws (k + 1) [40] then
        let r := rArgs ws (ws.length + 1) [] (k + 2) e
        let q := rEat ws [41] r.2.1 r.2.2
        (⟨1, w.text, r.1⟩, q.1, q.2)
      else (⟨1, w.text, []⟩, k + 1, e)
    else (Lt.zero, k, 4)
def rCompare (s : List Nat) : Nat :=
  if s = [61] then 3 else if s = [33, 61] then 4 else if s = [60] then 5 else if s = [60, 61] then 6 else 0
def rCmpAt (ws : List Wd) (k : Nat) : Nat :=
  match ws[k]? with
  | some w => if w.kind = 4 then rCompare w.text else 0
  | none => 0
def rKind (ws : List Wd) (k : Nat) : Nat :=
  match ws[k]? with
  | some w => w.kind
  | none => 0
def rLit (ws : List Wd) (k e : Nat) : Lt × Nat × Nat :=
  if rSign ws k [33] then
    let r := rAtom ws (k + 1) e
    ({ r.1 with kind := 2 }, r.2.1, r.2.2)
  else if rKind ws k = 1 ∧ rCmpAt ws (k + 1) = 0 then rAtom ws k e
  else
    let a := rTerm ws k e
    if a.2.2 ≠ 0 ∨ rCmpAt ws a.2.1 = 0 then (Lt.zero, a.2.1, rBad a.2.2 4)
    else
      let b := rTerm ws (a.2.1 + 1) a.2.2
      (⟨rCmpAt ws a.2.1, [], [a.1, b.1]⟩, b.2.1, b.2.2)
def rBody (ws : List Wd) : Nat → List Lt → Nat → Nat → List Lt × Nat × Nat
  | 0, l, k, e => (l, k, e)
  | n + 1, l, k, e =>
    if e = 0 then
      let r := rLit ws k e
      let e2 := if r.2.2 = 0 ∧ l.length = 6 then 8 else r.2.2
      if rSign ws r.2.1 [44] then rBody ws n (l ++ [r.1]) (r.2.1 + 1) e2 else (l ++ [r.1], r.2.1, e2)
    else (l, k, e)
def rClause (ws : List Wd) (k e : Nat) : Rl × Nat × Nat :=
  let h := rAtom ws k e
  let b := if rSign ws h.2.1 [58, 45] = true ∧ h.2.2 = 0 then rBody ws (ws.length + 1) [] (h.2.1 + 1) h.2.2 else ([], h.2.1, h.2.2)
  let q := rEat ws [46] b.2.1 b.2.2
  (⟨h.1, b.1⟩, q.1, q.2)
def rRules (ws : List Wd) : Nat → List Rl → Nat → Nat → List Rl × Nat × Nat
  | 0, l, k, e => (l, k, e)
  | n + 1, l, k, e =>
    if e = 0 ∧ k < ws.length then
      let r := rClause ws k e
      let e2 := if r.2.2 = 0 ∧ l.length = 30 then 8 else r.2.2
      rRules ws n (l ++ [r.1]) r.2.1 e2
    else (l, k, e)
def rProgram (s : List Nat) : List Rl × Nat :=
  if 4000 < s.length then ([], 8)
  else
    let ws := (scan 0 s).1
    let r := rRules ws (ws.length + 1) [] 0 0
    let e := rBad r.2.2 (if (scan 0 s).2 then 0 else 4)
    if e = 0 then (r.1, 0) else ([], e)
theorem rTerm_ge (ws : List Wd) (k e : Nat) : k ≤ (rTerm ws k e).2.1 := by
  unfold rTerm
  (repeat' split) <;> simp
theorem rTerm_le {ws : List Wd} {k e : Nat} (h : k ≤ ws.length) : (rTerm ws k e).2.1 ≤ ws.length := by
  unfold rTerm
  split
  · exact h
  · rename_i w hw
    have hk : k < ws.length := by
      unfold rNext at hw
      split at hw
      · exact (List.getElem?_eq_some_iff.1 hw).1
      · cases hw
    (repeat' split) <;> simp <;> omega
theorem rSign_lt {ws : List Wd} {k : Nat} {s : List Nat} (h : rSign ws k s = true) : k < ws.length := by
  unfold rSign at h
  split at h
  · rename_i w hw; exact (List.getElem?_eq_some_iff.1 hw).1
  · cases h
theorem rArgs_ge {ws : List Wd} : ∀ (n : Nat) (args : List Tm) (k e : Nat), k ≤ (rArgs ws n args k e).2.1
  | 0, _, _, _ => Nat.le_refl _
  | n + 1, args, k, e => by
    have h1 := rTerm_ge ws k e
    simp only [rArgs]
    split
    · split
      · exact Nat.le_trans (by omega) (rArgs_ge n _ _ _)
      · exact h1
    · exact Nat.le_refl _
theorem rArgs_le {ws : List Wd} : ∀ (n : Nat) (args : List Tm) (k e : Nat), k ≤ ws.length → (rArgs ws n args k e).2.1 ≤ ws.length
  | 0, _, _, _, h => h
  | n + 1, args, k, e, h => by
    have h1 := rTerm_le (e := e) h
    simp only [rArgs]
    split
    · split
      · rename_i hs; exact rArgs_le n _ _ _ (rSign_lt hs)
      · exact h1
    · exact h
theorem rEat_ge (ws : List Wd) (s : List Nat) (k e : Nat) : k ≤ (rEat ws s k e).1 := by
  unfold rEat; (repeat' split) <;> simp
theorem rEat_le {ws : List Wd} {s : List Nat} {k e : Nat} (h : k ≤ ws.length) : (rEat ws s k e).1 ≤ ws.length := by
  unfold rEat
  split
  · split
    · rename_i hs; exact rSign_lt hs
    · exact h
  · exact h
theorem rNext_lt {ws : List Wd} {k e : Nat} {w : Wd} (h : rNext ws k e = some w) : k < ws.length ∧ e = 0 ∧ ws[k]? = some w := by
  unfold rNext at h
  split at h
  · rename_i he; exact ⟨(List.getElem?_eq_some_iff.1 h).1, he, h⟩
  · cases h
theorem rAtom_ge (ws : List Wd) (k e : Nat) : k ≤ (rAtom ws k e).2.1 := by
  unfold rAtom
  split
  · exact Nat.le_refl _
  · split
    · split
      · exact Nat.le_trans (Nat.le_trans (by omega) (rArgs_ge _ _ (k + 2) e)) (rEat_ge ..)
      · simp
    · exact Nat.le_refl _
theorem rAtom_le {ws : List Wd} {k e : Nat} (h : k ≤ ws.length) : (rAtom ws k e).2.1 ≤ ws.length := by
  unfold rAtom
  split
  · exact h
  · rename_i w hw
    have hk := (rNext_lt hw).1
    split
    · split
      · rename_i hs
        have := rSign_lt hs
        exact rEat_le (rArgs_le _ _ _ _ (by omega))
      · exact hk
    · exact h
theorem rAtom_gt {ws : List Wd} {k e : Nat} (h : (rAtom ws k e).2.2 = 0) : k < (rAtom ws k e).2.1 := by
  unfold rAtom at h ⊢
  split
  · rename_i hn
    rw [hn] at h
    simp only [rBad] at h
    split at h
    · omega
    · omega
  · rename_i w hw
    rw [hw] at h
    simp only at h ⊢
    split
    · split
      · exact Nat.lt_of_lt_of_le (Nat.lt_of_lt_of_le (by omega) (rArgs_ge _ _ (k + 2) e)) (rEat_ge ..)
      · simp
    · rename_i hk
      rw [if_neg hk] at h
      simp at h
theorem rLit_ge (ws : List Wd) (k e : Nat) : k ≤ (rLit ws k e).2.1 := by
  have h1 := rTerm_ge ws k e
  unfold rLit
  split
  · exact Nat.le_trans (by omega) (rAtom_ge ws (k + 1) e)
  · split
    · exact rAtom_ge ws k e
    · simp only
      split
      · exact h1
      · exact Nat.le_trans (by omega) (rTerm_ge ws ((rTerm ws k e).2.1 + 1) (rTerm ws k e).2.2)
theorem rCmpAt_lt {ws : List Wd} {k : Nat} (h : rCmpAt ws k ≠ 0) : k < ws.length := by
  unfold rCmpAt at h
  split at h
  · rename_i w hw; exact (List.getElem?_eq_some_iff.1 hw).1
  · exact absurd rfl h
theorem rLit_le {ws : List Wd} {k e : Nat} (h : k ≤ ws.length) : (rLit ws k e).2.1 ≤ ws.length := by
  have h1 := rTerm_le (e := e) h
  unfold rLit
  split
  · rename_i hs; exact rAtom_le (rSign_lt hs)
  · split
    · exact rAtom_le h
    · simp only
      split
      · exact h1
      · rename_i hn
        have : rCmpAt ws (rTerm ws k e).2.1 ≠ 0 := fun h => hn (.inr h)
        exact rTerm_le (rCmpAt_lt this)
theorem rBody_ge {ws : List Wd} : ∀ (n : Nat) (l : List Lt) (k e : Nat), k ≤ (rBody ws n l k e).2.1
  | 0, _, _, _ => Nat.le_refl _
  | n + 1, l, k, e => by
    have h1 := rLit_ge ws k e
    simp only [rBody]
    split
    · split
      · exact Nat.le_trans (by omega) (rBody_ge n _ _ _)
      · exact h1
    · exact Nat.le_refl _
theorem rBody_le {ws : List Wd} : ∀ (n : Nat) (l : List Lt) (k e : Nat), k ≤ ws.length → (rBody ws n l k e).2.1 ≤ ws.length
  | 0, _, _, _, h => h
  | n + 1, l, k, e, h => by
    have h1 := rLit_le (e := e) h
    simp only [rBody]
    split
    · split
      · rename_i hs; exact rBody_le n _ _ _ (rSign_lt hs)
      · exact h1
    · exact h
theorem rClause_le {ws : List Wd} {k e : Nat} (h : k ≤ ws.length) : (rClause ws k e).2.1 ≤ ws.length := by
  have h1 := rAtom_le (e := e) h
  unfold rClause
  simp only
  split
  · rename_i hs; exact rEat_le (rBody_le _ _ _ _ (rSign_lt hs.1))
  · exact rEat_le h1
theorem rEat_e {ws : List Wd} {s : List Nat} {k e : Nat} (h : (rEat ws s k e).2 = 0) : e = 0 := by
  unfold rEat at h
  split at h
  · assumption
  · exact h
theorem rClause_ge (ws : List Wd) (k e : Nat) : k ≤ (rClause ws k e).2.1 := by
  have h1 := rAtom_ge ws k e
  unfold rClause
  simp only
  split
  · exact Nat.le_trans (Nat.le_trans (by omega) (rBody_ge _ _ ((rAtom ws k e).2.1 + 1) _)) (rEat_ge ..)
  · exact Nat.le_trans h1 (rEat_ge ..)
theorem rClause_gt {ws : List Wd} {k e : Nat} (h : (rClause ws k e).2.2 = 0) : k < (rClause ws k e).2.1 := by
  unfold rClause at h ⊢
  simp only at h ⊢
  split
  · rename_i hs
    exact Nat.lt_of_lt_of_le (Nat.lt_of_lt_of_le (Nat.lt_of_le_of_lt (rAtom_ge ws k e) (Nat.lt_succ_self _)) (rBody_ge _ _ ((rAtom ws k e).2.1 + 1) _)) (rEat_ge ..)
  · rename_i hs
    rw [if_neg hs] at h
    have := rEat_e h
    exact Nat.lt_of_lt_of_le (rAtom_gt this) (rEat_ge ..)
end Delphi
set_option linter.unusedVariables false
namespace Delphi
theorem scanP_ok : ∀ (n at' : Nat) (s : List Nat), (∀ c ∈ s, c < 256) → ((scanP n at' s).1.length ≤ s.length) ∧ ∀ w ∈ (scanP n at' s).1, w.text ≠ [] ∧ (w.kind ≠ 4 → w.text.length ≤ 16) ∧ 1 ≤ w.kind ∧ w.kind ≤ 4 ∧ ∀ c ∈ w.text, c < 256
  | 0, _, s, _ => by simp [scanP]
  | n + 1, at', s, hs => by
    simp only [scanP]
    split
    · simp
    · rename_i c t hu
      split
      · simp
      · rename_i hw
        have hb := blk_le false s
        have hu' : ∀ x ∈ s.drop (blk false s), x < 256 := fun x hx => hs x (List.mem_of_mem_drop hx)
        have hdl : (s.drop (blk false s)).length = s.length - blk false s := by simp
        have hle := lexWord_le (s.drop (blk false s))
        have hk : 1 ≤ (lexWord (s.drop (blk false s))).1 ∧ (lexWord (s.drop (blk false s))).1 ≤ 4 := by
          have hne : (lexWord (s.drop (blk false s))).2 ≠ 0 := fun h => hw (.inl h)
          revert hne
          unfold lexWord
          (repeat' split) <;> simp
        have hne : (lexWord (s.drop (blk false s))).2 ≠ 0 := fun h => hw (.inl h)
        obtain ⟨h1, h2⟩ := scanP_ok n (at' + blk false s + (lexWord (s.drop (blk false s))).2) ((s.drop (blk false s)).drop (lexWord (s.drop (blk false s))).2) fun x hx => hu' x (List.mem_of_mem_drop hx)
        refine ⟨?_, fun w hw' => ?_⟩
        · simp only [List.length_cons, List.length_drop] at *
          omega
        · rcases List.mem_cons.1 hw' with rfl | hw'
          · refine ⟨?_, fun h4 => ?_, hk.1, hk.2, fun x hx => hu' x (List.mem_of_mem_take hx)⟩
            · intro h
              have := congrArg List.length h
              simp only [List.length_take, List.length_nil] at this
              omega
            · have : (lexWord (s.drop (blk false s))).2 ≤ 16 := Nat.le_of_not_lt fun h => hw (.inr ⟨h4, h⟩)
              simp only [List.length_take]; omega
          · exact h2 w hw'
theorem scan_wok {s : List Nat} (hs : ∀ c ∈ s, c < 256) : (scan 0 s).1.length ≤ s.length ∧ ∀ w ∈ (scan 0 s).1, w.text ≠ [] ∧ (w.kind ≠ 4 → w.text.length ≤ 16) ∧ 1 ≤ w.kind ∧ w.kind ≤ 4 ∧ ∀ c ∈ w.text, c < 256 := scanP_ok _ _ _ hs
end Delphi
set_option linter.unusedVariables false
namespace Delphi
def numT (s : List Nat) : Bool := let d := if s.head? = some 45 then s.drop 1 else s; !d.isEmpty && d.all isDigit
def numV (s : List Nat) : Int := if s.head? = some 45 then -(rNum s : Int) else (rNum s : Int)
theorem numberLen_num {s : List Nat} (h : numberLen s ≠ 0) : numT (s.take (numberLen s)) = true := by
  unfold numberLen at h ⊢
  by_cases h45 : s.head? = some 45
  · simp only [h45, if_true] at h ⊢
    obtain ⟨t, rfl⟩ : ∃ t, s = 45 :: t := by
      cases s with
      | nil => simp at h45
      | cons a t => simp at h45; exact ⟨t, by rw [h45]⟩
    simp only [List.drop_succ_cons, List.drop_zero, List.getElem?_cons_succ] at h ⊢
    generalize hd : t.takeWhile isDigit = d at h ⊢
    split at h
    · exact absurd rfl h
    rename_i h1
    rw [if_neg h1]
    split at h
    · exact absurd rfl h
    rename_i h2
    rw [if_neg h2]
    have h3 : ¬ t[0]? = some 48 := fun h => h2 ⟨trivial, h⟩
    rw [if_neg h3, Nat.add_comm, List.take_succ_cons]
    have : t.take d.length = d := by rw [← hd]; exact (List.prefix_iff_eq_take.1 (List.takeWhile_prefix _)).symm
    rw [this]
    simp only [numT, List.head?_cons, if_true, List.drop_succ_cons, List.drop_zero, Bool.and_eq_true, Bool.not_eq_true', List.isEmpty_eq_false_iff]
    refine ⟨fun he => h1 (by rw [he]; rfl), ?_⟩
    rw [← hd]; exact List.all_takeWhile
  · simp only [if_neg h45, List.drop_zero, Nat.zero_ne_one, false_and, if_false, Nat.zero_add] at h ⊢
    generalize hd : s.takeWhile isDigit = d at h ⊢
    split at h
    · exact absurd rfl h
    rename_i h1
    rw [if_neg h1]
    have hdd : ∀ l : List Nat, l <+: s → l ≠ [] → l.all isDigit = true → numT l = true := by
      intro l hp hne hall
      have : ¬ l.head? = some 45 := by
        intro hh
        obtain ⟨r, rfl⟩ := hp
        cases l with
        | nil => exact hne rfl
        | cons a l => exact h45 (by simpa using hh)
      simp only [numT, if_neg this, Bool.and_eq_true, Bool.not_eq_true', List.isEmpty_eq_false_iff]
      exact ⟨hne, hall⟩
    have hp : d <+: s := by rw [← hd]; exact List.takeWhile_prefix _
    have hall : d.all isDigit = true := by rw [← hd]; exact List.all_takeWhile
    split
    · rename_i h48
      cases s with
      | nil => simp at h48
      | cons a t =>
        simp at h48; subst h48
        exact hdd [48] ⟨t, rfl⟩ (by simp) (by decide)
    · have : s.take d.length = d := (List.prefix_iff_eq_take.1 hp).symm
      rw [this]
      exact hdd d hp (fun he => h1 (by rw [he]; rfl)) hall
theorem lexWord_num {s : List Nat} (h : (lexWord s).1 = 3) (h0 : (lexWord s).2 ≠ 0) : numT (s.take (lexWord s).2) = true := by
  unfold lexWord at h h0 ⊢
  cases s with
  | nil => simp at h
  | cons c t =>
    simp only at h h0 ⊢
    split
    · rename_i h1; rw [if_pos h1] at h; simp at h
    · rename_i h1
      rw [if_neg h1] at h h0
      split
      · rename_i h2; rw [if_pos h2] at h; simp at h
      · rename_i h2
        rw [if_neg h2] at h h0
        split
        · rename_i h3
          rw [if_pos h3] at h0
          exact numberLen_num h0
        · rename_i h3
          rw [if_neg h3] at h
          split at h <;> simp at h
theorem scanP_num : ∀ (n at' : Nat) (s : List Nat), ∀ w ∈ (scanP n at' s).1, w.kind = 3 → numT w.text = true
  | 0, _, _ => by simp [scanP]
  | n + 1, at', s => by
    simp only [scanP]
    split
    · simp
    · split
      · simp
      · rename_i hw
        intro w hw' hk
        rcases List.mem_cons.1 hw' with rfl | hw'
        · exact lexWord_num hk fun h => hw (.inl h)
        · exact scanP_num n _ _ w hw' hk
theorem scan_num {s : List Nat} : ∀ w ∈ (scan 0 s).1, w.kind = 3 → numT w.text = true := scanP_num _ _ _
theorem digit_step {n c : Nat} (h : isDigit c = true) : rDig n c = n * 10 + (c - 48) := by
  unfold isDigit at h
  simp only [Bool.and_eq_true, decide_eq_true_eq] at h
  unfold rDig
  rw [if_neg (by omega)]
  omega
def joinN : List (List Nat) → List Nat
  | [] => []
  | b :: r => b ++ r.flatMap fun x => [44, 32] ++ x
end Delphi
