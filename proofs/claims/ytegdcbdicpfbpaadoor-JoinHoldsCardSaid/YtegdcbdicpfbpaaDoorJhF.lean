/- A part of the proof. -/
import Derived.Test.YtegdcbdicpfbpaaDoorJhE
set_option maxRecDepth 100000
set_option linter.unusedVariables false
namespace Go.Proofs.YtegdcbdicpfbpaaDoor
open Go.AE
def Hu:ACode:=(QR [KG 16 false] .ret)
def JY:ACode:=(QR [KG 16 true] .ret)
def Uu:ACode:=(.region [Qm 62 19,Qm 63 18,Qw 64 3 11,Qo 65 (Qc JJ [(Qu 63),(Qu 64)]),Qz (.mapUpdate (.scalar .str) (Qu 62) (.const (.str [88])) (Qu 65))])
def WI:ACode:=(.seq (.region [Qa 74 2 20,Ql 75 74,Qo 76 (.build [(.int .i64 0),(.str []),(.int .i64 0)] [(0,1,(Qi 1)),(1,1,(.const (.str [88])))]),Qo 77 (.indexAddr 3 (Qu 75) (Qi 0)),Qz (.store 3 (Qu 77) (Qu 76))]) (QR [Qw 78 3 11,Qz (.store 3 (Qu 21) (Qu 78))] (.region [Qm 79 7,Qm 23 79])))
def Yn:ACode:=(.seq (.region [Qa 81 2 20,Ql 82 81,Qo 83 (.build [(.int .i64 0),(.str []),(.int .i64 0)] [(0,1,(Qi 1)),(1,1,(.const (.str [89])))]),Qo 84 (.indexAddr 3 (Qu 82) (Qi 1)),Qz (.store 3 (Qu 84) (Qu 83))]) (.region [Qw 85 3 12,Qz (.store 3 (Qu 22) (Qu 85))]))
def WJ:ACode:=(QR [Qm 93 25,Qm 94 23,Qo 95 (.eqv false .bool (Qu 93) (Qu 94)),Qm 96 95,Fs 97 96 23,Qt 98 96 (.un .not (Qu 97)),Fs 99 96 98,Fu 100 99 24,Fu 101 99 0,Qf 102 99 (.load 3 true (Qu 21)),Qf 103 99 (.load 3 true (Qu 22)),Qf 104 99 (Qc VY [(Qu 101),(Qu 102),(Qu 103)]),Qf 105 99 (.eqv false .bool (Qu 100) (Qu 104)),Qt 106 96 (.pick (Qu 99) (Qb true) (Qu 105)),KH 107 96 106,Qm 108 107,Fs 109 108 23,Fs 110 108 109,Fu 111 110 24,Qf 112 110 (.un .not (Qu 111)),Qt 113 108 (.pick (Qu 110) (Qb true) (Qu 112)),KH 114 108 113,Qm 16 114] .ret)
def ZB:ACode:=(QR [Qw 87 3 20,Qm 88 18,Qm 89 19,Qo 90 (Qc Wr [(Qu 87),(Qu 88),(Qu 89)]),Qm 86 90,KQ 91 0 86,KQ 92 1 86,Qm 24 91,Qm 25 92] WJ)
def Uv:ACode:=(.seq (.drawn [QD (Qw 71 3 9) [],QD (Qw 72 3 10) [],QE (Qo 21 (.alloc [(.int .i64 0),(.str []),(.int .i64 0)])) [],QE (Qo 22 (.alloc [(.int .i64 0),(.str []),(.int .i64 0)])) [],QE (Qz (.store 3 (Qu 21) (Qu 71))) [3,2,0],QE (Qz (.store 3 (Qu 22) (Qu 72))) [4,3,2,1,0],QD (KG 23 true) [5,4,3,2,1,0]]) (.seq (QR [Qm 73 5] (QI 73 WI .skip)) (.seq (QR [Qm 80 6] (QI 80 Yn .skip)) ZB)))
def WK:ACode:=(.seq (.region [Qm 66 0,Qw 67 3 9,Qw 68 3 10,Qo 69 (.buildSlice 2 [(.int .i64 0),(.str []),(.int .i64 0),(.int .i64 0),(.str []),(.int .i64 0)] [(0,3,(Qu 67)),(3,3,(Qu 68))]),Qo 70 (.build [(.int .i64 0),(.str []),.nilslice] [(0,1,(Qu 66)),(2,1,(Qu 69))]),Qo 20 (.alloc [(.int .i64 0),(.str []),.nilslice]),Qz (.store 3 (Qu 20) (Qu 70))]) Uv)
def Uw:ACode:=(QR [Qo 56 .mkMap,Qm 57 18,Qw 58 3 12,Qo 59 (Qc JJ [(Qu 57),(Qu 58)]),Qz (.mapUpdate (.scalar .str) (Qu 56) (.const (.str [89])) (Qu 59)),Qm 60 56,Qm 19 60] (.seq (QR [Qm 61 7] (QI 61 Uu .skip)) WK))
def Yo:ACode:=(.seq (QR [Qm 29 0,Qo 30 (.bin .lss (Qu 29) (Qi 3)),Qm 31 30,Fu 32 31 0,Qf 33 31 (.bin .gtr (Qu 32) (Qi 6)),KI 34 31 33,Qm 35 34,Qf 36 35 (.load 3 true (Qu 9)),Qf 37 35 (Qc Zx [(Qu 36)]),Qf 38 35 (.un .not (Qu 37)),KI 39 35 38,Qm 40 39,Qf 41 40 (.load 3 true (Qu 10)),Qf 42 40 (Qc Zx [(Qu 41)]),Qf 43 40 (.un .not (Qu 42)),KI 44 40 43,Qm 45 44,Qf 46 45 (.load 3 true (Qu 11)),Qf 47 45 (Qc Zx [(Qu 46)]),Qf 48 45 (.un .not (Qu 47)),KI 49 45 48,Qm 50 49,Qf 51 50 (.load 3 true (Qu 12)),Qf 52 50 (Qc Zx [(Qu 51)]),Qf 53 50 (.un .not (Qu 52)),KI 54 50 53] (QI 54 JY .skip)) (QR [Qo 55 (Qc Wq []),Qm 18 55] Uw))
def Jj:AFun:=⟨115,[.tmp 16],(QR [KR 9 1,KR 10 2,KR 11 3,KR 12 4,KG 16 false] (QR [Qo 26 (Qc VU []),Qm 17 26] (.seq (QR [Qm 27 17,Qh 28 27] (QI 28 Hu .skip)) Yo)))⟩
theorem Yp:(XTab.of Tryd.prog).code 4=some Jj:=by kernel_rfl
def Hv:ACode:=(QR [KG 0 false] .ret)
def Ux:ACode:=(.seq (.drawn [QD (Qm 22 4) [],QD (Qe 23 22) [0],QD (KO 24 23 1) [1,0],QD (Qm 25 24) [2,1,0],QD (Fs 26 25 4) [3,2,1,0],QD (Qt 27 25 (.indexAddr 1 (Qu 26) (Qi 0))) [4,3,2,1,0],QD (KJ 28 25 1 27) [5,4,3,2,1,0],QD (Qt 29 25 (.lenSl (Qu 28))) [6,5,4,3,2,1,0],QD (Qt 30 25 (.bin .eql (Qu 29) (Qi 1))) [7,6,5,4,3,2,1,0],QD (KH 31 25 30) [8,7,6,5,4,3,2,1,0],QD (Qm 32 31) [9,8,7,6,5,4,3,2,1,0],QD (Fs 33 32 4) [10,9,8,7,6,5,4,3,2,1,0],QD (Qt 34 32 (.indexAddr 1 (Qu 33) (Qi 0))) [11,10,9,8,7,6,5,4,3,2,1,0],QD (KJ 35 32 1 34) [12,11,10,9,8,7,6,5,4,3,2,1,0],QD (Qt 36 32 (.indexAddr 1 (Qu 35) (Qi 0))) [13,12,11,10,9,8,7,6,5,4,3,2,1,0],QD (KJ 37 32 1 36) [14,13,12,11,10,9,8,7,6,5,4,3,2,1,0],QD (Fs 38 32 1) [10,9,8,7,6,5,4,3,2,1,0],QD (Qt 39 32 (.build [(.int .i64 0),(.str []),(.int .i64 0)] [(0,1,(Qi 3)),(2,1,(Qi 5))])) [10,9,8,7,6,5,4,3,2,1,0],QE (Qt 40 32 (Qc JJ [(Qu 38),(Qu 39)])) [17,16,10,9,8,7,6,5,4,3,2,1,0],QD (Qt 41 32 (.bin .eql (Qu 37) (Qu 40))) [18,17,16,15,14,13,12,11,10,9,8,7,6,5,4,3,2,1,0],QD (KH 42 32 41) [19,18,17,16,15,14,13,12,11,10,9,8,7,6,5,4,3,2,1,0],QD (Qm 0 42) [20,19,18,17,16,15,14,13,12,11,10,9,8,7,6,5,4,3,2,1,0]]) .ret)
def Uy:ACode:=(QR [Qm 15 3,Qo 16 (.indexAddr 4 (Qu 15) (Qi 0)),Qw 17 4 16,Qm 18 1,Qw 19 1 2,Qo 20 (.mkIface 44 (Qu 19)),Qo 21 (Qc VW [(Qu 17),(Qu 18),(Qu 20)]),Qm 4 21] Ux)
def Uz:ACode:=(.seq (.region [Qm 8 1,Qo 9 (.build [(.int .i64 0),(.str []),(.int .i64 0)] [(0,1,(Qi 3)),(2,1,(Qi 5))]),Qo 10 (.buildSlice 1 [(.int .i64 0),(.str []),(.int .i64 0)] [(0,3,(Qu 9))]),Qo 11 (.build [(.str []),.nilslice] [(0,1,(.const (.str [113]))),(1,1,(Qu 10))]),Qo 12 (.buildSlice 1 [(.str []),.nilslice] [(0,2,(Qu 11))]),Qo 13 (Qc VX [(Qu 8),(Qu 12)]),Qo 2 (.alloc [.nilmap]),Qz (.store 1 (Qu 2) (Qu 13))]) (.seq (.region [Qo 14 (Qc VV [(.const (.str [112,40,88,41,32,58,45,32,113,40,88,41,44,32,33,114,40,88,41,46]))]),Qm 3 14]) Uy))
def UA:ACode:=(QR [Qo 5 (Qc Wq []),Qm 1 5] (.seq (QR [Qm 6 1,Qo 7 (.eqv false .ptr (Qu 6) (.const .nilptr))] (QI 7 Hv .skip)) Uz))
def Yq:AFun:=⟨43,[.tmp 0],(QR [KG 0 false] UA)⟩
theorem Yr:(XTab.of Tryd.prog).code 5=some Yq:=by kernel_rfl
def UB:ACode:=(QR [Qm 6 0,Qo 7 (Qc V0 [(Qu 6),(Qi 1200)]),Qo 8 (Qc VZ [(Qu 7)]),Qm 5 8,KQ 9 0 5,KQ 10 1 5,Qm 3 9,Qm 4 10] (QR [Qm 11 3,Qm 2 11] .ret))
def Ys:AFun:=⟨12,[.tmp 2],(QR [KP 2] UB)⟩
theorem Yt:(XTab.of Tryd.prog).code 7=some Ys:=by kernel_rfl
def Yu:AFun:=⟨4,[.tmp 0],(QR [Qo 0 (.mov (.const .nilptr))] (QR [Qo 1 .mkMap,Qo 2 (.build [.nilmap,.nilslice] [(0,1,(Qu 1))]),KR 3 2,Qm 0 3] .ret))⟩
theorem Yv:(XTab.of Tryd.prog).code 8=some Yu:=by kernel_rfl
def UC:ACode:=(QR [Qw 7 4 3,Qm 8 1,Qm 9 2,Qo 10 (Qc V1 [(Qu 7),(Qu 8),(Qu 9),(.const (.int .i64 (-1))),(.const .nilptr),(.const (.int .i64 (-1)))]),Qm 6 10] .ret)
def ZC:AFun:=⟨11,[.tmp 6],(QR [KR 3 0,KP 6] UC)⟩
theorem Yw:(XTab.of Tryd.prog).code 9=some ZC:=by kernel_rfl
def UD:ACode:=(.drawn [QD (Qa 26 0 5) [],QD (Ql 27 26) [0],QD (Qm 28 1) [],QD (Qm 29 6) [],QD (Qx 30 2 28 29) [3,2],QD (Qa 31 0 30) [4,3,2],QD (Ql 32 31) [5,4,3,2],QD (Qm 33 1) [],QD (Qm 34 6) [],QD (Qx 35 2 33 34) [8,7],QD (Qa 36 1 35) [9,8,7],QD (Ql 37 36) [10,9,8,7],QD (Qe 38 37) [11,10,9,8,7],QE (Qo 39 (Qc Ws [(Qu 38)])) [12,11,10,9,8,7],QE (Qz (.mapUpdate (.scalar .str) (Qu 27) (Qu 32) (Qu 39))) [13,12,11,10,9,8,7,6,5,4,3,2,1,0]])
def UE:ACode:=(.region [Qm 50 7,Qm 51 0,Qm 52 1,Qm 53 6,Qx 54 2 52 53,Qa 55 1 54,Ql 56 55,Qm 57 8,Qx 58 3 56 57,Qw 59 3 58,Qo 60 (Qc JJ [(Qu 51),(Qu 59)]),Qo 61 (.buildSlice 1 [(.int .i64 0)] [(0,1,(Qu 60))]),KT 62 1 8 50 61,Qm 7 62])
def ZD:ACode:=(.seq (QR [Qm 40 8,Qm 41 1,Qm 42 6,Qx 43 2 41 42,Qa 44 1 43,Ql 45 44,Qe 46 45,Qs 47 40 46] (QI 47 .skip (.exit 2))) (.seq (.block 3 UE) (.region [Qm 48 8,Qd 49 48,Qm 8 49])))
def Yx:ACode:=(.region [Qa 63 0 5,Ql 64 63,Qm 65 1,Qm 66 6,Qx 67 2 65 66,Qa 68 0 67,Ql 69 68,Qo 70 (.lookup (.scalar .str) .nilptr false (Qu 64) (Qu 69)),Qm 71 7,Qo 72 (Qc Wt [(Qu 70),(Qu 71)])])
def WL:ACode:=(.seq (QR [Qa 17 0 5,Ql 18 17,Qm 19 1,Qm 20 6,Qx 21 2 19 20,Qa 22 0 21,Ql 23 22,Qo 24 (.lookup (.scalar .str) .nilptr false (Qu 18) (Qu 23)),Qo 25 (.eqv false .ptr (Qu 24) (.const .nilptr))] (QI 25 UD .skip)) (QR [KP 7] (.seq (QR [KF 8 0] (.block 2 (.loop ZD))) Yx)))
def ZE:ACode:=(.seq (QR [Qm 11 6,Qm 12 1,Qe 13 12,Qs 14 11 13] (QI 14 .skip (.exit 0))) (.seq (.block 1 WL) (.region [Qm 15 6,Qd 16 15,Qm 6 16])))
def UF:ACode:=(QR [Qo 9 .mkMap,Qo 10 (.build [.nilmap] [(0,1,(Qu 9))]),Qo 5 (.alloc [.nilmap]),Qz (.store 1 (Qu 5) (Qu 10))] (.seq (QR [KF 6 0] (.block 0 (.loop ZE))) (QR [Qw 73 1 5,Qz (.store 1 (Qu 4) (Qu 73))] .ret)))
def ZF:AFun:=⟨74,[.cell 4 1 true],(QR [Qo 4 (.alloc [.nilmap])] UF)⟩
theorem Yy:(XTab.of Tryd.prog).code 10=some ZF:=by kernel_rfl
def WM:ACode:=(QR [Qa 22 2 1,Ql 23 22,KO 24 23 0,Qm 25 24,KM 26 25 1 1,KJ 27 25 1 26,Qt 28 25 (Qc V2 [(Qu 27)]),KH 29 25 28,Qm 2 29] .ret)
def ZG:ACode:=(QR [Qa 7 1 1,Ql 8 7,Qo 9 (.bin .eql (Qu 8) (.const (.str []))),Qm 10 9,KM 11 10 2 1,KJ 12 10 1 11,Qt 13 10 (.bin .geq (Qu 12) (.const (.int .i64 (-2147483648)))),KH 14 10 13,Qm 15 14,KM 16 15 2 1,KJ 17 15 1 16,Qt 18 15 (.bin .leq (Qu 17) (Qi 2147483648)),KH 19 15 18,Qm 2 19] .ret)
def JL:ACode:=(QR [KO 6 4 3,Qm 5 6] (QI 5 ZG (QR [KO 21 4 2,Qm 20 21] (QI 20 WM .skip))))
def Jb:AFun:=⟨30,[.tmp 2],(QR [KR 1 0,KG 2 false] (.seq (QR [Qa 3 0 1,Ql 4 3] (.block 0 JL)) (QR [KG 2 false] .ret)))⟩
theorem Yz:(XTab.of Tryd.prog).code 11=some Jb:=by kernel_rfl
def UG:ACode:=(.seq (.drawn [QD (Qm 25 0) [],QD (Qm 26 0) [],QD (Qn 27 26) [1],QD (Qa 28 1 27) [2,1],QD (Ql 29 28) [3,2,1],QD (Qw 30 3 3) [],QE (Qo 31 (.buildSlice 1 [(.int .i64 0),(.str []),(.int .i64 0)] [(0,3,(Qu 30))])) [5],QE (KT 32 3 32 29 31) [6,5,4,3,2,1],QD (Qn 33 25) [7,6,5,4,3,2,1,0],QD (Qa 34 1 33) [8,7,6,5,4,3,2,1,0],QE (Qz (.store 1 (Qu 34) (Qu 32))) [9,8,7,6,5,4,3,2,1,0]]) (QR [Qm 35 0,Qn 36 35,Qa 37 1 36,Ql 38 37,Qe 39 38,Qm 5 39] (.region [Qm 40 0,Qn 41 40,Qa 42 0 41,Ql 43 42,Qw 44 3 3,Qm 45 5,Qz (.mapUpdate (.cells [.int,.str,.int]) (Qu 43) (Qu 44) (Qu 45))])))
def Zc:AFun:=⟨47,[.tmp 4],(QR [KR 3 1,KF 4 0] (.seq (QR [Qm 7 0,Qo 8 (.eqv false .ptr (Qu 7) (.const .nilptr)),Qm 9 8,Qf 10 9 (.load 3 true (Qu 3)),Qf 11 9 (Qc V3 [(Qu 10)]),Qf 12 9 (.un .not (Qu 11)),KI 13 9 12] (QI 13 (QR [KF 4 0] .ret) .skip)) (QR [Qm 15 0,Qn 16 15,Qa 17 0 16,Ql 18 17,Qw 19 3 3,Qo 20 (.lookup (.cells [.int,.str,.int]) (.int .i64 0) true (Qu 18) (Qu 19)),Qm 14 20,KQ 21 0 14,KQ 22 1 14,Qm 5 21,Qm 6 22] (.seq (QR [Qm 23 6,Qh 24 23] (QI 24 UG .skip)) (QR [Qm 46 5,Qm 4 46] .ret)))))⟩
theorem YA:(XTab.of Tryd.prog).code 12=some Zc:=by kernel_rfl
def Hw:ACode:=(QR [KG 6 false,KG 7 false] .ret)
def UH:ACode:=(QR [KG 6 false,KG 7 false] .ret)
def UI:ACode:=(.region [Qm 52 9,Qm 53 1,Qm 54 11,Qo 55 (Qc V4 [(Qu 53),(Qu 54)]),Qo 56 (.indexArr 2 3 (Qu 8) (Qu 52)),Qz (.store 3 (Qu 56) (Qu 55))])
def WN:ACode:=(QR [Qm 44 2,Qa 45 1 10,Ql 46 45,Qo 47 (.lookup (.scalar .str) (.int .i64 0) true (Qu 44) (Qu 46)),Qm 43 47,KQ 48 0 43,KQ 49 1 43,Qm 11 48,Qm 12 49] (.seq (QR [Qm 50 12,Qh 51 50] (QI 51 UH .skip)) UI))
def YB:ACode:=(QR [Qm 37 9,Qw 38 3 10,Qo 39 (.indexArr 2 3 (Qu 8) (Qu 37)),Qz (.store 3 (Qu 39) (Qu 38))] (QR [Qa 40 0 10,Ql 41 40,KO 42 41 1] (QI 42 WN .skip)))
def YC:ACode:=(.seq (.region [Qm 34 32,Qx 35 3 30 32,Qw 36 3 35,Qo 10 (.alloc [(.int .i64 0),(.str []),(.int .i64 0)]),Qm 9 34,Qz (.store 3 (Qu 10) (Qu 36))]) YB)
def JM:ACode:=(QR [Qs 33 32 31] (.seq (QI 33 .skip (.exit 0)) (.seq (.block 1 YC) (.region [Qd 57 32,Qm 32 57]))))
def UJ:ACode:=(QR [Qw 81 3 13,Qw 82 3 14,Qo 83 (Qc Wv [(Qu 81),(Qu 82)]),Qm 6 83,KG 7 true] .ret)
def UK:ACode:=(QR [Qw 64 3 14,Qw 65 3 13,Qo 66 (Qc Wv [(Qu 64),(Qu 65)]),Qh 67 66,Qm 6 67,KG 7 true] .ret)
def UL:ACode:=(QR [Qw 75 3 13,Qw 76 3 14,Qo 77 (Qc Wu [(Qu 75),(Qu 76)]),Qh 78 77,Qm 6 78,KG 7 true] .ret)
def WP:ACode:=(QR [KO 80 63 5,Qm 79 80] (QI 79 UJ UK))
def UM:ACode:=(QR [Qw 70 3 13,Qw 71 3 14,Qo 72 (Qc Wu [(Qu 70),(Qu 71)]),Qm 6 72,KG 7 true] .ret)
def YD:ACode:=(QR [KO 74 63 4,Qm 73 74] (QI 73 UL WP))
def ZH:ACode:=(QR [Qa 62 0 3,Ql 63 62] (.block 2 (QR [KO 69 63 3,Qm 68 69] (QI 68 UM YD))))
def UN:ACode:=(.seq (.drawn [QD (Qo 58 (.indexArr 2 3 (Qu 8) (Qi 0))) [],QD (Qw 59 3 58) [0],QD (Qo 60 (.indexArr 2 3 (Qu 8) (Qi 1))) [],QD (Qw 61 3 60) [2],QE (Qo 13 (.alloc [(.int .i64 0),(.str []),(.int .i64 0)])) [],QE (Qo 14 (.alloc [(.int .i64 0),(.str []),(.int .i64 0)])) [],QE (Qz (.store 3 (Qu 13) (Qu 59))) [5,4,1,0],QE (Qz (.store 3 (Qu 14) (Qu 61))) [6,5,4,3,2,1,0]]) ZH)
def UO:ACode:=(.seq (.region [Qo 8 (.alloc [(.int .i64 0),(.str []),(.int .i64 0),(.int .i64 0),(.str []),(.int .i64 0)])]) (.seq (QR [Qa 29 2 3,Ql 30 29,Qe 31 30,KF 32 0] (.block 0 (.loop JM))) UN))
def UP:ACode:=(.seq (QR [Qa 15 0 3,Ql 16 15,Qo 17 (.bin .lss (Qu 16) (Qi 3)),Qm 18 17,KN 19 18 0 3,KL 20 18 1 19,Qf 21 18 (.bin .gtr (Qu 20) (Qi 6)),KI 22 18 21,Qm 23 22,KN 24 23 2 3,KL 25 23 1 24,Qf 26 23 (.lenSl (Qu 25)),Qf 27 23 (.bin .neq (Qu 26) (Qi 2)),KI 28 23 27] (QI 28 Hw .skip)) UO)
def Ju:AFun:=⟨84,[.tmp 6,.tmp 7],(QR [KR 3 0,KG 6 false,KG 7 false] UP)⟩
theorem YE:(XTab.of Tryd.prog).code 13=some Ju:=by kernel_rfl
def UQ:ACode:=(QR [Qw 21 3 4,Qw 22 3 5,Qo 23 (Qc Wx [(Qu 21),(Qu 22)]),Qm 6 23] .ret)
def UR:ACode:=(QR [Qw 15 3 4,Qw 16 3 5,Qo 17 (Qc Ww [(Qu 15),(Qu 16)]),Qh 18 17,Qm 6 18] .ret)
def WQ:ACode:=(QR [KO 20 7 5,Qm 19 20] (QI 19 UQ .skip))
def US:ACode:=(QR [Qw 10 3 4,Qw 11 3 5,Qo 12 (Qc Ww [(Qu 10),(Qu 11)]),Qm 6 12] .ret)
def YF:ACode:=(QR [KO 14 7 4,Qm 13 14] (QI 13 UR WQ))
def UT:ACode:=(QR [Qw 24 3 5,Qw 25 3 4,Qo 26 (Qc Wx [(Qu 24),(Qu 25)]),Qh 27 26,Qm 6 27] .ret)
def Jv:AFun:=⟨28,[.tmp 6],(QR [KR 4 1,KR 5 2,KG 6 false] (.seq (QR [Qm 7 0] (.block 0 (QR [KO 9 7 3,Qm 8 9] (QI 8 US YF)))) UT))⟩
theorem YG:(XTab.of Tryd.prog).code 14=some Jv:=by kernel_rfl
def UU:ACode:=(QR [Qm 17 5,KP 2,Qm 3 17] .ret)
def UV:ACode:=(.region [Qm 75 6,Qo 76 (Qc Js [(Qu 75),(Qi 8)])])
def UW:ACode:=(.region [Qm 86 6,Qn 87 86,Qa 88 1 87,Ql 89 88,Qd 90 89,Qn 91 86,Qa 92 1 91,Qz (.store 1 (Qu 92) (Qu 90))])
def WR:ACode:=(.seq (.region [Qa 77 3 8,Ql 78 77,Qw 79 3 9,Qo 80 (.buildSlice 1 [(.int .i64 0),(.str []),.nilslice] [(0,3,(Qu 79))]),KT 81 3 48 78 80,Qa 82 3 8,Qz (.store 1 (Qu 82) (Qu 81))]) (.seq (.seq (.region [Qm 83 6,Qo 84 (Qc JK [(Qu 83),(.const (.str [44]))]),Qh 85 84]) (QI 85 (.exit 2) .skip)) UW))
def YH:ACode:=(.seq (QR [Qm 64 6,Qn 65 64,Qa 66 2 65,Ql 67 66,KO 68 67 0,Qm 69 68,KM 70 69 3 8,KJ 71 69 1 70,Qt 72 69 (.lenSl (Qu 71)),Qt 73 69 (.bin .eql (Qu 72) (Qi 6)),KH 74 69 73] (QI 74 UV .skip)) WR)
def JZ:ACode:=(.seq (QR [Qm 57 6,Qn 58 57,Qa 59 2 58,Ql 60 59,KO 61 60 0] (QI 61 .skip (.exit 2))) (.block 3 (.seq (.region [Qm 62 6,Qo 63 (Qc V6 [(Qu 62)]),Qo 9 (.alloc [(.int .i64 0),(.str []),.nilslice]),Qz (.store 3 (Qu 9) (Qu 63))]) YH)))
def UX:ACode:=(QR [Qm 50 6,Qn 51 50,Qa 52 1 51,Ql 53 52,Qd 54 53,Qn 55 50,Qa 56 1 55,Qz (.store 1 (Qu 56) (Qu 54))] (.block 2 (.loop JZ)))
def UY:ACode:=(.region [Qm 105 6,Qo 106 (Qc Js [(Qu 105),(Qi 8)])])
def WT:ACode:=(.region [Qm 107 7,Qw 108 4 8,Qo 109 (.buildSlice 1 [(.int .i64 0),(.str []),.nilslice,.nilslice] [(0,4,(Qu 108))]),KT 110 4 72 107 109,Qm 7 110])
def Zd:ACode:=(.seq (QR [Qm 95 6,Qn 96 95,Qa 97 2 96,Ql 98 97,KO 99 98 0,Qm 100 99,Fs 101 100 7,Qt 102 100 (.lenSl (Qu 101)),Qt 103 100 (.bin .eql (Qu 102) (Qi 30)),KH 104 100 103] (QI 104 UY .skip)) WT)
def UZ:ACode:=(.seq (.seq (.region [Qm 41 6,Qo 42 (Qc JK [(Qu 41),(.const (.str [58,45]))]),Qm 43 42,Fs 44 43 6,Qt 45 43 (.nilCheck (Qu 44)),KM 46 43 2 45,KJ 47 43 1 46,Qt 48 43 (.bin .eql (Qu 47) (Qi 0)),KH 49 43 48]) (QI 49 UX .skip)) (.seq (.region [Qm 93 6,Qo 94 (Qc Ye [(Qu 93),(.const (.str [46]))])]) Zd))
def WU:ACode:=(.seq (.region [Qm 38 6,Qo 39 (Qc Yd [(Qu 38)]),Qo 40 (.build [(.int .i64 0),(.str []),.nilslice,.nilslice] [(0,3,(Qu 39))]),Qo 8 (.alloc [(.int .i64 0),(.str []),.nilslice,.nilslice]),Qz (.store 4 (Qu 8) (Qu 40))]) UZ)
def JN:ACode:=(.seq (QR [Qm 21 6,Qn 22 21,Qa 23 2 22,Ql 24 23,KO 25 24 0,Qm 26 25,Fs 27 26 6,Qt 28 26 (.nilCheck (Qu 27)),KM 29 26 1 28,KJ 30 26 1 29,Fs 31 26 6,Qt 32 26 (.nilCheck (Qu 31)),KM 33 26 0 32,KJ 34 26 1 33,Qt 35 26 (.lenSl (Qu 34)),Qt 36 26 (.bin .lss (Qu 30) (Qu 35)),KH 37 26 36] (QI 37 .skip (.exit 0))) (.block 1 WU))
def U0:ACode:=(QR [Qm 119 6,Qn 120 119,Qa 121 2 120,Ql 122 121,KP 2,Qm 3 122] .ret)
def WV:ACode:=(.seq (QR [Qm 114 6,Qn 115 114,Qa 116 2 115,Ql 117 116,Qo 118 (.bin .neq (Qu 117) (Qi 0))] (QI 118 U0 .skip)) (QR [Qm 123 7,Qm 2 123,KF 3 0] .ret))
def U1:ACode:=(QR [KP 7] (.seq (.block 0 (.loop JN)) (QR [Qm 111 6,Qm 112 5,Qo 113 (Qc Js [(Qu 111),(Qu 112)])] WV)))
def WW:ACode:=(.seq (QR [Qm 15 5,KO 16 15 8] (QI 16 UU .skip)) (QR [Qm 18 4,Qo 19 (.build [.nilslice,(.int .i64 0),(.int .i64 0)] [(0,1,(Qu 18))]),KR 20 19,Qm 6 20] U1))
def U2:ACode:=(QR [Qm 11 0,Qo 12 (Qc V5 [(Qu 11)]),Qm 10 12,KQ 13 0 10,KQ 14 1 10,Qm 4 13,Qm 5 14] WW)
def Ze:AFun:=⟨124,[.tmp 2,.tmp 3],(QR [KP 2,KF 3 0] U2)⟩
theorem YI:(XTab.of Tryd.prog).code 15=some Ze:=by kernel_rfl
def Zf:AFun:=⟨13,[.tmp 4],(QR [Qo 4 (.mov (.const (.str [])))] (.seq (QR [Qm 5 0,Qo 6 (.lenStr (Qu 5)),Qm 7 1,Qo 8 (.bin .gtr (Qu 6) (Qu 7))] (QI 8 (QR [Qm 9 0,Qm 10 1,Qo 11 (.sliceStr (Qu 9) none (some (Qu 10))),Qm 4 11] .ret) .skip)) (QR [Qm 12 0,Qm 4 12] .ret)))⟩
theorem YJ:(XTab.of Tryd.prog).code 16=some Zf:=by kernel_rfl
def U3:ACode:=(QR [KP 12] .ret)
def Hx:ACode:=(QR [KP 12] .ret)
def WY:ACode:=(QR [Qa 66 0 19,Ql 67 66,Qo 68 (.bin .neq (Qu 67) (Qi 1)),Qm 69 68,Fs 70 69 1,Qt 71 69 (.load 3 true (Qu 19)),Qt 72 69 (Qc JJ [(Qu 70),(Qu 71)]),Qt 73 69 (.bin .eql (Qu 72) (Qi 0)),KH 74 69 73] (QI 74 Hx .skip))
def WZ:ACode:=(.seq (.block 3 (.seq (.region [Qx 64 3 60 62,Qw 65 3 64,Qo 19 (.alloc [(.int .i64 0),(.str []),(.int .i64 0)]),Qz (.store 3 (Qu 19) (Qu 65))]) WY)) (.region [Qd 75 62,Qm 62 75]))
def ZI:ACode:=(QR [Qs 63 62 61] (.seq (QI 63 .skip (.exit 2)) WZ))
def U4:ACode:=(.seq (.region [Qx 57 3 53 55,Qw 58 3 57,Qo 17 (.alloc [(.int .i64 0),(.str []),.nilslice]),Qz (.store 3 (Qu 17) (Qu 58))]) (QR [Qa 59 2 17,Ql 60 59,Qe 61 60,KF 62 0] (.block 2 (.loop ZI))))
def YK:ACode:=(QR [Qs 56 55 54] (.seq (QI 56 .skip (.exit 0)) (.seq (.block 1 U4) (.region [Qd 76 55,Qm 55 76]))))
def U5:ACode:=(.region [Qm 84 15,Qo 85 (Qc J8 [(Qu 84),(Qi 0)])])
def U6:ACode:=(QR [Qm 86 15,Qn 87 86,Qa 88 13 87,Ql 89 88,Qo 90 (Qc V9 [(Qu 89)]),Qm 12 90] .ret)
def U7:ACode:=(.seq (QR [Qm 79 15,Qn 80 79,Qa 81 13 80,Ql 82 81,Qo 83 (.eqv true .ptr (Qu 82) (.const .nilptr))] (QI 83 U5 .skip)) U6)
def U8:ACode:=(.seq (QR [Qa 52 3 6,Ql 53 52,Qe 54 53,KF 55 0] (.block 0 (.loop YK))) (QR [Qm 77 15,Qo 78 (Qc V8 [(Qu 77)])] U7))
def U9:ACode:=(.seq (.drawn [QD (Qw 36 4 6) [],QD (Qm 37 1) [],QD (Qm 38 2) [],QD (Qw 39 2 13) [],QD (Qm 40 3) [],QD (Qm 41 4) [],QE (Qo 42 .mkMap) [],QE (Qo 43 .mkMap) [],QD (Qa 44 0 6) [],QD (Qa 45 2 44) [8],QD (Ql 46 45) [9,8],QD (Qe 47 46) [10,9,8],QE (Qo 48 (Qc Ws [(Qu 47)])) [11,10,9,8],QD (Qm 49 5) [],QD (Qo 50 (.build [(.int .i64 0),(.str []),.nilslice,.nilslice,.nilptr,.niliface,.nilslice,.nilslice,(.int .i64 0),.nilptr,.nilslice,.nilmap,.nilmap,.nilptr,(.int .i64 0)] [(0,4,(Qu 36)),(4,1,(Qu 37)),(5,1,(Qu 38)),(6,2,(Qu 39)),(8,1,(Qu 40)),(9,1,(Qu 41)),(11,1,(Qu 42)),(12,1,(Qu 43)),(13,1,(Qu 48)),(14,1,(Qu 49))])) [13,12,11,10,9,8,7,6,5,4,3,2,1,0],QE (KR 51 50) [14,13,12,11,10,9,8,7,6,5,4,3,2,1,0],QD (Qm 15 51) [15,14,13,12,11,10,9,8,7,6,5,4,3,2,1,0]]) U8)
def W0:ACode:=(.seq (QR [Qm 26 14,Qh 27 26,Qm 28 27,Fu 29 28 1,Qf 30 28 (.eqv false .ptr (Qu 29) (.const .nilptr)),KI 31 28 30,Qm 32 31,Fu 33 32 2,Qf 34 32 (.eqv false .iface (Qu 33) (.const .niliface)),KI 35 32 34] (QI 35 U3 .skip)) U9)
def Ga:ACode:=(QR [Qw 21 4 6,Qm 22 3,Qo 23 (Qc V7 [(Qu 21),(Qu 22)]),Qm 20 23,KQ 24 0 20,KQ 25 1 20,Qo 13 (.alloc [.nilslice,.nilslice]),Qz (.store 2 (Qu 13) (Qu 24)),Qm 14 25] W0)
def Zg:AFun:=⟨91,[.tmp 12],(QR [KR 6 0,KP 12] Ga)⟩
theorem YL:(XTab.of Tryd.prog).code 17=some Zg:=by kernel_rfl
def YM:AFun:=⟨12,[.tmp 2],(QR [Qo 2 (.mov (.const .nilptr))] (.seq (QR [Qm 3 0,Qo 4 (.bin .lss (Qu 3) (Qi 0)),Qm 5 4,Fu 6 5 0,Qf 7 5 (.bin .gtr (Qu 6) (Qi 4)),KI 8 5 7] (QI 8 (QR [Qo 2 (.mov (.const .nilptr))] .ret) .skip)) (QR [Qm 9 0,Qo 10 (.build [(.int .i64 0),.nilslice] [(0,1,(Qu 9))]),KR 11 10,Qm 2 11] .ret)))⟩
theorem YN:(XTab.of Tryd.prog).code 18=some YM:=by kernel_rfl
def Zh:AFun:=⟨30,[.tmp 4],(QR [KG 4 false] (QR [Qm 8 0,Qm 9 1,Qo 10 (Qc Wy [(Qu 8),(Qu 9)]),Qm 7 10,KQ 11 0 7,KQ 12 1 7,Qm 5 11,Qm 6 12] (.seq (QR [Qm 13 5,Qo 14 (.bin .lss (Qu 13) (Qi 0)),Qm 15 14,Fu 16 15 6,KI 17 15 16] (QI 17 (QR [KG 4 false] .ret) .skip)) (.seq (.drawn [QD (Qm 18 0) [],QD (Qm 19 0) [],QD (Qn 20 19) [1],QD (Qa 21 1 20) [2,1],QD (Ql 22 21) [3,2,1],QD (Qm 23 5) [],QD (Qm 24 1) [],QE (Qo 25 (Qc Wz [(Qu 24)])) [6],QE (Qo 26 (.buildSlice 1 [.nilslice] [(0,1,(Qu 25))])) [7,6],QE (Qo 27 (Qc J9 [(Qu 22),(Qu 23),(Qu 26)])) [8,7,6,5,4,3,2,1],QD (Qn 28 18) [9,8,7,6,5,4,3,2,1,0],QD (Qa 29 1 28) [10,9,8,7,6,5,4,3,2,1,0],QE (Qz (.store 1 (Qu 29) (Qu 27))) [11,10,9,8,7,6,5,4,3,2,1,0]]) (QR [KG 4 true] .ret)))))⟩
theorem YO:(XTab.of Tryd.prog).code 19=some Zh:=by kernel_rfl
end Go.Proofs.YtegdcbdicpfbpaaDoor
