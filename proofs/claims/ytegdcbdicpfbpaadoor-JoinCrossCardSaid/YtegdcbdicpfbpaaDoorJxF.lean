/- A part of the proof. -/
import Derived.Test.YtegdcbdicpfbpaaDoorJxE
set_option maxRecDepth 100000
set_option linter.unusedVariables false
namespace Go.Proofs.YtegdcbdicpfbpaaDoor
open Go.AE
def Hf:ACode:=(QR [KI 4 false] .ret)
def Zs:ACode:=(QR [KI 4 true] .ret)
def Ud:ACode:=(.region [Qm 39 6,Qm 40 7,Qo 41 (Qc We [(Qu 40)]),Qo 42 (.buildSlice 1 [(.int .i64 0),(.str []),(.int .i64 0)] [(0,3,(Qu 41))]),Qo 43 (.build [(.str []),.nilslice] [(0,1,(.const (.str [97]))),(1,1,(Qu 42))]),Qo 44 (.buildSlice 1 [(.str []),.nilslice] [(0,2,(Qu 43))]),KV 45 2 40 39 44,Qm 6 45])
def Wu:ACode:=(.seq (QR [Qm 34 7,Qm 35 0,Qs 36 34 35] (QI 36 .skip (.exit 0))) (.seq (.block 1 Ud) (.region [Qm 37 7,Qd 38 37,Qm 7 38])))
def Ue:ACode:=(.region [Qm 51 6,Qm 52 8,Qo 53 (.bin .mul (Qi 2) (Qu 52)),Qo 54 (Qc We [(Qu 53)]),Qo 55 (.buildSlice 1 [(.int .i64 0),(.str []),(.int .i64 0)] [(0,3,(Qu 54))]),Qo 56 (.build [(.str []),.nilslice] [(0,1,(.const (.str [98]))),(1,1,(Qu 55))]),Qo 57 (.buildSlice 1 [(.str []),.nilslice] [(0,2,(Qu 56))]),KV 58 2 40 51 57,Qm 6 58])
def Wv:ACode:=(.seq (QR [Qm 46 8,Qm 47 1,Qs 48 46 47] (QI 48 .skip (.exit 2))) (.seq (.block 3 Ue) (.region [Qm 49 8,Qd 50 49,Qm 8 50])))
def Hg:ACode:=(QR [KI 4 false] .ret)
def Uf:ACode:=(.region [Qm 77 10,Qd 78 77,Qm 10 78])
def Ug:ACode:=(.region [Qm 83 11,Qd 84 83,Qm 11 84])
def Yd:ACode:=(.seq (QR [Qm 73 12,Qm 74 13,Qo 75 (.bin .mul (Qi 2) (Qu 74)),Qs 76 73 75] (QI 76 Uf .skip)) (QR [Qm 79 12,Qm 80 13,Qo 81 (.bin .mul (Qi 2) (Qu 80)),Qo 82 (.bin .eql (Qu 79) (Qu 81))] (QI 82 Ug .skip)))
def Zt:ACode:=(.seq (QR [Qm 68 13,Qm 69 1,Qs 70 68 69] (QI 70 .skip (.exit 6))) (.seq (.block 7 Yd) (.region [Qm 71 13,Qd 72 71,Qm 13 72])))
def Uh:ACode:=(.seq (.block 5 (QR [KH 13 0] (.block 6 (.loop Zt)))) (.region [Qm 66 12,Qd 67 66,Qm 12 67]))
def Ye:ACode:=(.seq (QR [Qm 63 12,Qm 64 0,Qs 65 63 64] (QI 65 .skip (.exit 4))) Uh)
def Hh:ACode:=(QR [KI 4 false] .ret)
def Ui:ACode:=(.seq (.drawn [QD (Qm 99 9) [],QD (Qm 100 15) [],QD (Qx 101 4 99 100) [1,0],QD (Qw 102 4 101) [2,1,0],QD (Qm 103 16) [],QD (Qm 104 16) [],QD (Qm 105 6) [],QE (Qo 106 (Qc Wi [(Qu 104),(Qu 105)])) [6,5],QD (Qo 107 (.mkIface 44 (Qu 106))) [7,6,5],QE (Qo 108 (Qc Wh [(Qu 102),(Qu 103),(Qu 107)])) [8,7,6,5,4,3,2,1,0],QD (Qe 109 108) [9,8,7,6,5,4,3,2,1,0],QD (Qm 110 14) [],QD (Qm 111 15) [],QD (Qx 112 1 110 111) [12,11],QD (Ql 113 112) [13,12,11],QD (Qo 114 (.bin .neq (Qu 109) (Qu 113))) [14,13,12,11,10,9,8,7,6,5,4,3,2,1,0]]) (QI 114 Hh .skip))
def Uj:ACode:=(.seq (.block 9 (QR [Qo 98 (Qc Wg []),Qm 16 98] Ui)) (.region [Qm 96 15,Qd 97 96,Qm 15 97]))
def Yf:ACode:=(.seq (QR [Qm 94 15,Qo 95 (.bin .lss (Qu 94) (Qi 4))] (QI 95 .skip (.exit 8))) Uj)
def Uk:ACode:=(QR [Qm 85 0,Qm 86 1,Qo 87 (.bin .mul (Qu 85) (Qu 86)),Qm 88 10,Qm 89 11,Qm 90 0,Qm 91 11,Qo 92 (.bin .sub (Qu 90) (Qu 91)),Qo 93 (.buildSlice 4 [(.int .i64 0),(.int .i64 0),(.int .i64 0),(.int .i64 0)] [(0,1,(Qu 87)),(1,1,(Qu 88)),(2,1,(Qu 89)),(3,1,(Qu 92))]),Qm 14 93] (.seq (QR [KH 15 0] (.block 8 (.loop Yf))) (QR [KI 4 true] .ret)))
def Ul:ACode:=(.seq (QR [Qm 60 9,Qe 61 60,Qo 62 (.bin .neq (Qu 61) (Qi 4))] (QI 62 Hg .skip)) (QR [KH 10 0,KH 11 0] (.seq (QR [KH 12 0] (.block 4 (.loop Ye))) Uk)))
def Ww:ACode:=(.seq (.region [Qo 59 (Qc Wf [(.const (.str [99,40,88,44,32,89,41,32,58,45,32,97,40,88,41,44,32,98,40,89,41,46,32,100,40,88,44,32,89,41,32,58,45,32,97,40,88,41,44,32,98,40,89,41,44,32,88,32,60,32,89,46,32,101,40,88,41,32,58,45,32,97,40,88,41,44,32,98,40,88,41,46,32,102,40,88,41,32,58,45,32,97,40,88,41,44,32,33,98,40,88,41,46]))]),Qm 9 59]) Ul)
def Yg:ACode:=(QR [KR 6] (.seq (QR [KH 7 0] (.block 0 (.loop Wu))) (.seq (QR [KH 8 0] (.block 2 (.loop Wv))) Ww)))
def J3:ACode:=(.seq (QR [Qm 20 0,Qo 21 (.bin .lss (Qu 20) (Qi 0)),Qm 22 21,Fu 23 22 0,Qf 24 22 (.bin .gtr (Qu 23) (Qi 20)),KL 25 22 24,Qm 26 25,Fu 27 26 1,Qf 28 26 (.bin .lss (Qu 27) (Qi 0)),KL 29 26 28,Qm 30 29,Fu 31 30 1,Qf 32 30 (.bin .gtr (Qu 31) (Qi 20)),KL 33 30 32] (QI 33 Zs .skip)) Yg)
def Jv:AFun:=⟨115,[.tmp 4],(QR [KI 4 false] (QR [Qo 17 (Qc VF []),Qm 5 17] (.seq (QR [Qm 18 5,Qh 19 18] (QI 19 Hf .skip)) J3)))⟩
theorem Yh:(XTab.of Tryd.prog).code 3=some Jv:=by kernel_rfl
def Hi:ACode:=(QR [KI 0 false] .ret)
def Um:ACode:=(.seq (.drawn [QD (Qm 22 4) [],QD (Qe 23 22) [0],QD (KQ 24 23 1) [1,0],QD (Qm 25 24) [2,1,0],QD (Fs 26 25 4) [3,2,1,0],QD (Qt 27 25 (.indexAddr 1 (Qu 26) (Qi 0))) [4,3,2,1,0],QD (KM 28 25 1 27) [5,4,3,2,1,0],QD (Qt 29 25 (.lenSl (Qu 28))) [6,5,4,3,2,1,0],QD (Qt 30 25 (.bin .eql (Qu 29) (Qi 1))) [7,6,5,4,3,2,1,0],QD (KJ 31 25 30) [8,7,6,5,4,3,2,1,0],QD (Qm 32 31) [9,8,7,6,5,4,3,2,1,0],QD (Fs 33 32 4) [10,9,8,7,6,5,4,3,2,1,0],QD (Qt 34 32 (.indexAddr 1 (Qu 33) (Qi 0))) [11,10,9,8,7,6,5,4,3,2,1,0],QD (KM 35 32 1 34) [12,11,10,9,8,7,6,5,4,3,2,1,0],QD (Qt 36 32 (.indexAddr 1 (Qu 35) (Qi 0))) [13,12,11,10,9,8,7,6,5,4,3,2,1,0],QD (KM 37 32 1 36) [14,13,12,11,10,9,8,7,6,5,4,3,2,1,0],QD (Fs 38 32 1) [10,9,8,7,6,5,4,3,2,1,0],QD (Qt 39 32 (.build [(.int .i64 0),(.str []),(.int .i64 0)] [(0,1,(Qi 3)),(2,1,(Qi 5))])) [10,9,8,7,6,5,4,3,2,1,0],QE (Qt 40 32 (Qc JY [(Qu 38),(Qu 39)])) [17,16,10,9,8,7,6,5,4,3,2,1,0],QD (Qt 41 32 (.bin .eql (Qu 37) (Qu 40))) [18,17,16,15,14,13,12,11,10,9,8,7,6,5,4,3,2,1,0],QD (KJ 42 32 41) [19,18,17,16,15,14,13,12,11,10,9,8,7,6,5,4,3,2,1,0],QD (Qm 0 42) [20,19,18,17,16,15,14,13,12,11,10,9,8,7,6,5,4,3,2,1,0]]) .ret)
def Un:ACode:=(QR [Qm 15 3,Qo 16 (.indexAddr 4 (Qu 15) (Qi 0)),Qw 17 4 16,Qm 18 1,Qw 19 1 2,Qo 20 (.mkIface 44 (Qu 19)),Qo 21 (Qc Wh [(Qu 17),(Qu 18),(Qu 20)]),Qm 4 21] Um)
def Uo:ACode:=(.seq (.region [Qm 8 1,Qo 9 (.build [(.int .i64 0),(.str []),(.int .i64 0)] [(0,1,(Qi 3)),(2,1,(Qi 5))]),Qo 10 (.buildSlice 1 [(.int .i64 0),(.str []),(.int .i64 0)] [(0,3,(Qu 9))]),Qo 11 (.build [(.str []),.nilslice] [(0,1,(.const (.str [113]))),(1,1,(Qu 10))]),Qo 12 (.buildSlice 1 [(.str []),.nilslice] [(0,2,(Qu 11))]),Qo 13 (Qc Wi [(Qu 8),(Qu 12)]),Qo 2 (.alloc [.nilmap]),Qz (.store 1 (Qu 2) (Qu 13))]) (.seq (.region [Qo 14 (Qc Wf [(.const (.str [112,40,88,41,32,58,45,32,113,40,88,41,44,32,33,114,40,88,41,46]))]),Qm 3 14]) Un))
def Up:ACode:=(QR [Qo 5 (Qc Wg []),Qm 1 5] (.seq (QR [Qm 6 1,Qo 7 (.eqv false .ptr (Qu 6) (.const .nilptr))] (QI 7 Hi .skip)) Uo))
def Yi:AFun:=⟨43,[.tmp 0],(QR [KI 0 false] Up)⟩
theorem Yj:(XTab.of Tryd.prog).code 5=some Yi:=by kernel_rfl
def Yk:AFun:=⟨5,[.cell 2 3 true],(.seq (.region [Qo 2 (.alloc [(.int .i64 0),(.str []),(.int .i64 0)])]) (.seq (.region [Qm 3 0,Qo 4 (.build [(.int .i64 0),(.str []),(.int .i64 0)] [(0,1,(Qi 3)),(2,1,(Qu 3))]),Qz (.store 3 (Qu 2) (Qu 4))]) .ret))⟩
theorem Yl:(XTab.of Tryd.prog).code 6=some Yk:=by kernel_rfl
def Uq:ACode:=(QR [Qm 6 0,Qo 7 (Qc VI [(Qu 6),(Qi 1200)]),Qo 8 (Qc VH [(Qu 7)]),Qm 5 8,KT 9 0 5,KT 10 1 5,Qm 3 9,Qm 4 10] (QR [Qm 11 3,Qm 2 11] .ret))
def Ym:AFun:=⟨12,[.tmp 2],(QR [KR 2] Uq)⟩
theorem Yn:(XTab.of Tryd.prog).code 7=some Ym:=by kernel_rfl
def Yo:AFun:=⟨4,[.tmp 0],(QR [Qo 0 (.mov (.const .nilptr))] (QR [Qo 1 .mkMap,Qo 2 (.build [.nilmap,.nilslice] [(0,1,(Qu 1))]),KU 3 2,Qm 0 3] .ret))⟩
theorem Yp:(XTab.of Tryd.prog).code 8=some Yo:=by kernel_rfl
def Ur:ACode:=(QR [Qw 7 4 3,Qm 8 1,Qm 9 2,Qo 10 (Qc VJ [(Qu 7),(Qu 8),(Qu 9),(.const (.int .i64 (-1))),(.const .nilptr),(.const (.int .i64 (-1)))]),Qm 6 10] .ret)
def Zu:AFun:=⟨11,[.tmp 6],(QR [KU 3 0,KR 6] Ur)⟩
theorem Yq:(XTab.of Tryd.prog).code 9=some Zu:=by kernel_rfl
def Us:ACode:=(.drawn [QD (Qa 26 0 5) [],QD (Ql 27 26) [0],QD (Qm 28 1) [],QD (Qm 29 6) [],QD (Qx 30 2 28 29) [3,2],QD (Qa 31 0 30) [4,3,2],QD (Ql 32 31) [5,4,3,2],QD (Qm 33 1) [],QD (Qm 34 6) [],QD (Qx 35 2 33 34) [8,7],QD (Qa 36 1 35) [9,8,7],QD (Ql 37 36) [10,9,8,7],QD (Qe 38 37) [11,10,9,8,7],QE (Qo 39 (Qc Wj [(Qu 38)])) [12,11,10,9,8,7],QE (Qz (.mapUpdate (.scalar .str) (Qu 27) (Qu 32) (Qu 39))) [13,12,11,10,9,8,7,6,5,4,3,2,1,0]])
def Ut:ACode:=(.region [Qm 50 7,Qm 51 0,Qm 52 1,Qm 53 6,Qx 54 2 52 53,Qa 55 1 54,Ql 56 55,Qm 57 8,Qx 58 3 56 57,Qw 59 3 58,Qo 60 (Qc JY [(Qu 51),(Qu 59)]),Qo 61 (.buildSlice 1 [(.int .i64 0)] [(0,1,(Qu 60))]),KV 62 1 8 50 61,Qm 7 62])
def Zv:ACode:=(.seq (QR [Qm 40 8,Qm 41 1,Qm 42 6,Qx 43 2 41 42,Qa 44 1 43,Ql 45 44,Qe 46 45,Qs 47 40 46] (QI 47 .skip (.exit 2))) (.seq (.block 3 Ut) (.region [Qm 48 8,Qd 49 48,Qm 8 49])))
def Yr:ACode:=(.region [Qa 63 0 5,Ql 64 63,Qm 65 1,Qm 66 6,Qx 67 2 65 66,Qa 68 0 67,Ql 69 68,Qo 70 (.lookup (.scalar .str) .nilptr false (Qu 64) (Qu 69)),Qm 71 7,Qo 72 (Qc Wk [(Qu 70),(Qu 71)])])
def Wx:ACode:=(.seq (QR [Qa 17 0 5,Ql 18 17,Qm 19 1,Qm 20 6,Qx 21 2 19 20,Qa 22 0 21,Ql 23 22,Qo 24 (.lookup (.scalar .str) .nilptr false (Qu 18) (Qu 23)),Qo 25 (.eqv false .ptr (Qu 24) (.const .nilptr))] (QI 25 Us .skip)) (QR [KR 7] (.seq (QR [KH 8 0] (.block 2 (.loop Zv))) Yr)))
def Zw:ACode:=(.seq (QR [Qm 11 6,Qm 12 1,Qe 13 12,Qs 14 11 13] (QI 14 .skip (.exit 0))) (.seq (.block 1 Wx) (.region [Qm 15 6,Qd 16 15,Qm 6 16])))
def Uu:ACode:=(QR [Qo 9 .mkMap,Qo 10 (.build [.nilmap] [(0,1,(Qu 9))]),Qo 5 (.alloc [.nilmap]),Qz (.store 1 (Qu 5) (Qu 10))] (.seq (QR [KH 6 0] (.block 0 (.loop Zw))) (QR [Qw 73 1 5,Qz (.store 1 (Qu 4) (Qu 73))] .ret)))
def Zx:AFun:=⟨74,[.cell 4 1 true],(QR [Qo 4 (.alloc [.nilmap])] Uu)⟩
theorem Ys:(XTab.of Tryd.prog).code 10=some Zx:=by kernel_rfl
def Uv:ACode:=(.seq (.drawn [QD (Qm 25 0) [],QD (Qm 26 0) [],QD (Qn 27 26) [1],QD (Qa 28 1 27) [2,1],QD (Ql 29 28) [3,2,1],QD (Qw 30 3 3) [],QE (Qo 31 (.buildSlice 1 [(.int .i64 0),(.str []),(.int .i64 0)] [(0,3,(Qu 30))])) [5],QE (KV 32 3 32 29 31) [6,5,4,3,2,1],QD (Qn 33 25) [7,6,5,4,3,2,1,0],QD (Qa 34 1 33) [8,7,6,5,4,3,2,1,0],QE (Qz (.store 1 (Qu 34) (Qu 32))) [9,8,7,6,5,4,3,2,1,0]]) (QR [Qm 35 0,Qn 36 35,Qa 37 1 36,Ql 38 37,Qe 39 38,Qm 5 39] (.region [Qm 40 0,Qn 41 40,Qa 42 0 41,Ql 43 42,Qw 44 3 3,Qm 45 5,Qz (.mapUpdate (.cells [.int,.str,.int]) (Qu 43) (Qu 44) (Qu 45))])))
def J4:AFun:=⟨47,[.tmp 4],(QR [KU 3 1,KH 4 0] (.seq (QR [Qm 7 0,Qo 8 (.eqv false .ptr (Qu 7) (.const .nilptr)),Qm 9 8,Qf 10 9 (.load 3 true (Qu 3)),Qf 11 9 (Qc VK [(Qu 10)]),Qf 12 9 (.un .not (Qu 11)),KL 13 9 12] (QI 13 (QR [KH 4 0] .ret) .skip)) (QR [Qm 15 0,Qn 16 15,Qa 17 0 16,Ql 18 17,Qw 19 3 3,Qo 20 (.lookup (.cells [.int,.str,.int]) (.int .i64 0) true (Qu 18) (Qu 19)),Qm 14 20,KT 21 0 14,KT 22 1 14,Qm 5 21,Qm 6 22] (.seq (QR [Qm 23 6,Qh 24 23] (QI 24 Uv .skip)) (QR [Qm 46 5,Qm 4 46] .ret)))))⟩
theorem Yt:(XTab.of Tryd.prog).code 12=some J4:=by kernel_rfl
def Hj:ACode:=(QR [KI 6 false,KI 7 false] .ret)
def Uw:ACode:=(QR [KI 6 false,KI 7 false] .ret)
def Ux:ACode:=(.region [Qm 52 9,Qm 53 1,Qm 54 11,Qo 55 (Qc VM [(Qu 53),(Qu 54)]),Qo 56 (.indexArr 2 3 (Qu 8) (Qu 52)),Qz (.store 3 (Qu 56) (Qu 55))])
def Wy:ACode:=(QR [Qm 44 2,Qa 45 1 10,Ql 46 45,Qo 47 (.lookup (.scalar .str) (.int .i64 0) true (Qu 44) (Qu 46)),Qm 43 47,KT 48 0 43,KT 49 1 43,Qm 11 48,Qm 12 49] (.seq (QR [Qm 50 12,Qh 51 50] (QI 51 Uw .skip)) Ux))
def Yu:ACode:=(QR [Qm 37 9,Qw 38 3 10,Qo 39 (.indexArr 2 3 (Qu 8) (Qu 37)),Qz (.store 3 (Qu 39) (Qu 38))] (QR [Qa 40 0 10,Ql 41 40,KQ 42 41 1] (QI 42 Wy .skip)))
def Yv:ACode:=(.seq (.region [Qm 34 32,Qx 35 3 30 32,Qw 36 3 35,Qo 10 (.alloc [(.int .i64 0),(.str []),(.int .i64 0)]),Qm 9 34,Qz (.store 3 (Qu 10) (Qu 36))]) Yu)
def JD:ACode:=(QR [Qs 33 32 31] (.seq (QI 33 .skip (.exit 0)) (.seq (.block 1 Yv) (.region [Qd 57 32,Qm 32 57]))))
def Uy:ACode:=(QR [Qw 81 3 13,Qw 82 3 14,Qo 83 (Qc Wm [(Qu 81),(Qu 82)]),Qm 6 83,KI 7 true] .ret)
def Uz:ACode:=(QR [Qw 64 3 14,Qw 65 3 13,Qo 66 (Qc Wm [(Qu 64),(Qu 65)]),Qh 67 66,Qm 6 67,KI 7 true] .ret)
def UA:ACode:=(QR [Qw 75 3 13,Qw 76 3 14,Qo 77 (Qc Wl [(Qu 75),(Qu 76)]),Qh 78 77,Qm 6 78,KI 7 true] .ret)
def Wz:ACode:=(QR [KQ 80 63 5,Qm 79 80] (QI 79 Uy Uz))
def UB:ACode:=(QR [Qw 70 3 13,Qw 71 3 14,Qo 72 (Qc Wl [(Qu 70),(Qu 71)]),Qm 6 72,KI 7 true] .ret)
def Yw:ACode:=(QR [KQ 74 63 4,Qm 73 74] (QI 73 UA Wz))
def Zy:ACode:=(QR [Qa 62 0 3,Ql 63 62] (.block 2 (QR [KQ 69 63 3,Qm 68 69] (QI 68 UB Yw))))
def UC:ACode:=(.seq (.drawn [QD (Qo 58 (.indexArr 2 3 (Qu 8) (Qi 0))) [],QD (Qw 59 3 58) [0],QD (Qo 60 (.indexArr 2 3 (Qu 8) (Qi 1))) [],QD (Qw 61 3 60) [2],QE (Qo 13 (.alloc [(.int .i64 0),(.str []),(.int .i64 0)])) [],QE (Qo 14 (.alloc [(.int .i64 0),(.str []),(.int .i64 0)])) [],QE (Qz (.store 3 (Qu 13) (Qu 59))) [5,4,1,0],QE (Qz (.store 3 (Qu 14) (Qu 61))) [6,5,4,3,2,1,0]]) Zy)
def UD:ACode:=(.seq (.region [Qo 8 (.alloc [(.int .i64 0),(.str []),(.int .i64 0),(.int .i64 0),(.str []),(.int .i64 0)])]) (.seq (QR [Qa 29 2 3,Ql 30 29,Qe 31 30,KH 32 0] (.block 0 (.loop JD))) UC))
def UE:ACode:=(.seq (QR [Qa 15 0 3,Ql 16 15,Qo 17 (.bin .lss (Qu 16) (Qi 3)),Qm 18 17,KP 19 18 0 3,KN 20 18 1 19,Qf 21 18 (.bin .gtr (Qu 20) (Qi 6)),KL 22 18 21,Qm 23 22,KP 24 23 2 3,KN 25 23 1 24,Qf 26 23 (.lenSl (Qu 25)),Qf 27 23 (.bin .neq (Qu 26) (Qi 2)),KL 28 23 27] (QI 28 Hj .skip)) UD)
def Jp:AFun:=⟨84,[.tmp 6,.tmp 7],(QR [KU 3 0,KI 6 false,KI 7 false] UE)⟩
theorem Yx:(XTab.of Tryd.prog).code 13=some Jp:=by kernel_rfl
def UF:ACode:=(QR [Qm 17 5,KR 2,Qm 3 17] .ret)
def UG:ACode:=(.region [Qm 75 6,Qo 76 (Qc Jn [(Qu 75),(Qi 8)])])
def UH:ACode:=(.region [Qm 86 6,Qn 87 86,Qa 88 1 87,Ql 89 88,Qd 90 89,Qn 91 86,Qa 92 1 91,Qz (.store 1 (Qu 92) (Qu 90))])
def WA:ACode:=(.seq (.region [Qa 77 3 8,Ql 78 77,Qw 79 3 9,Qo 80 (.buildSlice 1 [(.int .i64 0),(.str []),.nilslice] [(0,3,(Qu 79))]),KV 81 3 48 78 80,Qa 82 3 8,Qz (.store 1 (Qu 82) (Qu 81))]) (.seq (.seq (.region [Qm 83 6,Qo 84 (Qc JC [(Qu 83),(.const (.str [44]))]),Qh 85 84]) (QI 85 (.exit 2) .skip)) UH))
def Yy:ACode:=(.seq (QR [Qm 64 6,Qn 65 64,Qa 66 2 65,Ql 67 66,KQ 68 67 0,Qm 69 68,KO 70 69 3 8,KM 71 69 1 70,Qt 72 69 (.lenSl (Qu 71)),Qt 73 69 (.bin .eql (Qu 72) (Qi 6)),KJ 74 69 73] (QI 74 UG .skip)) WA)
def JO:ACode:=(.seq (QR [Qm 57 6,Qn 58 57,Qa 59 2 58,Ql 60 59,KQ 61 60 0] (QI 61 .skip (.exit 2))) (.block 3 (.seq (.region [Qm 62 6,Qo 63 (Qc VO [(Qu 62)]),Qo 9 (.alloc [(.int .i64 0),(.str []),.nilslice]),Qz (.store 3 (Qu 9) (Qu 63))]) Yy)))
def UI:ACode:=(QR [Qm 50 6,Qn 51 50,Qa 52 1 51,Ql 53 52,Qd 54 53,Qn 55 50,Qa 56 1 55,Qz (.store 1 (Qu 56) (Qu 54))] (.block 2 (.loop JO)))
def UJ:ACode:=(.region [Qm 105 6,Qo 106 (Qc Jn [(Qu 105),(Qi 8)])])
def WB:ACode:=(.region [Qm 107 7,Qw 108 4 8,Qo 109 (.buildSlice 1 [(.int .i64 0),(.str []),.nilslice,.nilslice] [(0,4,(Qu 108))]),KV 110 4 72 107 109,Qm 7 110])
def J5:ACode:=(.seq (QR [Qm 95 6,Qn 96 95,Qa 97 2 96,Ql 98 97,KQ 99 98 0,Qm 100 99,Fs 101 100 7,Qt 102 100 (.lenSl (Qu 101)),Qt 103 100 (.bin .eql (Qu 102) (Qi 30)),KJ 104 100 103] (QI 104 UJ .skip)) WB)
def UK:ACode:=(.seq (.seq (.region [Qm 41 6,Qo 42 (Qc JC [(Qu 41),(.const (.str [58,45]))]),Qm 43 42,Fs 44 43 6,Qt 45 43 (.nilCheck (Qu 44)),KO 46 43 2 45,KM 47 43 1 46,Qt 48 43 (.bin .eql (Qu 47) (Qi 0)),KJ 49 43 48]) (QI 49 UI .skip)) (.seq (.region [Qm 93 6,Qo 94 (Qc Z4 [(Qu 93),(.const (.str [46]))])]) J5))
def WE:ACode:=(.seq (.region [Qm 38 6,Qo 39 (Qc Z3 [(Qu 38)]),Qo 40 (.build [(.int .i64 0),(.str []),.nilslice,.nilslice] [(0,3,(Qu 39))]),Qo 8 (.alloc [(.int .i64 0),(.str []),.nilslice,.nilslice]),Qz (.store 4 (Qu 8) (Qu 40))]) UK)
def JF:ACode:=(.seq (QR [Qm 21 6,Qn 22 21,Qa 23 2 22,Ql 24 23,KQ 25 24 0,Qm 26 25,Fs 27 26 6,Qt 28 26 (.nilCheck (Qu 27)),KO 29 26 1 28,KM 30 26 1 29,Fs 31 26 6,Qt 32 26 (.nilCheck (Qu 31)),KO 33 26 0 32,KM 34 26 1 33,Qt 35 26 (.lenSl (Qu 34)),Qt 36 26 (.bin .lss (Qu 30) (Qu 35)),KJ 37 26 36] (QI 37 .skip (.exit 0))) (.block 1 WE))
def UL:ACode:=(QR [Qm 119 6,Qn 120 119,Qa 121 2 120,Ql 122 121,KR 2,Qm 3 122] .ret)
def WG:ACode:=(.seq (QR [Qm 114 6,Qn 115 114,Qa 116 2 115,Ql 117 116,Qo 118 (.bin .neq (Qu 117) (Qi 0))] (QI 118 UL .skip)) (QR [Qm 123 7,Qm 2 123,KH 3 0] .ret))
def UM:ACode:=(QR [KR 7] (.seq (.block 0 (.loop JF)) (QR [Qm 111 6,Qm 112 5,Qo 113 (Qc Jn [(Qu 111),(Qu 112)])] WG)))
def WH:ACode:=(.seq (QR [Qm 15 5,KQ 16 15 8] (QI 16 UF .skip)) (QR [Qm 18 4,Qo 19 (.build [.nilslice,(.int .i64 0),(.int .i64 0)] [(0,1,(Qu 18))]),KU 20 19,Qm 6 20] UM))
def UN:ACode:=(QR [Qm 11 0,Qo 12 (Qc VN [(Qu 11)]),Qm 10 12,KT 13 0 10,KT 14 1 10,Qm 4 13,Qm 5 14] WH)
def J6:AFun:=⟨124,[.tmp 2,.tmp 3],(QR [KR 2,KH 3 0] UN)⟩
theorem Yz:(XTab.of Tryd.prog).code 15=some J6:=by kernel_rfl
def J7:AFun:=⟨13,[.tmp 4],(QR [Qo 4 (.mov (.const (.str [])))] (.seq (QR [Qm 5 0,Qo 6 (.lenStr (Qu 5)),Qm 7 1,Qo 8 (.bin .gtr (Qu 6) (Qu 7))] (QI 8 (QR [Qm 9 0,Qm 10 1,Qo 11 (.sliceStr (Qu 9) none (some (Qu 10))),Qm 4 11] .ret) .skip)) (QR [Qm 12 0,Qm 4 12] .ret)))⟩
theorem YA:(XTab.of Tryd.prog).code 16=some J7:=by kernel_rfl
def UO:ACode:=(QR [KR 12] .ret)
def Hk:ACode:=(QR [KR 12] .ret)
def WI:ACode:=(QR [Qa 66 0 19,Ql 67 66,Qo 68 (.bin .neq (Qu 67) (Qi 1)),Qm 69 68,Fs 70 69 1,Qt 71 69 (.load 3 true (Qu 19)),Qt 72 69 (Qc JY [(Qu 70),(Qu 71)]),Qt 73 69 (.bin .eql (Qu 72) (Qi 0)),KJ 74 69 73] (QI 74 Hk .skip))
def WJ:ACode:=(.seq (.block 3 (.seq (.region [Qx 64 3 60 62,Qw 65 3 64,Qo 19 (.alloc [(.int .i64 0),(.str []),(.int .i64 0)]),Qz (.store 3 (Qu 19) (Qu 65))]) WI)) (.region [Qd 75 62,Qm 62 75]))
def Zz:ACode:=(QR [Qs 63 62 61] (.seq (QI 63 .skip (.exit 2)) WJ))
def UP:ACode:=(.seq (.region [Qx 57 3 53 55,Qw 58 3 57,Qo 17 (.alloc [(.int .i64 0),(.str []),.nilslice]),Qz (.store 3 (Qu 17) (Qu 58))]) (QR [Qa 59 2 17,Ql 60 59,Qe 61 60,KH 62 0] (.block 2 (.loop Zz))))
def YB:ACode:=(QR [Qs 56 55 54] (.seq (QI 56 .skip (.exit 0)) (.seq (.block 1 UP) (.region [Qd 76 55,Qm 55 76]))))
def UQ:ACode:=(.region [Qm 84 15,Qo 85 (Qc JZ [(Qu 84),(Qi 0)])])
def UR:ACode:=(QR [Qm 86 15,Qn 87 86,Qa 88 13 87,Ql 89 88,Qo 90 (Qc VS [(Qu 89)]),Qm 12 90] .ret)
def US:ACode:=(.seq (QR [Qm 79 15,Qn 80 79,Qa 81 13 80,Ql 82 81,Qo 83 (.eqv true .ptr (Qu 82) (.const .nilptr))] (QI 83 UQ .skip)) UR)
def UT:ACode:=(.seq (QR [Qa 52 3 6,Ql 53 52,Qe 54 53,KH 55 0] (.block 0 (.loop YB))) (QR [Qm 77 15,Qo 78 (Qc VQ [(Qu 77)])] US))
def UU:ACode:=(.seq (.drawn [QD (Qw 36 4 6) [],QD (Qm 37 1) [],QD (Qm 38 2) [],QD (Qw 39 2 13) [],QD (Qm 40 3) [],QD (Qm 41 4) [],QE (Qo 42 .mkMap) [],QE (Qo 43 .mkMap) [],QD (Qa 44 0 6) [],QD (Qa 45 2 44) [8],QD (Ql 46 45) [9,8],QD (Qe 47 46) [10,9,8],QE (Qo 48 (Qc Wj [(Qu 47)])) [11,10,9,8],QD (Qm 49 5) [],QD (Qo 50 (.build [(.int .i64 0),(.str []),.nilslice,.nilslice,.nilptr,.niliface,.nilslice,.nilslice,(.int .i64 0),.nilptr,.nilslice,.nilmap,.nilmap,.nilptr,(.int .i64 0)] [(0,4,(Qu 36)),(4,1,(Qu 37)),(5,1,(Qu 38)),(6,2,(Qu 39)),(8,1,(Qu 40)),(9,1,(Qu 41)),(11,1,(Qu 42)),(12,1,(Qu 43)),(13,1,(Qu 48)),(14,1,(Qu 49))])) [13,12,11,10,9,8,7,6,5,4,3,2,1,0],QE (KU 51 50) [14,13,12,11,10,9,8,7,6,5,4,3,2,1,0],QD (Qm 15 51) [15,14,13,12,11,10,9,8,7,6,5,4,3,2,1,0]]) UT)
def WK:ACode:=(.seq (QR [Qm 26 14,Qh 27 26,Qm 28 27,Fu 29 28 1,Qf 30 28 (.eqv false .ptr (Qu 29) (.const .nilptr)),KL 31 28 30,Qm 32 31,Fu 33 32 2,Qf 34 32 (.eqv false .iface (Qu 33) (.const .niliface)),KL 35 32 34] (QI 35 UO .skip)) UU)
def UV:ACode:=(QR [Qw 21 4 6,Qm 22 3,Qo 23 (Qc VP [(Qu 21),(Qu 22)]),Qm 20 23,KT 24 0 20,KT 25 1 20,Qo 13 (.alloc [.nilslice,.nilslice]),Qz (.store 2 (Qu 13) (Qu 24)),Qm 14 25] WK)
def J8:AFun:=⟨91,[.tmp 12],(QR [KU 6 0,KR 12] UV)⟩
theorem YC:(XTab.of Tryd.prog).code 17=some J8:=by kernel_rfl
def YD:AFun:=⟨12,[.tmp 2],(QR [Qo 2 (.mov (.const .nilptr))] (.seq (QR [Qm 3 0,Qo 4 (.bin .lss (Qu 3) (Qi 0)),Qm 5 4,Fu 6 5 0,Qf 7 5 (.bin .gtr (Qu 6) (Qi 4)),KL 8 5 7] (QI 8 (QR [Qo 2 (.mov (.const .nilptr))] .ret) .skip)) (QR [Qm 9 0,Qo 10 (.build [(.int .i64 0),.nilslice] [(0,1,(Qu 9))]),KU 11 10,Qm 2 11] .ret)))⟩
theorem YE:(XTab.of Tryd.prog).code 18=some YD:=by kernel_rfl
def J9:AFun:=⟨30,[.tmp 4],(QR [KI 4 false] (QR [Qm 8 0,Qm 9 1,Qo 10 (Qc Wn [(Qu 8),(Qu 9)]),Qm 7 10,KT 11 0 7,KT 12 1 7,Qm 5 11,Qm 6 12] (.seq (QR [Qm 13 5,Qo 14 (.bin .lss (Qu 13) (Qi 0)),Qm 15 14,Fu 16 15 6,KL 17 15 16] (QI 17 (QR [KI 4 false] .ret) .skip)) (.seq (.drawn [QD (Qm 18 0) [],QD (Qm 19 0) [],QD (Qn 20 19) [1],QD (Qa 21 1 20) [2,1],QD (Ql 22 21) [3,2,1],QD (Qm 23 5) [],QD (Qm 24 1) [],QE (Qo 25 (Qc Wo [(Qu 24)])) [6],QE (Qo 26 (.buildSlice 1 [.nilslice] [(0,1,(Qu 25))])) [7,6],QE (Qo 27 (Qc J0 [(Qu 22),(Qu 23),(Qu 26)])) [8,7,6,5,4,3,2,1],QD (Qn 28 18) [9,8,7,6,5,4,3,2,1,0],QD (Qa 29 1 28) [10,9,8,7,6,5,4,3,2,1,0],QE (Qz (.store 1 (Qu 29) (Qu 27))) [11,10,9,8,7,6,5,4,3,2,1,0]]) (QR [KI 4 true] .ret)))))⟩
theorem YF:(XTab.of Tryd.prog).code 19=some J9:=by kernel_rfl
end Go.Proofs.YtegdcbdicpfbpaaDoor
