/- A part of the proof. -/
import Derived.Test.YtegdcbdicpfbpaaGreatDoorJdE
import Derived.Test.YtegdcbdicpfbpaaGreatDoorJdF
import Derived.Test.YtegdcbdicpfbpaaGreatDoorJdG
import Derived.Lib.Bytealg
import Derived.ProofKit
import Derived.OpenShut
import Derived.Carry
import Derived.ChangeSame
import Derived.Below
open Int renaming ofNat → Fq
set_option maxRecDepth 100000
set_option linter.unusedVariables false
namespace Go.Proofs.YtegdcbdicpfbpaaGreatDoor
open Go.AE
def Jn:ACode:=(QR [Qm 10 8,Qm 3 10] (QR [Qm 11 0,Qm 12 3,Qo 13 (.indexStr (Qu 11) (Qu 12)),Qm 4 13] (QR [Qm 14 4,Qo 15 (.bin .geq (Qu 14) (Fv 97)),Qm 16 15,Fs 17 16 4,Qt 18 16 (.bin .leq (Qu 17) (Fv 122)),KM 19 16 18,Qm 5 19] (QR [Qm 20 5,Qh 21 20,Qm 22 21,Fs 23 22 3,Qt 24 22 (.bin .eql (Qu 23) (Qi 0)),Fs 25 22 24,Fu 26 25 4,Qf 27 25 (.bin .lss (Qu 26) (Fv 48)),Fu 28 25 27,Fu 29 28 4,Qf 30 28 (.bin .gtr (Qu 29) (Fv 57)),Qf 31 25 (.pick (Qu 28) (Qb true) (Qu 30)),Fu 32 25 31,Fs 33 32 4,Qt 34 32 (.bin .neq (Qu 33) (Fv 95)),Qf 35 25 (.pick (Qu 32) (Qu 34) (Qb false)),Qt 36 22 (.pick (Qu 25) (Qb true) (Qu 35)),KM 37 22 36] (QI 37 (QR [KL 2 false] .ret) .skip)))))
def Jj:ACode:=(QR [Qs 9 8 7] (.seq (QI 9 .skip (.exit 0)) (.seq (.block 1 Jn) (.region [Qd 38 8,Qm 8 38]))))
def Jq:AFun:=⟨46,[.tmp 2],(QR [KL 2 false] (.seq (QR [Qm 6 0,Qo 7 (.lenStr (Qu 6)),KJ 8 0] (.block 0 (.loop Jj))) (QR [Qm 39 0,Qo 40 (.bin .neq (Qu 39) (.const (.str []))),Qm 41 40,Fs 42 41 0,Qt 43 41 (.lenStr (Qu 42)),Qt 44 41 (.bin .leq (Qu 43) (Qi 16)),KM 45 41 44,Qm 2 45] .ret)))⟩
theorem Wf:(XTab.of Tryz.prog).code 87=some Jq:=by kernel_rfl
def Yl:ACode:=(QR [Qa 13 0 2,Ql 14 13,KT 15 14 3,Qm 16 15,KQ 17 16 0 3,KO 18 16 1 17,Qt 19 16 (.bin .neq (Qu 18) (Qi 3)),Fs 20 16 19,KR 21 20 2 2,KP 22 20 1 21,KR 23 20 2 3,KP 24 20 1 23,Qf 25 20 (.bin .lss (Qu 22) (Qu 24)),Qt 26 16 (.pick (Qu 20) (Qb true) (Qu 25)),KM 27 16 26,Qm 4 27] .ret)
def Jy:AFun:=⟨33,[.tmp 4],(QR [KW 2 0,KW 3 1,KL 4 false] (.seq (QR [Qa 5 0 2,Ql 6 5,KT 7 6 3,Qm 8 7,KR 9 8 0 3,KP 10 8 1 9,Qf 11 8 (.bin .eql (Qu 10) (Qi 3)),KN 12 8 11] (QI 12 Yl .skip)) (QR [Qa 28 1 2,Ql 29 28,Qa 30 1 3,Ql 31 30,Qs 32 29 31,Qm 4 32] .ret)))⟩
theorem Wg:(XTab.of Tryz.prog).code 88=some Jy:=by kernel_rfl
def P9:ACode:=(QR [Qm 26 4,Qa 27 2 6,Ql 28 27,Qo 29 (Qc Zh [(Qu 28)]),KX 30 1 16 26 29,Qm 4 30] (.exit 1))
def Jaa:ACode:=(.region [Qm 39 3,Qm 40 8,Qo 41 (.lookup (.scalar .str) (.int .i64 0) false (Qu 39) (Qu 40)),Qd 42 41,Qz (.mapUpdate (.scalar .str) (Qu 39) (Qu 40) (Qu 42))])
def Jab:ACode:=(.seq (.block 3 (QR [Qx 37 1 33 35,Ql 38 37,Qm 8 38] Jaa)) (.region [Qd 43 35,Qm 35 43]))
def ZE:ACode:=(QR [Qs 36 35 34] (.seq (QI 36 .skip (.exit 2)) Jab))
def Jac:ACode:=(QR [Qa 31 2 6,Ql 32 31,Qo 33 (Qc Zh [(Qu 32)]),Qe 34 33,KJ 35 0] (.block 2 (.loop ZE)))
def UP:ACode:=(.seq (.region [Qx 21 3 17 19,Qw 22 3 21,Qo 6 (.alloc [(.int .i64 0),(.str []),.nilslice]),Qz (.store 3 (Qu 6) (Qu 22))]) (.seq (QR [Qa 23 0 6,Ql 24 23,Qo 25 (.bin .neq (Qu 24) (Qi 1))] (QI 25 P9 .skip)) Jac))
def Za:ACode:=(QR [Qs 20 19 18] (.seq (QI 20 .skip (.exit 0)) (.seq (.block 1 UP) (.region [Qd 44 19,Qm 19 44]))))
def Jad:ACode:=(QR [KL 2 false] .ret)
def UQ:ACode:=(QR [Qm 51 3,Qm 52 10,Qo 53 (.lookup (.scalar .str) (.int .i64 0) false (Qu 51) (Qu 52)),KT 54 53 0] (QI 54 Jad .skip))
def UR:ACode:=(.seq (.block 5 (QR [Qx 49 1 45 47,Ql 50 49,Qm 10 50] UQ)) (.region [Qd 55 47,Qm 47 55]))
def Wh:ACode:=(QR [Qs 48 47 46] (.seq (QI 48 .skip (.exit 4)) UR))
def Jae:ACode:=(.seq (QR [Qa 16 3 1,Ql 17 16,Qe 18 17,KJ 19 0] (.block 0 (.loop Za))) (.seq (QR [Qm 45 4,Qe 46 45,KJ 47 0] (.block 4 (.loop Wh))) (QR [KL 2 true] .ret)))
def Jaf:ACode:=(QR [Qa 12 0 1,Qa 13 2 12,Ql 14 13,Qo 15 (Qc Zh [(Qu 14)]),Qm 4 15] Jae)
def Ym:AFun:=⟨56,[.tmp 2],(QR [KW 1 0,KL 2 false] (QR [Qo 11 .mkMap,Qm 3 11] Jaf))⟩
theorem Wi:(XTab.of Tryz.prog).code 89=some Ym:=by kernel_rfl
def Jag:ACode:=(.region [Qm 60 0,Qm 61 0,Qn 62 61,Qa 63 3 62,Qa 64 1 63,Ql 65 64,Qm 66 5,Qo 67 (.buildSlice 1 [(.str [])] [(0,1,(Qu 66))]),KX 68 1 16 65 67,Qn 69 60,Qa 70 3 69,Qa 71 1 70,Qz (.store 1 (Qu 71) (Qu 68))])
def US:ACode:=(QR [Qm 53 0,Qn 54 53,Qa 55 1 54,Ql 56 55,Qm 57 5,Qo 58 (.lookup (.scalar .str) (.int .i64 0) false (Qu 56) (Qu 57)),KT 59 58 1] (QI 59 Jag .skip))
def UT:ACode:=(QR [Qm 46 0,Qn 47 46,Qa 48 1 47,Ql 49 48,Qm 50 5,Qo 51 (.lookup (.scalar .str) (.int .i64 0) false (Qu 49) (Qu 50)),Qd 52 51,Qz (.mapUpdate (.scalar .str) (Qu 49) (Qu 50) (Qu 52))] US)
def UU:ACode:=(.seq (.block 1 (QR [Qx 44 1 40 42,Ql 45 44,Qm 5 45] UT)) (.region [Qd 72 42,Qm 42 72]))
def Wj:ACode:=(QR [Qs 43 42 41] (.seq (QI 43 .skip (.exit 0)) UU))
def Jah:ACode:=(QR [Qm 32 0,Qn 33 32,Qa 34 0 33,Ql 35 34,Qm 36 1,Qx 37 3 35 36,Qa 38 2 37,Ql 39 38,Qo 40 (Qc Zh [(Qu 39)]),Qe 41 40,KJ 42 0] (.block 0 (.loop Wj)))
def UV:ACode:=(.seq (QR [Qm 23 0,Qn 24 23,Qa 25 0 24,Ql 26 25,Qm 27 1,Qx 28 3 26 27,Qa 29 0 28,Ql 30 29,Qo 31 (.bin .neq (Qu 30) (Qi 1))] (QI 31 .ret .skip)) Jah)
def UW:ACode:=(QR [Qm 11 0,Qm 12 0,Qn 13 12,Qa 14 3 13,Qa 15 0 14,Ql 16 15,Qm 17 1,Qo 18 (.buildSlice 1 [(.int .i64 0)] [(0,1,(Qu 17))]),KX 19 1 8 16 18,Qn 20 11,Qa 21 3 20,Qa 22 0 21,Qz (.store 1 (Qu 22) (Qu 19))] UV)
def ZF:AFun:=⟨73,[],(QR [Qm 6 0,Qn 7 6,Qa 8 2 7,Ql 9 8,Qm 10 1,Qz (.mapUpdate (.scalar .int) (Qu 9) (Qu 10) (Qi 1))] UW)⟩
theorem Wk:(XTab.of Tryz.prog).code 90=some ZF:=by kernel_rfl
def UX:ACode:=(.region [Qm 48 3,Qo 49 (.mkIface 178 (Qu 48)),Qm 50 4,Qm 51 7,Qm 52 6,Qo 53 (.build [(.int .i64 0),(.bool false),(.int .i64 0)] [(0,1,(Qu 50)),(1,1,(Qu 51)),(2,1,(Qu 52))]),Qo 54 (.mkIface 184 (Qu 53)),Qo 55 (Qc GV [(Qu 49),(Qu 54)])])
def Yn:ACode:=(.seq (QR [Qm 28 0,Qn 29 28,Qa 30 2 29,Ql 31 30,Qm 32 4,Qo 33 (.lookup (.scalar .int) (.int .i64 0) false (Qu 31) (Qu 32)),Qo 34 (.bin .gtr (Qu 33) (Qi 0)),Qm 35 34,Fu 36 35 7,Qf 37 35 (.un .not (Qu 36)),Fu 38 35 37,Fs 39 38 6,KQ 40 38 2 5,KO 41 38 1 40,Qt 42 38 (.lenSl (Qu 41)),Qt 43 38 (.bin .lss (Qu 39) (Qu 42)),Qf 44 35 (.pick (Qu 38) (Qu 43) (Qb false)),KN 45 35 44] (QI 45 (.exit 1) .skip)) (.seq (QR [Qm 46 7,Qh 47 46] (QI 47 (.region [KJ 6 0]) .skip)) UX))
def Jai:ACode:=(QR [Qm 22 0,Qw 23 3 5,Qo 24 (Qc GU [(Qu 22),(Qu 23)]),Qm 6 24] (QR [Qa 25 0 5,Ql 26 25,KT 27 26 1,Qm 7 27] Yn))
def Jaj:ACode:=(.seq (.region [Qm 19 17,Qx 20 3 15 17,Qw 21 3 20,Qo 5 (.alloc [(.int .i64 0),(.str []),.nilslice]),Qm 4 19,Qz (.store 3 (Qu 5) (Qu 21))]) Jai)
def Wl:ACode:=(QR [Qs 18 17 16] (.seq (QI 18 .skip (.exit 0)) (.seq (.block 1 Jaj) (.region [Qd 56 17,Qm 17 56]))))
def UY:ACode:=(QR [Qm 58 3,Qo 59 (.mkIface 178 (Qu 58)),Qo 60 (Qc GW [(Qu 59)]),Qo 61 (.typeAssert 184 (.agg [(.int .i64 0),(.bool false),(.int .i64 0)]) true (Qu 60)),Qm 57 61,KV 62 0 57,KV 63 1 57,Qo 8 (.alloc [(.int .i64 0),(.bool false),(.int .i64 0)]),Qz (.store 3 (Qu 8) (Qu 62)),Qm 9 63] (QR [Qa 64 0 8,Ql 65 64,Qm 2 65] .ret))
def Jak:ACode:=(.seq (QR [Qm 12 0,Qn 13 12,Qa 14 0 13,Ql 15 14,Qe 16 15,KJ 17 0] (.block 0 (.loop Wl))) UY)
def Yo:AFun:=⟨66,[.tmp 2],(QR [KJ 2 0] (QR [Qo 10 (.buildSlice 0 [] []),KW 11 10,Qm 3 11] Jak))⟩
theorem Wm:(XTab.of Tryz.prog).code 91=some Yo:=by kernel_rfl
def Jal:ACode:=(.region [Qm 27 3,Qa 28 1 6,Ql 29 28,Qo 30 (.buildSlice 1 [(.str [])] [(0,1,(Qu 29))]),KX 31 1 16 27 30,Qm 3 31])
def UZ:ACode:=(QR [Qm 22 4,Qa 23 1 6,Ql 24 23,Qo 25 (.lookup (.scalar .str) (.int .i64 0) false (Qu 22) (Qu 24)),KT 26 25 1] (QI 26 Jal .skip))
def U0:ACode:=(QR [Qm 17 4,Qa 18 1 6,Ql 19 18,Qo 20 (.lookup (.scalar .str) (.int .i64 0) false (Qu 17) (Qu 19)),Qd 21 20,Qz (.mapUpdate (.scalar .str) (Qu 17) (Qu 19) (Qu 21))] UZ)
def Wn:ACode:=(.seq (.region [Qx 12 3 8 10,Qw 13 3 12,Qo 6 (.alloc [(.int .i64 0),(.str []),(.int .i64 0)]),Qz (.store 3 (Qu 6) (Qu 13))]) (QR [Qa 14 0 6,Ql 15 14,KT 16 15 1] (QI 16 U0 .skip)))
def Yp:ACode:=(QR [Qs 11 10 9] (.seq (QI 11 .skip (.exit 0)) (.seq (.block 1 Wn) (.region [Qd 32 10,Qm 10 32]))))
def Jam:ACode:=(.seq (QR [Qm 8 0,Qe 9 8,KJ 10 0] (.block 0 (.loop Yp))) (QR [Qm 33 3,Qm 2 33] .ret))
def Wo:AFun:=⟨34,[.tmp 2],(QR [KU 2] (QR [KU 3] (QR [Qo 7 .mkMap,Qm 4 7] Jam)))⟩
theorem Wp:(XTab.of Tryz.prog).code 92=some Wo:=by kernel_rfl
def Jan:ACode:=(.region [Qm 22 5,Qm 23 0,Qn 24 23,Qa 25 12 24,Ql 26 25,Qm 27 7,Qo 28 (.lookup (.scalar .str) (.int .i64 0) false (Qu 26) (Qu 27)),Qo 29 (Qc YO [(Qu 28)]),Qo 30 (.bin .add (.const (.str [32])) (Qu 29)),Qo 31 (.bin .add (Qu 22) (Qu 30)),Qm 5 31])
def Jao:ACode:=(.seq (.block 1 (QR [Qx 20 1 16 18,Ql 21 20,Qm 7 21] Jan)) (.region [Qd 32 18,Qm 18 32]))
def U1:ACode:=(QR [Qs 19 18 17] (.seq (QI 19 .skip (.exit 0)) Jao))
def Jap:ACode:=(.seq (QR [Qm 10 0,Qn 11 10,Qa 12 10 11,Ql 13 12,Qm 14 1,Qx 15 1 13 14,Ql 16 15,Qe 17 16,KJ 18 0] (.block 0 (.loop U1))) (QR [Qm 33 5,Qm 4 33] .ret))
def Wq:AFun:=⟨34,[.tmp 4],(QR [Qo 4 (.mov (.const (.str [])))] (QR [Qm 8 1,Qo 9 (Qc YO [(Qu 8)]),Qm 5 9] Jap))⟩
theorem Wr:(XTab.of Tryz.prog).code 93=some Wq:=by kernel_rfl
def U2:ACode:=(.seq (.drawn [QD (Qm 3 0) [],QD (Qn 4 3) [0],QD (Qa 5 14 4) [1,0],QD (Ql 6 5) [2,1,0],QD (Qo 7 (.bin .geq (Qu 6) (Qi 0))) [3,2,1,0],QD (Qm 8 7) [4,3,2,1,0],QD (Fs 9 8 0) [5,4,3,2,1,0],QD (Qt 10 8 (.nilCheck (Qu 9))) [6,5,4,3,2,1,0],QD (KQ 11 8 13 10) [7,6,5,4,3,2,1,0],QD (KO 12 8 1 11) [8,7,6,5,4,3,2,1,0],QE (Qt 13 8 (Qc YP [(Qu 12)])) [9,8,7,6,5,4,3,2,1,0],QD (Fs 14 8 0) [5,4,3,2,1,0],QD (Qt 15 8 (.nilCheck (Qu 14))) [11,5,4,3,2,1,0],QD (KQ 16 8 14 15) [12,11,5,4,3,2,1,0],QD (KO 17 8 1 16) [13,12,11,5,4,3,2,1,0],QD (Qt 18 8 (.bin .gtr (Qu 13) (Qu 17))) [14,13,12,11,10,9,8,7,6,5,4,3,2,1,0],QD (KM 19 8 18) [15,14,13,12,11,10,9,8,7,6,5,4,3,2,1,0],QD (Qm 2 19) [16,15,14,13,12,11,10,9,8,7,6,5,4,3,2,1,0]]) .ret)
def ZG:AFun:=⟨20,[.tmp 2],(QR [KL 2 false] U2)⟩
theorem Ws:(XTab.of Tryz.prog).code 94=some ZG:=by kernel_rfl
def Jaq:ACode:=(.region [Qm 33 5,Qm 34 6,Qm 35 0,Qn 36 35,Qa 37 4 36,Ql 38 37,Qw 39 3 7,Qo 40 (Qc Ze [(Qu 38),(Qu 39)]),Qx 41 1 33 34,Qz (.store 1 (Qu 41) (Qu 40))])
def U3:ACode:=(QR [Qm 20 5,Qm 21 6,Qm 22 0,Qn 23 22,Qa 24 12 23,Ql 25 24,Qa 26 1 7,Ql 27 26,Qo 28 (.lookup (.scalar .str) (.int .i64 0) false (Qu 25) (Qu 27)),Qx 29 1 20 21,Qz (.store 1 (Qu 29) (Qu 28))] (QR [Qa 30 0 7,Ql 31 30,Qo 32 (.bin .neq (Qu 31) (Qi 1))] (QI 32 Jaq .skip)))
def U4:ACode:=(.seq (.region [Qm 17 15,Qx 18 3 13 15,Qw 19 3 18,Qo 7 (.alloc [(.int .i64 0),(.str []),(.int .i64 0)]),Qm 6 17,Qz (.store 3 (Qu 7) (Qu 19))]) U3)
def Wt:ACode:=(QR [Qs 16 15 14] (.seq (QI 16 .skip (.exit 0)) (.seq (.block 1 U4) (.region [Qd 42 15,Qm 15 42]))))
def Jar:ACode:=(.seq (QR [Qa 12 2 3,Ql 13 12,Qe 14 13,KJ 15 0] (.block 0 (.loop Wt))) (QR [Qm 43 5,Qm 4 43] .ret))
def Wu:AFun:=⟨44,[.tmp 4],(QR [KW 3 1,KU 4] (QR [Qa 8 2 3,Ql 9 8,Qe 10 9,Qo 11 (.mkSlice 1 8 [(.int .i64 0)] (Qu 10) (Qu 10)),Qm 5 11] Jar))⟩
theorem Wv:(XTab.of Tryz.prog).code 95=some Wu:=by kernel_rfl
def Jas:ACode:=(.region [Qm 25 0,Qn 26 25,Qa 27 5 26,Ql 28 27,Qa 29 1 5,Ql 30 29,Qo 31 (.inv [(41,Jg,none)] (Qu 28) [(Qu 30)]),Qm 6 31])
def U5:ACode:=(QR [Qo 4 (.mov (.const .nilptr))] .ret)
def U6:ACode:=(.seq (.seq (.drawn [QD (Qm 32 6) [],QE (Qo 33 (Qc YQ [(Qu 32)])) [0],QD (Qa 34 2 5) [],QD (Ql 35 34) [2],QD (Qe 36 35) [3,2],QD (Qo 37 (.bin .neq (Qu 33) (Qu 36))) [4,3,2,1,0]]) (QI 37 U5 .skip)) (QR [Qm 38 6,Qm 4 38] .ret))
def U7:ACode:=(.seq (QR [Qm 19 1,Qm 20 0,Qn 21 20,Qa 22 8 21,Ql 23 22,Qo 24 (.bin .neq (Qu 19) (Qu 23))] (QI 24 Jas .skip)) U6)
def U8:ACode:=(.seq (.region [Qm 7 0,Qn 8 7,Qa 9 0 8,Qa 10 3 9,Ql 11 10,Qm 12 1,Qx 13 3 11 12,Qw 14 3 13,Qo 5 (.alloc [(.int .i64 0),(.str []),.nilslice]),Qz (.store 3 (Qu 5) (Qu 14))]) (QR [Qm 15 0,Qn 16 15,Qa 17 9 16,Ql 18 17,Qm 6 18] U7))
def JU:AFun:=⟨39,[.tmp 4],(QR [Qo 4 (.mov (.const .nilptr))] U8)⟩
theorem Ww:(XTab.of Tryz.prog).code 96=some JU:=by kernel_rfl
def Jat:ACode:=(.region [Qm 31 5,Qm 32 7,Qo 33 (Qc VV [(Qu 32)]),Qo 34 (.buildSlice 1 [.nilslice] [(0,1,(Qu 33))]),KX 35 1 24 31 34,Qm 5 35])
def Jau:ACode:=(QR [Qx 26 1 22 24,Ql 27 26,Qm 7 27] (QR [Qm 28 7,Qm 29 1,Qo 30 (Qc GX [(Qu 28),(Qu 29)])] (QI 30 Jat .skip)))
def Wx:ACode:=(QR [Qs 25 24 23] (.seq (QI 25 .skip (.exit 0)) (.seq (.block 1 Jau) (.region [Qd 36 24,Qm 24 36]))))
def Jf:AFun:=⟨38,[.tmp 4],(QR [KU 4] (.seq (QR [Qm 8 0,Qo 9 (.eqv false .ptr (Qu 8) (.const .nilptr)),Qm 10 9,Fu 11 10 1,Qf 12 10 (.lenSl (Qu 11)),Fu 13 10 0,Qf 14 10 (.nilCheck (Qu 13)),KR 15 10 0 14,KP 16 10 1 15,Qf 17 10 (.bin .neq (Qu 12) (Qu 16)),KN 18 10 17] (QI 18 (QR [KU 4] .ret) .skip)) (QR [KU 5] (.seq (QR [Qm 19 0,Qn 20 19,Qa 21 1 20,Ql 22 21,Qe 23 22,KJ 24 0] (.block 0 (.loop Wx))) (QR [Qm 37 5,Qm 4 37] .ret)))))⟩
theorem Yq:(XTab.of Tryz.prog).code 97=some Jf:=by kernel_rfl
def Jav:ACode:=(QR [Qm 43 8,Qm 6 43,KL 7 false] .ret)
def Jaw:ACode:=(.region [Qm 56 8,Qa 57 1 10,Ql 58 57,Qo 59 (.buildSlice 1 [(.str [])] [(0,1,(Qu 58))]),KX 60 1 16 56 59,Qm 8 60])
def Jax:ACode:=(QR [Qm 46 0,Qn 47 46,Qa 48 12 47,Ql 49 48,Qa 50 1 10,Ql 51 50,Qm 52 2,Qm 53 9,Qx 54 1 52 53,Ql 55 54,Qz (.mapUpdate (.scalar .str) (Qu 49) (Qu 51) (Qu 55))] Jaw)
def Wy:ACode:=(.seq (QR [Qm 34 12,Qm 35 34,Fs 36 35 11,Fs 37 35 2,Fs 38 35 9,KY 39 35 1 37 38,KO 40 35 1 39,Qt 41 35 (.bin .neq (Qu 36) (Qu 40)),KM 42 35 41] (QI 42 Jav .skip)) (QR [Qm 44 12,Qh 45 44] (QI 45 Jax .skip)))
def Wz:ACode:=(QR [Qm 25 0,Qn 26 25,Qa 27 12 26,Ql 28 27,Qa 29 1 10,Ql 30 29,Qo 31 (.lookup (.scalar .str) (.int .i64 0) true (Qu 28) (Qu 30)),Qm 24 31,KV 32 0 24,KV 33 1 24,Qm 11 32,Qm 12 33] Wy)
def Yr:ACode:=(.seq (.region [Qm 18 16,Qx 19 3 14 16,Qw 20 3 19,Qo 10 (.alloc [(.int .i64 0),(.str []),(.int .i64 0)]),Qm 9 18,Qz (.store 3 (Qu 10) (Qu 20))]) (.seq (QR [Qa 21 0 10,Ql 22 21,Qo 23 (.bin .neq (Qu 22) (Qi 1))] (QI 23 (.exit 1) .skip)) Wz))
def ZH:ACode:=(QR [Qs 17 16 15] (.seq (QI 17 .skip (.exit 0)) (.seq (.block 1 Yr) (.region [Qd 61 16,Qm 16 61]))))
def Jay:ACode:=(.seq (QR [Qa 13 2 4,Ql 14 13,Qe 15 14,KJ 16 0] (.block 0 (.loop ZH))) (QR [Qm 62 8,Qm 6 62,KL 7 true] .ret))
def Ys:AFun:=⟨63,[.tmp 6,.tmp 7],(QR [KW 4 1,KU 6,KL 7 false] (QR [KU 8] Jay))⟩
theorem WA:(XTab.of Tryz.prog).code 98=some Ys:=by kernel_rfl
section
open Go.AE
def Zb:AFun:=⟨14,[.tmp 4],(QR [KL 4 false] (QR [Qm 8 0,Qm 9 1,Qo 10 (Qc VU [(Qu 8),(Qu 9)]),Qm 7 10,KV 11 0 7,KV 12 1 7,Qm 5 11,Qm 6 12] (QR [Qm 13 6,Qm 4 13] .ret)))⟩
theorem Yt:(XTab.of Tryz.prog).code 99=some Zb:=by kernel_rfl
def Ja9:ACode:=(QR [KL 6 false,KL 7 false] .ret)
def Jaz:ACode:=(QR [KL 6 false,KL 7 false] .ret)
def JaA:ACode:=(.region [Qm 52 9,Qm 53 1,Qm 54 11,Qo 55 (Qc VS [(Qu 53),(Qu 54)]),Qo 56 (.indexArr 2 3 (Qu 8) (Qu 52)),Qz (.store 3 (Qu 56) (Qu 55))])
def U9:ACode:=(QR [Qm 44 2,Qa 45 1 10,Ql 46 45,Qo 47 (.lookup (.scalar .str) (.int .i64 0) true (Qu 44) (Qu 46)),Qm 43 47,KV 48 0 43,KV 49 1 43,Qm 11 48,Qm 12 49] (.seq (QR [Qm 50 12,Qh 51 50] (QI 51 Jaz .skip)) JaA))
def WB:ACode:=(QR [Qm 37 9,Qw 38 3 10,Qo 39 (.indexArr 2 3 (Qu 8) (Qu 37)),Qz (.store 3 (Qu 39) (Qu 38))] (QR [Qa 40 0 10,Ql 41 40,KT 42 41 1] (QI 42 U9 .skip)))
def WE:ACode:=(.seq (.region [Qm 34 32,Qx 35 3 30 32,Qw 36 3 35,Qo 10 (.alloc [(.int .i64 0),(.str []),(.int .i64 0)]),Qm 9 34,Qz (.store 3 (Qu 10) (Qu 36))]) WB)
def JV:ACode:=(QR [Qs 33 32 31] (.seq (QI 33 .skip (.exit 0)) (.seq (.block 1 WE) (.region [Qd 57 32,Qm 32 57]))))
def JaB:ACode:=(QR [Qw 81 3 13,Qw 82 3 14,Qo 83 (Qc V0 [(Qu 81),(Qu 82)]),Qm 6 83,KL 7 true] .ret)
def JaC:ACode:=(QR [Qw 64 3 14,Qw 65 3 13,Qo 66 (Qc V0 [(Qu 64),(Qu 65)]),Qh 67 66,Qm 6 67,KL 7 true] .ret)
def JaD:ACode:=(QR [Qw 75 3 13,Qw 76 3 14,Qo 77 (Qc VZ [(Qu 75),(Qu 76)]),Qh 78 77,Qm 6 78,KL 7 true] .ret)
def Ga:ACode:=(QR [KT 80 63 5,Qm 79 80] (QI 79 JaB JaC))
def JaE:ACode:=(QR [Qw 70 3 13,Qw 71 3 14,Qo 72 (Qc VZ [(Qu 70),(Qu 71)]),Qm 6 72,KL 7 true] .ret)
def WG:ACode:=(QR [KT 74 63 4,Qm 73 74] (QI 73 JaD Ga))
def Yu:ACode:=(QR [Qa 62 0 3,Ql 63 62] (.block 2 (QR [KT 69 63 3,Qm 68 69] (QI 68 JaE WG))))
def JaF:ACode:=(.seq (.drawn [QD (Qo 58 (.indexArr 2 3 (Qu 8) (Qi 0))) [],QD (Qw 59 3 58) [0],QD (Qo 60 (.indexArr 2 3 (Qu 8) (Qi 1))) [],QD (Qw 61 3 60) [2],QE (Qo 13 (.alloc [(.int .i64 0),(.str []),(.int .i64 0)])) [],QE (Qo 14 (.alloc [(.int .i64 0),(.str []),(.int .i64 0)])) [],QE (Qz (.store 3 (Qu 13) (Qu 59))) [5,4,1,0],QE (Qz (.store 3 (Qu 14) (Qu 61))) [6,5,4,3,2,1,0]]) Yu)
def JaG:ACode:=(.seq (.region [Qo 8 (.alloc [(.int .i64 0),(.str []),(.int .i64 0),(.int .i64 0),(.str []),(.int .i64 0)])]) (.seq (QR [Qa 29 2 3,Ql 30 29,Qe 31 30,KJ 32 0] (.block 0 (.loop JV))) JaF))
def JaH:ACode:=(.seq (QR [Qa 15 0 3,Ql 16 15,Qo 17 (.bin .lss (Qu 16) (Qi 3)),Qm 18 17,KR 19 18 0 3,KP 20 18 1 19,Qf 21 18 (.bin .gtr (Qu 20) (Qi 6)),KN 22 18 21,Qm 23 22,KR 24 23 2 3,KP 25 23 1 24,Qf 26 23 (.lenSl (Qu 25)),Qf 27 23 (.bin .neq (Qu 26) (Qi 2)),KN 28 23 27] (QI 28 Ja9 .skip)) JaG)
def Jz:AFun:=⟨84,[.tmp 6,.tmp 7],(QR [KW 3 0,KL 6 false,KL 7 false] JaH)⟩
theorem WH:(XTab.of Tryz.prog).code 100=some Jz:=by kernel_rfl
def JaI:ACode:=(QR [Qm 18 9,Qm 19 10,Qo 20 (.bin .add (Qu 18) (Qu 19)),Qo 21 (.conv .u64 (Qu 20)),Qo 22 (.bin .shr (Qu 21) (.const (.int .u64 1))),Qo 23 (.conv .i64 (Qu 22)),Qm 11 23] (QR [Qm 24 2,Qm 25 0,Qm 26 11,Qx 27 1 25 26,Ql 28 27,Qm 29 1,Qo 30 (.call (Qu 24) [(Qu 28),(Qu 29)]),Qo 31 (.bin .lss (Qu 30) (Qi 0))] (QI 31 (.region [Qm 32 11,Qd 33 32,Qm 9 33]) (.region [Qm 34 11,Qm 10 34]))))
def Yv:ACode:=(.seq (QR [Qm 15 9,Qm 16 10,Qs 17 15 16] (QI 17 .skip (.exit 0))) (.block 1 JaI))
def Zc:AFun:=⟨49,[.tmp 6,.tmp 7],(QR [KJ 6 0,KL 7 false] (QR [Qm 12 0,Qe 13 12,Qm 8 13] (QR [Qm 14 8,KJ 9 0,Qm 10 14] (.seq (.block 0 (.loop Yv)) (QR [Qm 35 9,Qm 36 9,Qm 37 8,Qs 38 36 37,Qm 39 38,Fs 40 39 2,Fs 41 39 0,Fs 42 39 9,KY 43 39 1 41 42,KO 44 39 1 43,Fs 45 39 1,Qt 46 39 (.call (Qu 40) [(Qu 44),(Qu 45)]),Qt 47 39 (.bin .eql (Qu 46) (Qi 0)),KM 48 39 47,Qm 6 35,Qm 7 48] .ret)))))⟩
theorem WI:(XTab.of Tryz.prog).code 101=some Zc:=by kernel_rfl
def WJ:AFun:=⟨8,[.tmp 4],(QR [KJ 4 0] (QR [Qm 5 0,Qm 6 1,Qo 7 (Qc GS [(Qu 5),(Qu 6)]),Qm 4 7] .ret))⟩
theorem WK:(XTab.of Tryz.prog).code 102=some WJ:=by kernel_rfl
def WL:ACode:=(QR [Qm 13 11,Qx 14 1 9 11,Ql 15 14,Qm 5 13,Qm 6 15] (.seq (QR [Qm 16 5,Qm 17 1,Qe 18 17,Qo 19 (.bin .geq (Qu 16) (Qu 18))] (QI 19 (QR [KJ 4 1] .ret) .skip)) (QR [Qm 20 1,Qm 21 5,Qx 22 1 20 21,Ql 23 22,Qm 7 23] (QR [Qm 24 6,Qm 25 7,Qo 26 (Qc GY [(Qu 24),(Qu 25)]),Qm 8 26] (QR [Qm 27 8,Qo 28 (.bin .neq (Qu 27) (Qi 0))] (QI 28 (QR [Qm 29 8,Qm 4 29] .ret) .skip))))))
def JA:ACode:=(QR [Qs 12 11 10] (.seq (QI 12 .skip (.exit 0)) (.seq (.block 1 WL) (.region [Qd 30 11,Qm 11 30]))))
def Jd:AFun:=⟨36,[.tmp 4],(QR [KJ 4 0] (.seq (QR [Qm 9 0,Qe 10 9,KJ 11 0] (.block 0 (.loop JA))) (.seq (QR [Qm 31 0,Qe 32 31,Qm 33 1,Qe 34 33,Qs 35 32 34] (QI 35 (QR [Qo 4 (.mov (.const (.int .i64 (-1))))] .ret) .skip)) (QR [KJ 4 0] .ret))))⟩
theorem WM:(XTab.of Tryz.prog).code 103=some Jd:=by kernel_rfl
def WN:AFun:=⟨9,[.tmp 2],(QR [KL 2 false] (QR [Qm 3 0,Qo 4 (.bin .geq (Qu 3) (Fv 97)),Qm 5 4,Fs 6 5 0,Qt 7 5 (.bin .leq (Qu 6) (Fv 122)),KM 8 5 7,Qm 2 8] .ret))⟩
theorem WP:(XTab.of Tryz.prog).code 106=some WN:=by kernel_rfl
def WQ:AFun:=⟨9,[.tmp 2],(QR [KL 2 false] (QR [Qm 3 0,Qo 4 (.bin .geq (Qu 3) (Fv 48)),Qm 5 4,Fs 6 5 0,Qt 7 5 (.bin .leq (Qu 6) (Fv 57)),KM 8 5 7,Qm 2 8] .ret))⟩
theorem WR:(XTab.of Tryz.prog).code 107=some WQ:=by kernel_rfl
def WT:AFun:=⟨9,[.tmp 2],(QR [KL 2 false] (QR [Qm 3 0,Qo 4 (.bin .geq (Qu 3) (Fv 65)),Qm 5 4,Fs 6 5 0,Qt 7 5 (.bin .leq (Qu 6) (Fv 90)),KM 8 5 7,Qm 2 8] .ret))⟩
theorem WU:(XTab.of Tryz.prog).code 108=some WT:=by kernel_rfl
def Gb:ACode:=(.region [Qm 28 5,Qd 29 28,Qm 5 29])
def WV:ACode:=(QR [Qa 15 0 7,Ql 16 15,Qo 17 (.bin .neq (Qu 16) (Qi 1)),Qm 18 17,Fu 19 18 0,Qf 20 18 (.nilCheck (Qu 19)),KR 21 18 1 20,KP 22 18 1 21,KR 23 18 1 7,KP 24 18 1 23,Qf 25 18 (.lookup (.scalar .str) (.int .i64 0) false (Qu 22) (Qu 24)),Qf 26 18 (.bin .gtr (Qu 25) (Qi 0)),KN 27 18 26] (QI 27 Gb .skip))
def WW:ACode:=(.seq (.block 1 (.seq (.region [Qx 13 3 9 11,Qw 14 3 13,Qo 7 (.alloc [(.int .i64 0),(.str []),(.int .i64 0)]),Qz (.store 3 (Qu 7) (Qu 14))]) WV)) (.region [Qd 30 11,Qm 11 30]))
def Yw:ACode:=(QR [Qs 12 11 10] (.seq (QI 12 .skip (.exit 0)) WW))
def JaJ:ACode:=(.seq (QR [Qa 8 2 3,Ql 9 8,Qe 10 9,KJ 11 0] (.block 0 (.loop Yw))) (QR [Qm 31 5,Qm 4 31] .ret))
def WY:AFun:=⟨32,[.tmp 4],(QR [KW 3 1,KJ 4 0] (QR [KJ 5 0] JaJ))⟩
theorem WZ:(XTab.of Tryz.prog).code 119=some WY:=by kernel_rfl
def JaK:ACode:=(.region [Qm 7 0,Qm 8 0,Qo 9 (.inv [(17,G2,none),(35,V2,none),(49,YP,none),(142,G3,none),(178,ZR,(some (1,false))),(180,ZR,none)] (Qu 8) []),Qo 10 (.bin .sub (Qu 9) (Qi 1)),Qo 11 (Qc G0 [(Qu 7),(Qu 10)])])
def W0:AFun:=⟨12,[],(QR [Qm 4 0,Qm 5 1,Qo 6 (.inv [(178,G5,none)] (Qu 4) [(Qu 5)])] JaK)⟩
theorem W9:(XTab.of Tryz.prog).code 120=some W0:=by kernel_rfl
def JaL:ACode:=(QR [Qm 10 0,Qm 11 3,Qo 12 (Qc G1 [(Qu 10),(Qi 0),(Qu 11)])] (QR [Qm 13 0,Qo 14 (.inv [(178,G4,none)] (Qu 13) []),Qm 2 14] .ret))
def JaM:ACode:=(QR [Qm 4 0,Qo 5 (.inv [(17,G2,none),(35,V2,none),(49,YP,none),(142,G3,none),(178,ZR,(some (1,false))),(180,ZR,none)] (Qu 4) []),Qo 6 (.bin .sub (Qu 5) (Qi 1)),Qm 3 6] (QR [Qm 7 0,Qm 8 3,Qo 9 (.inv [(178,JX,(some (1,false))),(180,JX,none)] (Qu 7) [(Qi 0),(Qu 8)])] JaL))
def Va:AFun:=⟨15,[.tmp 2],(QR [Qo 2 (.mov (.const .niliface))] JaM)⟩
theorem Vb:(XTab.of Tryz.prog).code 121=some Va:=by kernel_rfl
def Vc:AFun:=⟨5,[.tmp 2],(QR [Qo 2 (.mov (.const (.str [])))] (QR [Qm 3 0,Qo 4 (Qc Ja0 [(Qu 3)]),Qm 2 4] .ret))⟩
theorem Vd:(XTab.of Tryz.prog).code 122=some Vc:=by kernel_rfl
def ZI:AFun:=⟨10,[.tmp 2],(QR [KJ 2 0] (.seq (QR [Qm 3 0,Qo 4 (.eqv false .ptr (Qu 3) (.const .nilptr))] (QI 4 (QR [KJ 2 0] .ret) .skip)) (QR [Qm 5 0,Qn 6 5,Qa 7 1 6,Ql 8 7,Qe 9 8,Qm 2 9] .ret)))⟩
theorem Ve:(XTab.of Tryz.prog).code 123=some ZI:=by kernel_rfl
def JaN:ACode:=(QR [Qo 2 (.mov (.const (.int .i64 (-1))))] .ret)
def Gc:ACode:=(.seq (QR [Qm 3 0,Qo 4 (.eqv false .ptr (Qu 3) (.const .nilptr))] (QI 4 JaN .skip)) (QR [Qm 5 0,Qn 6 5,Qa 7 0 6,Ql 8 7,Qm 2 8] .ret))
def ZJ:AFun:=⟨9,[.tmp 2],(QR [KJ 2 0] Gc)⟩
theorem Yx:(XTab.of Tryz.prog).code 124=some ZJ:=by kernel_rfl
def Vf:ACode:=(QR [Qm 11 9,Qx 12 1 7 9,Ql 13 12,Qm 5 11,Qm 6 13] (QR [Qm 14 6,Qo 15 (.bin .gtr (Qu 14) (Qi 0)),Qm 16 15,Fs 17 16 0,Fs 18 16 5,KY 19 16 1 17 18,KO 20 16 1 19,Fs 21 16 6,Qt 22 16 (.bin .neq (Qu 20) (Qu 21)),KM 23 16 22] (QI 23 (QR [KL 4 false] .ret) .skip)))
def Zd:ACode:=(QR [Qs 10 9 8] (.seq (QI 10 .skip (.exit 0)) (.seq (.block 1 Vf) (.region [Qd 24 9,Qm 9 24]))))
def JI:AFun:=⟨25,[.tmp 4],(QR [KL 4 false] (.seq (QR [Qm 7 1,Qe 8 7,KJ 9 0] (.block 0 (.loop Zd))) (QR [KL 4 true] .ret)))⟩
theorem Vg:(XTab.of Tryz.prog).code 125=some JI:=by kernel_rfl
def Vh:AFun:=⟨8,[.tmp 4],(QR [KW 2 0,KW 3 1,KL 4 false] (QR [Qw 5 3 2,Qw 6 3 3,Qo 7 (.eqAgg false [.int,.str,.int] (Qu 5) (Qu 6)),Qm 4 7] .ret))⟩
theorem Vi:(XTab.of Tryz.prog).code 126=some Vh:=by kernel_rfl
def JaO:ACode:=(QR [Qa 18 2 2,Ql 19 18,Qa 20 2 3,Ql 21 20,Qs 22 19 21,Qm 4 22] .ret)
def Vj:ACode:=(QR [Qm 24 5,Qm 25 24,Fu 26 25 6,KN 27 25 26,Qm 23 27] (QI 23 (QR [Qm 28 5,Qm 4 28] .ret) .skip))
def Yy:ACode:=(QR [Qm 14 5,Qm 15 14,Fs 16 15 6,KM 17 15 16,Qm 13 17] (QI 13 JaO Vj))
def JB:AFun:=⟨34,[.tmp 4],(QR [KW 2 0,KW 3 1,KL 4 false] (.seq (QR [Qa 7 0 2,Ql 8 7,KT 9 8 3,Qa 10 0 3,Ql 11 10,KT 12 11 3,Qm 5 9,Qm 6 12] (.block 0 Yy)) (QR [Qa 29 1 2,Ql 30 29,Qa 31 1 3,Ql 32 31,Qs 33 30 32,Qm 4 33] .ret)))⟩
theorem Vk:(XTab.of Tryz.prog).code 127=some JB:=by kernel_rfl
def ZK:AFun:=⟨20,[.tmp 4],(QR [KJ 4 0] (QR [Qm 7 0,Qo 8 (Qc V1 [(Qu 7)]),Qm 5 8] (QR [Qm 9 1,Qo 10 (Qc V1 [(Qu 9)]),Qm 6 10] (.seq (QR [Qm 11 5] (QI 11 (.seq (QR [Qm 12 6] (QI 12 (QR [KJ 4 0] .ret) .skip)) (QR [Qo 4 (.mov (.const (.int .i64 (-1))))] .ret)) .skip)) (.seq (QR [Qm 13 6] (QI 13 (QR [KJ 4 1] .ret) .skip)) (.seq (QR [Qm 14 0,Qm 15 1,Qs 16 14 15] (QI 16 (QR [Qo 4 (.mov (.const (.int .i64 (-1))))] .ret) .skip)) (.seq (QR [Qm 17 0,Qm 18 1,Qo 19 (.bin .gtr (Qu 17) (Qu 18))] (QI 19 (QR [KJ 4 1] .ret) .skip)) (QR [KJ 4 0] .ret))))))))⟩
theorem Vl:(XTab.of Tryz.prog).code 128=some ZK:=by kernel_rfl
end
section
open Go.AE
def JaP:ACode:=(QR [Qm 18 0,Qm 19 4,Qm 20 1,Qo 21 (.inv [(178,JX,(some (1,false))),(180,JX,none)] (Qu 18) [(Qu 19),(Qu 20)])] (.region [Qm 22 4,Qm 1 22]))
def Gd:ACode:=(.seq (QR [Qm 8 4,Qm 9 1,Qo 10 (.bin .eql (Qu 8) (Qu 9)),Qm 11 10,Fu 12 11 0,Fu 13 11 1,Fu 14 11 4,Qf 15 11 (.inv [(178,JW,(some (1,false))),(180,JW,none)] (Qu 12) [(Qu 13),(Qu 14)]),Qf 16 11 (.un .not (Qu 15)),KN 17 11 16] (QI 17 (.exit 0) .skip)) JaP)
def Ge:ACode:=(.block 1 (QR [Qm 5 1,Qo 6 (.bin .sub (Qu 5) (Qi 1)),Qo 7 (.bin .quo (Qu 6) (Qi 2)),Qm 4 7] Gd))
def Vn:AFun:=⟨23,[],(.block 0 (.loop Ge))⟩
theorem Vo:(XTab.of Tryz.prog).code 143=some Vn:=by kernel_rfl
def JaQ:ACode:=(.region [Qm 34 10,Qm 9 34])
def Gf:ACode:=(QR [Qm 25 10,Qm 26 2,Qs 27 25 26,Qm 28 27,Fs 29 28 0,Fs 30 28 10,Fs 31 28 8,Qt 32 28 (.inv [(178,JW,(some (1,false))),(180,JW,none)] (Qu 29) [(Qu 30),(Qu 31)]),KM 33 28 32] (QI 33 JaQ .skip))
def JaR:ACode:=(QR [Qm 40 0,Qm 41 7,Qm 42 9,Qo 43 (.inv [(178,JX,(some (1,false))),(180,JX,none)] (Qu 40) [(Qu 41),(Qu 42)])] (.region [Qm 44 9,Qm 7 44]))
def Gg:ACode:=(.seq (QR [Qm 35 0,Qm 36 9,Qm 37 7,Qo 38 (.inv [(178,JW,(some (1,false))),(180,JW,none)] (Qu 35) [(Qu 36),(Qu 37)]),Qh 39 38] (QI 39 (.exit 0) .skip)) JaR)
def Gh:ACode:=(QR [Qm 22 8,Qm 9 22] (.seq (QR [Qm 23 8,Qd 24 23,Qm 10 24] Gf) Gg))
def Vp:ACode:=(.seq (QR [Qm 15 8,Qm 16 2,Qo 17 (.bin .geq (Qu 15) (Qu 16)),Qm 18 17,Fu 19 18 8,Qf 20 18 (.bin .lss (Qu 19) (Qi 0)),KN 21 18 20] (QI 21 (.exit 0) .skip)) Gh)
def Yz:ACode:=(.block 1 (QR [Qm 12 7,Qo 13 (.bin .mul (Qi 2) (Qu 12)),Qd 14 13,Qm 8 14] Vp))
def JaS:ACode:=(QR [Qm 11 1,Qm 7 11] (.seq (.block 0 (.loop Yz)) (QR [Qm 45 7,Qm 46 1,Qo 47 (.bin .gtr (Qu 45) (Qu 46)),Qm 6 47] .ret)))
def YA:AFun:=⟨48,[.tmp 6],(QR [KL 6 false] JaS)⟩
theorem Vq:(XTab.of Tryz.prog).code 144=some YA:=by kernel_rfl
def Vr:AFun:=⟨5,[.tmp 2],(QR [Qo 2 (.mov (.const (.str [])))] (QR [Qm 3 0,Qo 4 (Qc GZ [(Qu 3),(Qi 10)]),Qm 2 4] .ret))⟩
theorem Vs:(XTab.of Tryz.prog).code 145=some Vr:=by kernel_rfl
def Vt:AFun:=⟨6,[.tmp 2],(QR [KL 2 false] (QR [Qm 3 0,Qm 4 0,Qo 5 (.bin .neq (Qu 3) (Qu 4)),Qm 2 5] .ret))⟩
theorem Vu:(XTab.of Tryz.prog).code 146=some Vt:=by kernel_rfl
end
section
open Go.AE
def Vv:AFun:=⟨10,[.tmp 2],(QR [KJ 2 0] (.seq (QR [Qm 3 0,Qo 4 (.eqv false .ptr (Qu 3) (.const .nilptr))] (QI 4 (QR [KJ 2 0] .ret) .skip)) (QR [Qm 5 0,Qn 6 5,Qa 7 1 6,Ql 8 7,Qe 9 8,Qm 2 9] .ret)))⟩
theorem Vw:(XTab.of Tryz.prog).code 189=some Vv:=by kernel_rfl
def Vx:AFun:=⟨9,[.tmp 4],(QR [KW 2 0,Qo 4 (.mov (.const .nilptr))] (QR [Qa 5 0 2,Ql 6 5,Qm 7 1,Qo 8 (.lookup (.scalar .str) .nilptr false (Qu 6) (Qu 7)),Qm 4 8] .ret))⟩
theorem Vy:(XTab.of Tryz.prog).code 190=some Vx:=by kernel_rfl
def Vz:AFun:=⟨5,[.tmp 2],(QR [KJ 2 0] (QR [Qm 3 0,Qe 4 3,Qm 2 4] .ret))⟩
theorem VA:(XTab.of Tryz.prog).code 193=some Vz:=by kernel_rfl
def Gi:ACode:=(QR [Qa 31 2 7,Ql 32 31,Qa 33 2 8,Ql 34 33,Qo 35 (.bin .gtr (Qu 32) (Qu 34)),Qm 6 35] .ret)
def YB:ACode:=(QR [Qa 23 1 8,Ql 24 23,Qm 6 24] .ret)
def YC:ACode:=(QR [Qa 26 2 7,Ql 27 26,Qa 28 2 8,Ql 29 28,Qo 30 (.bin .neq (Qu 27) (Qu 29)),Qm 25 30] (QI 25 Gi .skip))
def JJ:ACode:=(QR [Qa 18 1 7,Ql 19 18,Qa 20 1 8,Ql 21 20,Qo 22 (.eqv true .bool (Qu 19) (Qu 21)),Qm 17 22] (QI 17 YB YC))
def Gj:ACode:=(QR [Qa 36 0 7,Ql 37 36,Qa 38 0 8,Ql 39 38,Qs 40 37 39,Qm 6 40] .ret)
def JaT:ACode:=(.seq (.drawn [QD (Qm 9 0) [],QD (Qm 10 1) [],QD (Qx 11 3 9 10) [1,0],QD (Qw 12 3 11) [2,1,0],QD (Qm 13 0) [],QD (Qm 14 2) [],QD (Qx 15 3 13 14) [5,4],QD (Qw 16 3 15) [6,5,4],QE (Qo 7 (.alloc [(.int .i64 0),(.bool false),(.int .i64 0)])) [],QE (Qo 8 (.alloc [(.int .i64 0),(.bool false),(.int .i64 0)])) [],QE (Qz (.store 3 (Qu 7) (Qu 12))) [9,8,3,2,1,0],QE (Qz (.store 3 (Qu 8) (Qu 16))) [10,9,8,7,6,5,4,3,2,1,0]]) (.seq (.block 0 JJ) Gj))
def Jr:AFun:=⟨41,[.tmp 6],(QR [KL 6 false] JaT)⟩
theorem VB:(XTab.of Tryz.prog).code 194=some Jr:=by kernel_rfl
def JaU:ACode:=(QR [Qm 14 0,Qm 15 0,Qn 16 15,Ql 17 16,Qm 18 0,Qn 19 18,Ql 20 19,Qe 21 20,Qo 22 (.bin .sub (Qu 21) (Qi 1)),Qo 23 (.slice 3 (Qu 17) none (some (Qu 22)) none),Qn 24 14,Qz (.store 1 (Qu 24) (Qu 23))] (QR [Qw 25 3 3,Qo 26 (.mkIface 184 (Qu 25)),Qm 2 26] .ret))
def JaV:ACode:=(.seq (.drawn [QD (Qm 4 0) [],QD (Qn 5 4) [0],QD (Ql 6 5) [1,0],QD (Qm 7 0) [],QD (Qn 8 7) [3],QD (Ql 9 8) [4,3],QD (Qe 10 9) [5,4,3],QD (Qo 11 (.bin .sub (Qu 10) (Qi 1))) [6,5,4,3],QD (Qx 12 3 6 11) [7,6,5,4,3,2,1,0],QD (Qw 13 3 12) [8,7,6,5,4,3,2,1,0],QE (Qo 3 (.alloc [(.int .i64 0),(.bool false),(.int .i64 0)])) [],QE (Qz (.store 3 (Qu 3) (Qu 13))) [10,9,8,7,6,5,4,3,2,1,0]]) JaU)
def VC:AFun:=⟨27,[.tmp 2],(QR [Qo 2 (.mov (.const .niliface))] JaV)⟩
theorem VD:(XTab.of Tryz.prog).code 195=some VC:=by kernel_rfl
def JaW:ACode:=(.drawn [QD (Qm 12 0) [],QD (Qm 13 0) [],QD (Qn 14 13) [1],QD (Ql 15 14) [2,1],QD (Qw 16 3 4) [],QE (Qo 17 (.buildSlice 1 [(.int .i64 0),(.bool false),(.int .i64 0)] [(0,3,(Qu 16))])) [4],QE (KX 18 3 24 15 17) [5,4,3,2,1],QD (Qn 19 12) [6,5,4,3,2,1,0],QE (Qz (.store 1 (Qu 19) (Qu 18))) [7,6,5,4,3,2,1,0]])
def VE:AFun:=⟨20,[],(QR [Qm 7 1,Qo 8 (.typeAssert 184 (.agg [(.int .i64 0),(.bool false),(.int .i64 0)]) true (Qu 7)),Qm 6 8,KV 9 0 6,KV 10 1 6,Qo 4 (.alloc [(.int .i64 0),(.bool false),(.int .i64 0)]),Qz (.store 3 (Qu 4) (Qu 9)),Qm 5 10] (QR [Qm 11 5] (QI 11 JaW .skip)))⟩
theorem VF:(XTab.of Tryz.prog).code 196=some VE:=by kernel_rfl
def VG:AFun:=⟨20,[],(.region [Qm 6 0,Qm 7 1,Qm 8 0,Qm 9 2,Qm 10 0,Qm 11 2,Qx 12 3 10 11,Qw 13 3 12,Qm 14 0,Qm 15 1,Qx 16 3 14 15,Qw 17 3 16,Qx 18 3 6 7,Qz (.store 3 (Qu 18) (Qu 13)),Qx 19 3 8 9,Qz (.store 3 (Qu 19) (Qu 17))])⟩
theorem VH:(XTab.of Tryz.prog).code 197=some VG:=by kernel_rfl
end
section
open Go.AE
structure Codes (tab:Tab):Prop where
 YV:tab.code 4=some Zl
 YX:tab.code 6=some YW
 YZ:tab.code 7=some YY
 Y2:tab.code 8=some Y1
 Y5:tab.code 9=some Zm
 Y7:tab.code 10=some Y6
 Y8:tab.code 11=some ZW
 Xa:tab.code 12=some ZZ
 Xb:tab.code 13=some Zo
 Xd:tab.code 14=some Xc
 Xe:tab.code 15=some JZ
 Xh:tab.code 16=some Xg
 Xi:tab.code 17=some J0
 Xk:tab.code 18=some Xj
 Xm:tab.code 20=some Zq
 Z1:tab.code 21=some Jt
 Xn:tab.code 26=some Zr
 Xp:tab.code 27=some Xo
 Xq:tab.code 28=some J2
 Xs:tab.code 29=some JC
 Xv:tab.code 30=some Zs
 Xx:tab.code 31=some J3
 Xz:tab.code 32=some Xy
 XB:tab.code 33=some Zt
 XC:tab.code 34=some Zu
 XE:tab.code 35=some Z4
 XF:tab.code 36=some Z5
 XG:tab.code 37=some JM
 XJ:tab.code 39=some JO
 XK:tab.code 40=some Ju
 XL:tab.code 41=some Jv
 XM:tab.code 42=some Jo
 XN:tab.code 43=some Zy
 XO:tab.code 44=some J6
 XP:tab.code 55=some Jb
 XQ:tab.code 56=some Jc
 XR:tab.code 57=some Jp
 XT:tab.code 58=some J7
 XU:tab.code 59=some JR
 XV:tab.code 60=some Z8
 XX:tab.code 61=some Jw
 XZ:tab.code 62=some J8
 X0:tab.code 63=some JD
 X2:tab.code 64=some Yc
 X4:tab.code 65=some Ji
 X6:tab.code 66=some X5
 Yf:tab.code 67=some Jl
 Yg:tab.code 68=some ZA
 X7:tab.code 69=some JT
 X9:tab.code 71=some Ja
 Wb:tab.code 72=some Je
 We:tab.code 73=some Jm
 Wf:tab.code 87=some Jq
 Wg:tab.code 88=some Jy
 Wi:tab.code 89=some Ym
 Wk:tab.code 90=some ZF
 Wm:tab.code 91=some Yo
 Wp:tab.code 92=some Wo
 Wr:tab.code 93=some Wq
 Ws:tab.code 94=some ZG
 Wv:tab.code 95=some Wu
 Ww:tab.code 96=some JU
 Yq:tab.code 97=some Jf
 WA:tab.code 98=some Ys
 Yt:tab.code 99=some Zb
 WH:tab.code 100=some Jz
 WI:tab.code 101=some Zc
 WK:tab.code 102=some WJ
 WM:tab.code 103=some Jd
 WP:tab.code 106=some WN
 WR:tab.code 107=some WQ
 WU:tab.code 108=some WT
 WZ:tab.code 119=some WY
 W9:tab.code 120=some W0
 Vb:tab.code 121=some Va
 Vd:tab.code 122=some Vc
 Ve:tab.code 123=some ZI
 Yx:tab.code 124=some ZJ
 Vg:tab.code 125=some JI
 Vi:tab.code 126=some Vh
 Vk:tab.code 127=some JB
 Vl:tab.code 128=some ZK
 Vo:tab.code 143=some Vn
 Vq:tab.code 144=some YA
 Vs:tab.code 145=some Vr
 Vu:tab.code 146=some Vt
 Vw:tab.code 189=some Vv
 Vy:tab.code 190=some Vx
 VA:tab.code 193=some Vz
 VB:tab.code 194=some Jr
 VD:tab.code 195=some VC
 VF:tab.code 196=some VE
 VH:tab.code 197=some VG
theorem JuJ {tab:Tab}(h:tab.code=(XTab.of Tryz.prog).code):Codes tab where
 YV:=h▸YV
 YX:=h▸YX
 YZ:=h▸YZ
 Y2:=h▸Y2
 Y5:=h▸Y5
 Y7:=h▸Y7
 Y8:=h▸Y8
 Xa:=h▸Xa
 Xb:=h▸Xb
 Xd:=h▸Xd
 Xe:=h▸Xe
 Xh:=h▸Xh
 Xi:=h▸Xi
 Xk:=h▸Xk
 Xm:=h▸Xm
 Z1:=h▸Z1
 Xn:=h▸Xn
 Xp:=h▸Xp
 Xq:=h▸Xq
 Xs:=h▸Xs
 Xv:=h▸Xv
 Xx:=h▸Xx
 Xz:=h▸Xz
 XB:=h▸XB
 XC:=h▸XC
 XE:=h▸XE
 XF:=h▸XF
 XG:=h▸XG
 XJ:=h▸XJ
 XK:=h▸XK
 XL:=h▸XL
 XM:=h▸XM
 XN:=h▸XN
 XO:=h▸XO
 XP:=h▸XP
 XQ:=h▸XQ
 XR:=h▸XR
 XT:=h▸XT
 XU:=h▸XU
 XV:=h▸XV
 XX:=h▸XX
 XZ:=h▸XZ
 X0:=h▸X0
 X2:=h▸X2
 X4:=h▸X4
 X6:=h▸X6
 Yf:=h▸Yf
 Yg:=h▸Yg
 X7:=h▸X7
 X9:=h▸X9
 Wb:=h▸Wb
 We:=h▸We
 Wf:=h▸Wf
 Wg:=h▸Wg
 Wi:=h▸Wi
 Wk:=h▸Wk
 Wm:=h▸Wm
 Wp:=h▸Wp
 Wr:=h▸Wr
 Ws:=h▸Ws
 Wv:=h▸Wv
 Ww:=h▸Ww
 Yq:=h▸Yq
 WA:=h▸WA
 Yt:=h▸Yt
 WH:=h▸WH
 WI:=h▸WI
 WK:=h▸WK
 WM:=h▸WM
 WP:=h▸WP
 WR:=h▸WR
 WU:=h▸WU
 WZ:=h▸WZ
 W9:=h▸W9
 Vb:=h▸Vb
 Vd:=h▸Vd
 Ve:=h▸Ve
 Yx:=h▸Yx
 Vg:=h▸Vg
 Vi:=h▸Vi
 Vk:=h▸Vk
 Vl:=h▸Vl
 Vo:=h▸Vo
 Vq:=h▸Vq
 Vs:=h▸Vs
 Vu:=h▸Vu
 Vw:=h▸Vw
 Vy:=h▸Vy
 VA:=h▸VA
 VB:=h▸VB
 VD:=h▸VD
 VF:=h▸VF
 VH:=h▸VH
end
end Go.Proofs.YtegdcbdicpfbpaaGreatDoor
set_option linter.unusedSectionVars false
set_option linter.unusedSimpArgs false
namespace Go.AE
variable [Globs]
end Go.AE
open Go.RowKit
namespace Go.AE
variable [Globs]
variable {aw:AW} {m:Map} {w w':World}
theorem BR.same {b:Nat}{e:Emb}(h:w'.heap[e.c]? = w.heap[e.c]?):∀{x:Blk},BR aw m w b e x→BR aw m w' b e x:=by
 intro x hx;cases x with
 | cells l sh=>intro ha;obtain⟨cur,t,lo,hi,h1,h2⟩:=hx ha;exact⟨cur,t,lo,hi,h.trans h1,h2⟩
 | map es ck=>obtain⟨es',h1,h2⟩:=hx;exact⟨es',h.trans h1,h2⟩
 | mapIter x s q l=>obtain⟨h0,r,h1,h2⟩:=hx;exact⟨h0,r,h.trans h1,h2⟩
variable {base:Nat}
theorem R.below (hR:R aw w m base)(h:Below w.heap.size w w'):R aw w' m base∧Goes aw aw w w' m m:=by
 have hb:∀b e,m b=some e→w'.heap[e.c]? = w.heap[e.c]?:=fun b e he=>h.block e.c (hR.lt b e he).2;refine⟨⟨hR.glob,hR.gblk,hR.famlt,Kk hR.size h.size,fun b e he=>⟨(hR.lt b e he).1,FK (hR.lt b e he).2 h.size⟩,hR.base,fun b e x he hx=>(hR.blk b e x he hx).same (hb b e he),hR.apart,hR.fam⟩,?_⟩;exact⟨.refl m,fun b e he=> .inl he,FH _,h.size,h.os,h.tape,h.output,fun b l hl _=>hl,fun b l hl _=>⟨l,hl⟩,fun c hc _=>h.block c hc,fun b _ hx=>hx,fun _ _ _=>rfl⟩
def EP:List Nat→Nat→Option Nat
 | [],_=>none
 | b::l,c=>match Nat.beq b c with
  | true=>some 0
  | false=>match EP l c with
   | some n=>some (n+1)
   | none=>none
def NN (o:Option Nat):V :=
 match o with
 | some n=> .int .i64 (Fq n)
 | none=> .int .i64 (-1)
def Jnh (args:List V):Option V :=
 match args with
 | [.str l,.int .u8 (.ofNat c)]=>match Nat.blt c 256 with
  | true=>some (NN (EP l c))
  | false=>none
 | _=>none
theorem Jpj {c:Nat}(hc:c<256):∀(l:List UInt8),V.int .i64 (Lib.indexByte l c.toUInt8)=NN (EP (l.map UInt8.toNat) c)
 | []=>rfl
 | b::l=>by
  have ih:=Jpj hc l
  have hb:(b==c.toUInt8)=Nat.beq b.toNat c:=by
   cases h:Nat.beq b.toNat c with
   | true =>
    have:=Nat.eq_of_beq_eq_true h;rw[beq_iff_eq];apply UInt8.toNat.inj;rw[this];simp only[Nat.toUInt8,UInt8.toNat_ofNat'];omega
   | false =>
    rw[beq_eq_false_iff_ne];intro he;subst he;have:(Nat.toUInt8 c).toNat=c:=by simp only[Nat.toUInt8,UInt8.toNat_ofNat'];omega
    rw[this,Nat.beq_refl]at h;cases h
  simp only[Lib.indexByte,Kv,EP];rw[hb];cases h:Nat.beq b.toNat c with
  | true=>rfl
  | false =>
   simp only[FM,if_false];cases hn:EP (l.map UInt8.toNat) c with
   | none =>
    rw[hn]at ih;simp only[NN,V.int.injEq,true_and]at ih ⊢;rw[ih];rfl
   | some n =>
    rw[hn]at ih;simp only[NN,V.int.injEq,true_and]at ih ⊢;rw[ih];have:(Fq n == -1)=false:=by rw[beq_eq_false_iff_ne];intro hh;cases hh
    rw[this];rfl
variable {P:Program}
theorem Jry {f:Nat}{fn:Func}(hf:P.funcs[f]? = some fn)(h1:(fn.name == "runtime.NumGoroutine")=false)(h2:fn.body.isNone=true)(h3:Extern.findNext fn=none)(h4:Extern.find fn=some Extern.BytealgIndexByte.indexByte){args:List V}{v:V}(h:Jnh args=some v)(w:World)(m:Map)(args':Array Value)(hargs:VRs m args args'.toList):∃v',(callFunc f args').run P w = .ok (.value v') w∧VR m v v':=by
 unfold Jnh at h;split at h
 ·rename_i l c;split at h
  ·rename_i hc;cases h;have hc:=Nat.blt_eq.mp hc;obtain⟨y,ys,e1,⟨s,rfl,hs⟩,e2⟩:=hargs;obtain⟨y2,ys2,e3,rfl,e4⟩:=e2;cases e4;obtain rfl:args' = #[.string s,.int .u8 (Fq c)]:=by cases args';simp_all
   refine⟨_,by rw[run_callFunc_extern hf h1 h2 h3 h4,Lib.run_indexByteString];rfl,?_⟩;have hx:=Jpj hc s.data.toList;have hl:s.data.toList.map UInt8.toNat=l:=hs;rw[hl]at hx;rw[←hx];rfl
  ·cases h
 ·cases h
def CQ:List Nat→List Nat→Int
 | [],[]=>0
 | [],_::_=>-1
 | _::_,[]=>1
 | a::ar,b::bs=>match Nat.blt a b with
  | true=>-1
  | false=>match Nat.blt b a with
   | true=>1
   | false=>CQ ar bs
theorem JrB {f:Nat}{v:V}{args':Array Value}(hR:R aw w m base)(h:∃v',(callFunc f args').run P w = .ok (.value v') w∧VR m v v'):∃v' w' m',(callFunc f args').run P w = .ok (.value v') w'∧VR m' v v'∧R aw w' m' base∧Goes aw aw w w' m m':=by
 obtain⟨v',h1,h2⟩:=h;exact⟨v',w,m,h1,h2,hR,.refl _ _ _⟩
end Go.AE
open Go.RowKit Go.WideShapes Go.ChangeShapes
namespace Go.AE
variable [Globs]
theorem Goes.belowRo {aw aw':AW}{w w':World}{m m':Map}(h:Goes aw aw' w w' m m')(hm:∀b e x,m b=some e→aw.heap.get b=some x→∃l,x = .cells l .ro):Below w.heap.size w w':=
 ⟨h.os,h.tape,h.output,h.size,fun k hk=>h.frame k hk fun b e x hb hx hro=>by obtain⟨l,hl⟩:=hm b e x hb hx;exact absurd hl (hro l)⟩
section
variable {H:Type} {enc:TypeId×Value→H} {P:Program}
theorem Jiq (hl:laidOutB P=true){W W':World}(hb:Below W.heap.size W W'):∀{ts:List TypeId} {vs:List Value} {ds:List (DataW H)} {ps:List MemPlace},(∀t∈ts,P.readableRec t=true∧t<P.types.size)→ DataW.TrodAll enc P W 0 (fun _=>true) true ts vs ds ps→(∀x∈ps,x.block<W.heap.size)→DataW.TrodAll enc P W' 0 (fun b=>decide (b<W.heap.size)) true ts vs ds ps
 | [],vs,ds,ps,_,h,_=>by
  obtain⟨rfl,rfl,rfl⟩:=trodAll_nil h;exact trodAll_mk0
 | t::ts,vs,ds,ps,hr,h,hlt=>by
  obtain⟨v,vs',d,ds',p,q,rfl,rfl,rfl,hd,hrest⟩:=trodAll_cons h;have h1:=hr t Fj;exact trodAll_cons_mk (Below.trod hl h1.1 h1.2 hd hb (fun x hx=>hlt x (by simp[hx]))) (Jiq hl hb (fun t ht=>hr t (by simp[ht])) hrest (fun x hx=>hlt x (by simp[hx])))
theorem Jtv {f:Func}{s:ChangeSpec}{apart fresh handsOn:Bool}{W W':World}{args:Array Value}{ds gs:List (DataW H)}{before:List MemPlace}{tb:TypeId}(hW:DataW.Whole enc P f.params.toList s.vars apart W args.toList ds gs before)(hl:laidOutB P=true)(hr:∀t∈f.params.toList,P.readableRec t=true∧t<P.types.size)(hb:Below W.heap.size W W')(hsv:s.vars=[])(hres:f.resultTypes = #[tb])(htb:P.underlying tb=some .bool)(hfn:(s.fn H (ds++gs)).results=[.lit (.bool true)])(hfa:(s.fn H (ds++gs)).args=ds)(hfv:(s.fn H (ds++gs)).vars=[]): s.post enc P f apart fresh handsOn false W args (.bool true) W':=by
 have hlt:∀x∈before,x.block<W.heap.size:=fun x hx=>hW.lt x hx;obtain⟨p,q,hA,hV,hbe,hfz,hnd⟩:=id hW;rw[hsv]at hV;obtain⟨rfl,rfl⟩:=trodVars_none hV;have hbe':before=p:=by simpa using hbe
 subst hbe';have hA':=Jiq hl hb hr hA hlt;refine⟨ds,[],before,[],before,[],hW,?_,?_,?_,hb.frame _,fun h=>by cases h⟩
 ·rw[hfn,hres];exact trodAll_cons_mk (shut_bool htb _) trodAll_mk0
 ·rw[hfa];exact hA'
 ·rw[hfv,hsv];exact rfl
end
end Go.AE
