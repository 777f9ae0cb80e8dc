/- A part of the proof. -/
import Derived.Test.YtegdcbdicpfbpaaGreatDoorJdE
set_option maxRecDepth 100000
set_option linter.unusedVariables false
namespace Go.Proofs.YtegdcbdicpfbpaaGreatDoor
open Go.AE
def Ja1:ACode:=(QR [KL 8 false] .ret)
def Ja2:ACode:=(QR [KL 8 false] .ret)
def V3:ACode:=(.seq (.seq (.drawn [QD (Qm 74 10) [],QD (Qm 75 11) [],QD (Qx 76 4 74 75) [1,0],QD (Qw 77 4 76) [2,1,0],QD (Qm 78 12) [],QD (Qw 79 1 13) [],QD (Qo 80 (.mkIface 41 (Qu 79))) [5],QD (Qm 81 3) [],QE (Qo 82 (Qc ZL [(Qi 1)])) [],QE (Qo 83 (Qc VM [(Qu 77),(Qu 78),(Qu 80),(Qu 81),(Qu 82)])) [8,7,6,5,4,3,2,1,0],QD (Qe 84 83) [9,8,7,6,5,4,3,2,1,0],QD (Qo 85 (.bin .neq (Qu 84) (Qi 0))) [10,9,8,7,6,5,4,3,2,1,0]]) (QI 85 Ja2 .skip)) (.exit 1))
def G6:ACode:=(.region [Qm 120 15,Qm 121 2,Qm 122 16,Qx 123 2 121 122,Qw 124 2 123,Qo 125 (.buildSlice 1 [(.str []),.nilslice] [(0,2,(Qu 124))]),KX 126 2 40 120 125,Qm 15 126])
def YR:ACode:=(QR [Qm 100 2,Qm 101 16,Qx 102 2 100 101,Qa 103 0 102,Ql 104 103,Qa 105 1 14,Ql 106 105,Qo 107 (.bin .eql (Qu 104) (Qu 106)),Qm 108 107,Fs 109 108 2,Fs 110 108 16,KY 111 108 2 109 110,KQ 112 108 1 111,KO 113 108 1 112,Qt 114 108 (.lenSl (Qu 113)),KQ 115 108 2 14,KO 116 108 1 115,Qt 117 108 (.lenSl (Qu 116)),Qt 118 108 (.bin .eql (Qu 114) (Qu 117)),KM 119 108 118] (QI 119 G6 .skip))
def Zj:ACode:=(.seq (QR [Qm 94 16,Qm 95 2,Qe 96 95,Qs 97 94 96] (QI 97 .skip (.exit 2))) (.seq (.block 3 YR) (.region [Qm 98 16,Qd 99 98,Qm 16 99])))
def G7:ACode:=(QR [KL 8 true] .ret)
def G8:ACode:=(.region [Qa 149 2 14,Ql 150 149,Qe 151 150,Qo 152 (Qc ZL [(Qu 151)]),Qm 19 152])
def Ja3:ACode:=(QR [KL 8 false] .ret)
def G9:ACode:=(QR [Qm 163 20,Qo 164 (Qc Gp [(Qu 163)]),Qh 165 164,Qm 166 165,Fu 167 166 12,Fu 168 166 10,Fu 169 166 11,Qf 170 166 (.indexAddr 4 (Qu 168) (Qu 169)),KR 171 166 0 170,KR 172 166 1 171,KP 173 166 1 172,Fu 174 166 20,Qf 175 166 (Qc Gr [(Qu 167),(Qu 173),(Qu 174)]),Fu 176 166 17,Qf 177 166 (Qc Gq [(Qu 175),(Qu 176)]),Qf 178 166 (.un .not (Qu 177)),KN 179 166 178] (QI 179 Ja3 .skip))
def YS:ACode:=(QR [Qm 153 10,Qm 154 11,Qx 155 4 153 154,Qw 156 4 155,Qm 157 12,Qw 158 1 13,Qo 159 (.mkIface 41 (Qu 158)),Qm 160 3,Qm 161 19,Qo 162 (Qc VM [(Qu 156),(Qu 157),(Qu 159),(Qu 160),(Qu 161)]),Qm 20 162] G9)
def Ha:ACode:=(.seq (.drawn [QD (Qm 140 12) [],QD (Qm 141 15) [],QE (Qo 142 (Qc YD [(Qu 140),(Qu 141)])) [1,0],QD (Qo 143 (.field 0 1 false (Qu 142))) [2,1,0],QD (Qa 144 1 14) [],QD (Ql 145 144) [4],QD (Qo 146 (.lookup (.scalar .str) .nilptr false (Qu 143) (Qu 145))) [5,4,3,2,1,0],QD (Qm 19 146) [6,5,4,3,2,1,0]]) (.seq (QR [Qm 147 19,Qo 148 (.eqv false .ptr (Qu 147) (.const .nilptr))] (QI 148 G8 .skip)) YS))
def Hb:ACode:=(QR [Qm 128 10,Qm 129 11,Qx 130 4 128 129,Qw 131 4 130,Qm 132 1,Qm 133 3,Qm 134 15,Qo 135 (Qc Gl [(Qu 131),(Qu 132),(Qu 133),(Qu 134)]),Qm 127 135,KV 136 0 127,KV 137 1 127,Qm 17 136,Qm 18 137] (.seq (QR [Qm 138 18,Qh 139 138] (QI 139 G7 .skip)) Ha))
def YT:ACode:=(.seq (.region [Qm 86 10,Qm 87 11,Qx 88 4 86 87,Qa 89 3 88,Ql 90 89,Qm 91 3,Qx 92 3 90 91,Qw 93 3 92,Qo 14 (.alloc [(.int .i64 0),(.str []),.nilslice]),Qz (.store 3 (Qu 14) (Qu 93))]) (QR [KU 15] (.seq (QR [KJ 16 0] (.block 2 (.loop Zj))) Hb)))
def Zk:ACode:=(.seq (QR [Qm 50 3,Qo 51 (.bin .lss (Qu 50) (Qi 0)),Qm 52 51,Fu 53 52 3,Fu 54 52 10,Fu 55 52 11,Qf 56 52 (.indexAddr 4 (Qu 54) (Qu 55)),KR 57 52 3 56,KP 58 52 1 57,Qf 59 52 (.lenSl (Qu 58)),Qf 60 52 (.bin .geq (Qu 53) (Qu 59)),KN 61 52 60,Qm 62 61,Fu 63 62 10,Fu 64 62 11,Qf 65 62 (.indexAddr 4 (Qu 63) (Qu 64)),KR 66 62 3 65,KP 67 62 1 66,Fu 68 62 3,Qf 69 62 (.indexAddr 3 (Qu 67) (Qu 68)),KR 70 62 0 69,KP 71 62 1 70,Qf 72 62 (.bin .neq (Qu 71) (Qi 1)),KN 73 62 72] (QI 73 V3 .skip)) YT)
def Hc:ACode:=(QR [Qm 47 12,Qm 48 1,Qo 49 (Qc YD [(Qu 47),(Qu 48)]),Qo 13 (.alloc [.nilmap]),Qz (.store 1 (Qu 13) (Qu 49))] Zk)
def Hd:ACode:=(.seq (QR [Qm 40 10,Qm 41 11,Qx 42 4 40 41,Qw 43 4 42,Qo 44 (Qc Gn [(Qu 43)]),Qh 45 44] (QI 45 (.exit 1) .skip)) (QR [Qo 46 (Qc VK []),Qm 12 46] Hc))
def YU:ACode:=(.seq (QR [Qm 30 11,Qm 31 10,Qe 32 31,Qs 33 30 32,Qm 34 33,Fs 35 34 11,Qt 36 34 (.bin .lss (Qu 35) (Qi 6)),KM 37 34 36] (QI 37 .skip (.exit 0))) (.seq (.block 1 Hd) (.region [Qm 38 11,Qd 39 38,Qm 11 39])))
def He:ACode:=(QR [Qm 26 1,Qo 27 (Qc VJ [(Qu 26),(Qi 25)]),Qm 28 2,Qo 29 (Qc VJ [(Qu 28),(Qi 10)]),Qm 1 27,Qm 2 29] (.seq (QR [KJ 11 0] (.block 0 (.loop YU))) (QR [KL 8 true] .ret)))
def Hf:ACode:=(.seq (QR [Qm 22 9,Qh 23 22] (QI 23 Ja1 .skip)) (QR [Qm 24 0,Qo 25 (Qc VI [(Qu 24)]),Qm 10 25] He))
def Zl:AFun:=⟨180,[.tmp 8],(QR [KL 8 false] (QR [Qo 21 (Qc Gk []),Qm 9 21] Hf))⟩
theorem YV:(XTab.of Tryz.prog).code 4=some Zl:=by kernel_rfl
def Ja4:ACode:=(QR [KL 0 false] .ret)
def Hg:ACode:=(.seq (.drawn [QD (Qm 22 4) [],QD (Qe 23 22) [0],QD (KT 24 23 1) [1,0],QD (Qm 25 24) [2,1,0],QD (Fs 26 25 4) [3,2,1,0],QD (Qt 27 25 (.indexAddr 1 (Qu 26) (Qi 0))) [4,3,2,1,0],QD (KO 28 25 1 27) [5,4,3,2,1,0],QD (Qt 29 25 (.lenSl (Qu 28))) [6,5,4,3,2,1,0],QD (Qt 30 25 (.bin .eql (Qu 29) (Qi 1))) [7,6,5,4,3,2,1,0],QD (KM 31 25 30) [8,7,6,5,4,3,2,1,0],QD (Qm 32 31) [9,8,7,6,5,4,3,2,1,0],QD (Fs 33 32 4) [10,9,8,7,6,5,4,3,2,1,0],QD (Qt 34 32 (.indexAddr 1 (Qu 33) (Qi 0))) [11,10,9,8,7,6,5,4,3,2,1,0],QD (KO 35 32 1 34) [12,11,10,9,8,7,6,5,4,3,2,1,0],QD (Qt 36 32 (.indexAddr 1 (Qu 35) (Qi 0))) [13,12,11,10,9,8,7,6,5,4,3,2,1,0],QD (KO 37 32 1 36) [14,13,12,11,10,9,8,7,6,5,4,3,2,1,0],QD (Fs 38 32 1) [10,9,8,7,6,5,4,3,2,1,0],QD (Qt 39 32 (.build [(.int .i64 0),(.str []),(.int .i64 0)] [(0,1,(Qi 3)),(2,1,(Qi 5))])) [10,9,8,7,6,5,4,3,2,1,0],QE (Qt 40 32 (Qc Ze [(Qu 38),(Qu 39)])) [17,16,10,9,8,7,6,5,4,3,2,1,0],QD (Qt 41 32 (.bin .eql (Qu 37) (Qu 40))) [18,17,16,15,14,13,12,11,10,9,8,7,6,5,4,3,2,1,0],QD (KM 42 32 41) [19,18,17,16,15,14,13,12,11,10,9,8,7,6,5,4,3,2,1,0],QD (Qm 0 42) [20,19,18,17,16,15,14,13,12,11,10,9,8,7,6,5,4,3,2,1,0]]) .ret)
def Hh:ACode:=(QR [Qm 15 3,Qo 16 (.indexAddr 4 (Qu 15) (Qi 0)),Qw 17 4 16,Qm 18 1,Qw 19 1 2,Qo 20 (.mkIface 41 (Qu 19)),Qo 21 (Qc Gm [(Qu 17),(Qu 18),(Qu 20)]),Qm 4 21] Hg)
def Hi:ACode:=(.seq (.region [Qm 8 1,Qo 9 (.build [(.int .i64 0),(.str []),(.int .i64 0)] [(0,1,(Qi 3)),(2,1,(Qi 5))]),Qo 10 (.buildSlice 1 [(.int .i64 0),(.str []),(.int .i64 0)] [(0,3,(Qu 9))]),Qo 11 (.build [(.str []),.nilslice] [(0,1,(.const (.str [113]))),(1,1,(Qu 10))]),Qo 12 (.buildSlice 1 [(.str []),.nilslice] [(0,2,(Qu 11))]),Qo 13 (Qc YD [(Qu 8),(Qu 12)]),Qo 2 (.alloc [.nilmap]),Qz (.store 1 (Qu 2) (Qu 13))]) (.seq (.region [Qo 14 (Qc VI [(.const (.str [112,40,88,41,32,58,45,32,113,40,88,41,44,32,33,114,40,88,41,46]))]),Qm 3 14]) Hh))
def Hj:ACode:=(QR [Qo 5 (Qc VK []),Qm 1 5] (.seq (QR [Qm 6 1,Qo 7 (.eqv false .ptr (Qu 6) (.const .nilptr))] (QI 7 Ja4 .skip)) Hi))
def YW:AFun:=⟨43,[.tmp 0],(QR [KL 0 false] Hj)⟩
theorem YX:(XTab.of Tryz.prog).code 6=some YW:=by kernel_rfl
def Hk:ACode:=(QR [Qm 6 0,Qo 7 (Qc ZM [(Qu 6),(Qi 1200)]),Qo 8 (Qc Gs [(Qu 7)]),Qm 5 8,KV 9 0 5,KV 10 1 5,Qm 3 9,Qm 4 10] (QR [Qm 11 3,Qm 2 11] .ret))
def YY:AFun:=⟨12,[.tmp 2],(QR [KU 2] Hk)⟩
theorem YZ:(XTab.of Tryz.prog).code 7=some YY:=by kernel_rfl
def Hl:ACode:=(.drawn [QD (Qa 44 1 7) [],QD (Ql 45 44) [0],QD (Qm 46 0) [],QD (Qm 47 6) [],QD (Qx 48 2 46 47) [3,2],QD (Qa 49 1 48) [4,3,2],QD (Ql 50 49) [5,4,3,2],QD (Qm 51 8) [],QD (Qx 52 3 50 51) [7,6,5,4,3,2],QD (Qw 53 3 52) [8,7,6,5,4,3,2],QE (Qo 54 (Qc Gt [(Qu 53)])) [9,8,7,6,5,4,3,2],QE (Qo 55 (.buildSlice 1 [(.int .i64 0),(.str []),(.int .i64 0)] [(0,3,(Qu 54))])) [10,9,8,7,6,5,4,3,2],QE (KX 56 3 32 45 55) [11,10,9,8,7,6,5,4,3,2,1,0],QD (Qa 57 1 7) [12,11,10,9,8,7,6,5,4,3,2,1,0],QE (Qz (.store 1 (Qu 57) (Qu 56))) [13,12,11,10,9,8,7,6,5,4,3,2,1,0]])
def ZS:ACode:=(.seq (QR [Qm 30 8,Qm 31 0,Qm 32 6,Qx 33 2 31 32,Qa 34 1 33,Ql 35 34,Qe 36 35,Qs 37 30 36,Qm 38 37,Fs 39 38 8,Qt 40 38 (.bin .lss (Qu 39) (Qi 4)),KM 41 38 40] (QI 41 .skip (.exit 2))) (.seq (.block 3 Hl) (.region [Qm 42 8,Qd 43 42,Qm 8 43])))
def ZT:ACode:=(.region [Qm 66 9,Qm 67 66,Fs 68 67 5,Fs 69 67 10,KY 70 67 2 68 69,KQ 71 67 0 70,KO 72 67 1 71,KQ 73 67 0 7,KO 74 67 1 73,Qt 75 67 (.bin .neq (Qu 72) (Qu 74)),Fs 76 67 75,Fu 77 76 5,Fu 78 76 10,Qf 79 76 (.indexAddr 2 (Qu 77) (Qu 78)),KR 80 76 1 79,KP 81 76 1 80,Qf 82 76 (.lenSl (Qu 81)),KR 83 76 1 7,KP 84 76 1 83,Qf 85 76 (.lenSl (Qu 84)),Qf 86 76 (.bin .eql (Qu 82) (Qu 85)),Qt 87 67 (.pick (Qu 76) (Qb true) (Qu 86)),KM 88 67 87,Qm 9 88])
def JY:ACode:=(.seq (QR [Qm 60 10,Qm 61 5,Qe 62 61,Qs 63 60 62] (QI 63 .skip (.exit 4))) (.seq (.block 5 ZT) (.region [Qm 64 10,Qd 65 64,Qm 10 65])))
def Hm:ACode:=(.region [Qm 90 5,Qw 91 2 7,Qo 92 (.buildSlice 1 [(.str []),.nilslice] [(0,2,(Qu 91))]),KX 93 2 40 90 92,Qm 5 93])
def Hn:ACode:=(QR [Qw 58 2 7,Qo 59 (Qc Gu [(Qu 58)]),Qm 9 59] (.seq (QR [KJ 10 0] (.block 4 (.loop JY))) (QR [Qm 89 9] (QI 89 Hm .skip))))
def Ho:ACode:=(.seq (.region [Qm 23 0,Qm 24 6,Qx 25 2 23 24,Qa 26 0 25,Ql 27 26,Qo 28 (Qc ZM [(Qu 27),(Qi 16)]),Qo 29 (.build [(.str []),.nilslice] [(0,1,(Qu 28))]),Qo 7 (.alloc [(.str []),.nilslice]),Qz (.store 2 (Qu 7) (Qu 29))]) (.seq (QR [KJ 8 0] (.block 2 (.loop ZS))) Hn))
def Y0:ACode:=(.seq (QR [Qm 11 6,Qm 12 0,Qe 13 12,Qs 14 11 13,Qm 15 14,Fs 16 15 5,Qt 17 15 (.lenSl (Qu 16)),Fs 18 15 1,Qt 19 15 (.bin .lss (Qu 17) (Qu 18)),KM 20 15 19] (QI 20 .skip (.exit 0))) (.seq (.block 1 Ho) (.region [Qm 21 6,Qd 22 21,Qm 6 22])))
def Y1:AFun:=⟨95,[.tmp 4],(QR [KU 4] (QR [KU 5] (.seq (QR [KJ 6 0] (.block 0 (.loop Y0))) (QR [Qm 94 5,Qm 4 94] .ret))))⟩
theorem Y2:(XTab.of Tryz.prog).code 8=some Y1:=by kernel_rfl
def Hp:ACode:=(.region [Qm 39 3,Qm 12 39])
def Hq:ACode:=(.region [Qm 70 13,Qm 71 16,Qo 72 (.buildSlice 1 [.nilslice] [(0,1,(Qu 71))]),KX 73 1 24 70 72,Qm 13 73])
def Hr:ACode:=(QR [Qa 53 3 4,Ql 54 53,Qm 55 11,Qx 56 3 54 55,Qw 57 3 56,Qm 58 12,Qm 59 15,Qx 60 2 58 59,Qw 61 2 60,Qm 62 10,Qm 63 14,Qx 64 1 62 63,Ql 65 64,Qo 66 (Qc Gv [(Qu 57),(Qu 61),(Qu 65)]),Qm 52 66,KV 67 0 52,KV 68 1 52,Qm 16 67,Qm 17 68] (QR [Qm 69 17] (QI 69 Hq .skip)))
def Y3:ACode:=(.seq (QR [Qm 46 15,Qm 47 12,Qe 48 47,Qs 49 46 48] (QI 49 .skip (.exit 4))) (.seq (.block 5 Hr) (.region [Qm 50 15,Qd 51 50,Qm 15 51])))
def Hs:ACode:=(QR [KU 8,KL 9 false] .ret)
def Ht:ACode:=(.seq (QR [KJ 15 0] (.block 4 (.loop Y3))) (QR [Qm 74 13,Qe 75 74,Qo 76 (.bin .gtr (Qu 75) (Qi 4000))] (QI 76 Hs .skip)))
def ZU:ACode:=(.seq (QR [Qm 40 14,Qm 41 10,Qe 42 41,Qs 43 40 42] (QI 43 .skip (.exit 2))) (.seq (.block 3 Ht) (.region [Qm 44 14,Qd 45 44,Qm 14 45])))
def V4:ACode:=(.seq (QR [Qm 36 11,Qm 37 2,Qo 38 (.bin .eql (Qu 36) (Qu 37))] (QI 38 Hp .skip)) (QR [KU 13] (.seq (QR [KJ 14 0] (.block 2 (.loop ZU))) (.region [Qm 77 13,Qm 10 77]))))
def Y4:ACode:=(.seq (QR [Qa 28 3 4,Ql 29 28,Qm 30 11,Qx 31 3 29 30,Qa 32 0 31,Ql 33 32,Qo 34 (.bin .neq (Qu 33) (Qi 1))] (QI 34 (.exit 1) .skip)) (QR [Qm 35 1,Qm 12 35] V4))
def ZV:ACode:=(.seq (QR [Qm 21 11,Qa 22 3 4,Ql 23 22,Qe 24 23,Qs 25 21 24] (QI 25 .skip (.exit 0))) (.seq (.block 1 Y4) (.region [Qm 26 11,Qd 27 26,Qm 11 27])))
def Hu:ACode:=(.region [Qm 92 18,Qa 93 0 4,Qw 94 3 93,Qm 95 10,Qm 96 19,Qx 97 1 95 96,Ql 98 97,Qo 99 (Qc VO [(Qu 94),(Qu 98)]),Qo 100 (Qc VN [(Qu 92),(Qu 99)]),Qm 91 100,KV 101 0 91,KV 102 1 91,Qm 18 101])
def Hv:ACode:=(QR [Qw 84 4 4,Qm 85 1,Qm 86 10,Qm 87 19,Qx 88 1 86 87,Ql 89 88,Qo 90 (Qc Gw [(Qu 84),(Qu 85),(Qu 89)])] (QI 90 Hu .skip))
def V5:ACode:=(.seq (QR [Qm 78 19,Qm 79 10,Qe 80 79,Qs 81 78 80] (QI 81 .skip (.exit 6))) (.seq (.block 7 Hv) (.region [Qm 82 19,Qd 83 82,Qm 19 83])))
def Hw:ACode:=(QR [KU 18] (.seq (QR [KJ 19 0] (.block 6 (.loop V5))) (QR [Qm 103 18,Qm 8 103,KL 9 true] .ret)))
def Zm:AFun:=⟨104,[.tmp 8,.tmp 9],(QR [KW 4 0,KU 8,KL 9 false] (QR [Qo 20 (.buildSlice 1 [.nilslice] [(0,1,(.const .nilslice))]),Qm 10 20] (.seq (QR [KJ 11 0] (.block 0 (.loop ZV))) Hw)))⟩
theorem Y5:(XTab.of Tryz.prog).code 9=some Zm:=by kernel_rfl
def Y6:AFun:=⟨4,[.tmp 0],(QR [Qo 0 (.mov (.const .nilptr))] (QR [Qo 1 .mkMap,Qo 2 (.build [.nilmap,.nilslice] [(0,1,(Qu 1))]),KW 3 2,Qm 0 3] .ret))⟩
theorem Y7:(XTab.of Tryz.prog).code 10=some Y6:=by kernel_rfl
def Hx:ACode:=(QR [Qw 7 4 3,Qm 8 1,Qm 9 2,Qo 10 (Qc VP [(Qu 7),(Qu 8),(Qu 9),(.const (.int .i64 (-1))),(.const .nilptr),(.const (.int .i64 (-1)))]),Qm 6 10] .ret)
def ZW:AFun:=⟨11,[.tmp 6],(QR [KW 3 0,KU 6] Hx)⟩
theorem Y8:(XTab.of Tryz.prog).code 11=some ZW:=by kernel_rfl
def Hy:ACode:=(.drawn [QD (Qa 26 0 5) [],QD (Ql 27 26) [0],QD (Qm 28 1) [],QD (Qm 29 6) [],QD (Qx 30 2 28 29) [3,2],QD (Qa 31 0 30) [4,3,2],QD (Ql 32 31) [5,4,3,2],QD (Qm 33 1) [],QD (Qm 34 6) [],QD (Qx 35 2 33 34) [8,7],QD (Qa 36 1 35) [9,8,7],QD (Ql 37 36) [10,9,8,7],QD (Qe 38 37) [11,10,9,8,7],QE (Qo 39 (Qc ZL [(Qu 38)])) [12,11,10,9,8,7],QE (Qz (.mapUpdate (.scalar .str) (Qu 27) (Qu 32) (Qu 39))) [13,12,11,10,9,8,7,6,5,4,3,2,1,0]])
def Hz:ACode:=(.region [Qm 50 7,Qm 51 0,Qm 52 1,Qm 53 6,Qx 54 2 52 53,Qa 55 1 54,Ql 56 55,Qm 57 8,Qx 58 3 56 57,Qw 59 3 58,Qo 60 (Qc Ze [(Qu 51),(Qu 59)]),Qo 61 (.buildSlice 1 [(.int .i64 0)] [(0,1,(Qu 60))]),KX 62 1 8 50 61,Qm 7 62])
def ZX:ACode:=(.seq (QR [Qm 40 8,Qm 41 1,Qm 42 6,Qx 43 2 41 42,Qa 44 1 43,Ql 45 44,Qe 46 45,Qs 47 40 46] (QI 47 .skip (.exit 2))) (.seq (.block 3 Hz) (.region [Qm 48 8,Qd 49 48,Qm 8 49])))
def Y9:ACode:=(.region [Qa 63 0 5,Ql 64 63,Qm 65 1,Qm 66 6,Qx 67 2 65 66,Qa 68 0 67,Ql 69 68,Qo 70 (.lookup (.scalar .str) .nilptr false (Qu 64) (Qu 69)),Qm 71 7,Qo 72 (Qc VQ [(Qu 70),(Qu 71)])])
def V6:ACode:=(.seq (QR [Qa 17 0 5,Ql 18 17,Qm 19 1,Qm 20 6,Qx 21 2 19 20,Qa 22 0 21,Ql 23 22,Qo 24 (.lookup (.scalar .str) .nilptr false (Qu 18) (Qu 23)),Qo 25 (.eqv false .ptr (Qu 24) (.const .nilptr))] (QI 25 Hy .skip)) (QR [KU 7] (.seq (QR [KJ 8 0] (.block 2 (.loop ZX))) Y9)))
def ZY:ACode:=(.seq (QR [Qm 11 6,Qm 12 1,Qe 13 12,Qs 14 11 13] (QI 14 .skip (.exit 0))) (.seq (.block 1 V6) (.region [Qm 15 6,Qd 16 15,Qm 6 16])))
def HA:ACode:=(QR [Qo 9 .mkMap,Qo 10 (.build [.nilmap] [(0,1,(Qu 9))]),Qo 5 (.alloc [.nilmap]),Qz (.store 1 (Qu 5) (Qu 10))] (.seq (QR [KJ 6 0] (.block 0 (.loop ZY))) (QR [Qw 73 1 5,Qz (.store 1 (Qu 4) (Qu 73))] .ret)))
def ZZ:AFun:=⟨74,[.cell 4 1 true],(QR [Qo 4 (.alloc [.nilmap])] HA)⟩
theorem Xa:(XTab.of Tryz.prog).code 12=some ZZ:=by kernel_rfl
def V7:ACode:=(QR [KL 2 false] .ret)
def Z0:ACode:=(QR [Qm 28 3,Qm 29 4,Qx 30 3 28 29,Qa 31 2 30,Ql 32 31,Qm 33 5,Qx 34 3 32 33,Qa 35 0 34,Ql 36 35,KT 37 36 1,Qm 38 37,Fs 39 38 4,Qt 40 38 (.bin .eql (Qu 39) (Qi 0)),Fs 41 38 40,Fu 42 41 3,Fu 43 41 4,Qf 44 41 (.indexAddr 3 (Qu 42) (Qu 43)),KR 45 41 0 44,KP 46 41 1 45,Qf 47 41 (.bin .neq (Qu 46) (Qi 1)),Qt 48 38 (.pick (Qu 41) (Qb true) (Qu 47)),KM 49 38 48,Qm 50 49,Qt 51 50 (.load 4 true (Qu 1)),Fs 52 50 3,Fs 53 50 4,KY 54 50 3 52 53,KQ 55 50 2 54,KO 56 50 1 55,Fs 57 50 5,KY 58 50 3 56 57,KQ 59 50 1 58,KO 60 50 1 59,Qt 61 50 (Qc Gx [(Qu 51),(Qu 60)]),Qt 62 50 (.un .not (Qu 61)),KM 63 50 62] (QI 63 V7 .skip))
def Zn:ACode:=(.seq (QR [Qm 18 5,Qm 19 3,Qm 20 4,Qx 21 3 19 20,Qa 22 2 21,Ql 23 22,Qe 24 23,Qs 25 18 24] (QI 25 .skip (.exit 2))) (.seq (.block 3 Z0) (.region [Qm 26 5,Qd 27 26,Qm 5 27])))
def V8:ACode:=(.seq (QR [Qm 12 4,Qm 13 3,Qe 14 13,Qs 15 12 14] (QI 15 .skip (.exit 0))) (.seq (.block 1 (QR [KJ 5 0] (.block 2 (.loop Zn)))) (.region [Qm 16 4,Qd 17 16,Qm 4 17])))
def HB:ACode:=(.seq (.region [Qa 6 0 1,Qw 7 3 6,Qo 8 (.buildSlice 1 [(.int .i64 0),(.str []),.nilslice] [(0,3,(Qu 7))]),Qa 9 3 1,Ql 10 9,KX 11 3 48 8 10,Qm 3 11]) (.seq (QR [KJ 4 0] (.block 0 (.loop V8))) (QR [KL 2 true] .ret)))
def Zo:AFun:=⟨64,[.tmp 2],(QR [KW 1 0,KL 2 false] HB)⟩
theorem Xb:(XTab.of Tryz.prog).code 13=some Zo:=by kernel_rfl
def HC:ACode:=(QR [Qm 47 0,Qm 48 3,Qo 49 (.bin .sub (Qu 48) (Qi 1)),Qx 50 1 47 49,Ql 51 50,Qm 52 5,Qx 53 1 51 52,Ql 54 53,Qm 55 0,Qm 56 3,Qx 57 1 55 56,Ql 58 57,Qm 59 5,Qx 60 1 58 59,Ql 61 60,Qs 62 54 61,Qm 4 62] (.exit 2))
def V9:ACode:=(QR [Qm 31 0,Qm 32 3,Qo 33 (.bin .sub (Qu 32) (Qi 1)),Qx 34 1 31 33,Ql 35 34,Qm 36 5,Qx 37 1 35 36,Ql 38 37,Qm 39 0,Qm 40 3,Qx 41 1 39 40,Ql 42 41,Qm 43 5,Qx 44 1 42 43,Ql 45 44,Qo 46 (.bin .neq (Qu 38) (Qu 45))] (QI 46 HC .skip))
def Ua:ACode:=(.seq (QR [Qm 12 5,Qm 13 0,Qm 14 3,Qx 15 1 13 14,Ql 16 15,Qe 17 16,Qs 18 12 17,Qm 19 18,Fs 20 19 5,Fs 21 19 0,Fs 22 19 3,Qt 23 19 (.bin .sub (Qu 22) (Qi 1)),KY 24 19 1 21 23,KO 25 19 1 24,Qt 26 19 (.lenSl (Qu 25)),Qt 27 19 (.bin .lss (Qu 20) (Qu 26)),KM 28 19 27] (QI 28 .skip (.exit 2))) (.seq (.block 3 V9) (.region [Qm 29 5,Qd 30 29,Qm 5 30])))
def Ja5:ACode:=(QR [KL 2 false] .ret)
def HD:ACode:=(QR [KL 4 false] (.seq (QR [KJ 5 0] (.block 2 (.loop Ua))) (QR [Qm 63 4,Qh 64 63] (QI 64 Ja5 .skip))))
def Ub:ACode:=(.seq (QR [Qm 6 3,Qm 7 0,Qe 8 7,Qs 9 6 8] (QI 9 .skip (.exit 0))) (.seq (.block 1 HD) (.region [Qm 10 3,Qd 11 10,Qm 3 11])))
def Xc:AFun:=⟨65,[.tmp 2],(QR [KL 2 false] (.seq (QR [KJ 3 1] (.block 0 (.loop Ub))) (QR [KL 2 true] .ret)))⟩
theorem Xd:(XTab.of Tryz.prog).code 14=some Xc:=by kernel_rfl
def HE:ACode:=(QR [KL 4 false] .ret)
def HF:ACode:=(QR [KL 4 false] .ret)
def HG:ACode:=(QR [Qm 17 0,Qm 18 5,Qx 19 2 17 18,Qw 20 2 19,Qm 21 1,Qm 22 5,Qx 23 2 21 22,Qw 24 2 23,Qo 25 (Qc YE [(Qu 20),(Qu 24)]),Qh 26 25] (QI 26 HF .skip))
def Uc:ACode:=(.seq (QR [Qm 11 5,Qm 12 0,Qe 13 12,Qs 14 11 13] (QI 14 .skip (.exit 0))) (.seq (.block 1 HG) (.region [Qm 15 5,Qd 16 15,Qm 5 16])))
def Ud:ACode:=(.seq (QR [Qm 6 0,Qe 7 6,Qm 8 1,Qe 9 8,Qo 10 (.bin .neq (Qu 7) (Qu 9))] (QI 10 HE .skip)) (.seq (QR [KJ 5 0] (.block 0 (.loop Uc))) (QR [KL 4 true] .ret)))
def JZ:AFun:=⟨27,[.tmp 4],(QR [KL 4 false] Ud)⟩
theorem Xe:(XTab.of Tryz.prog).code 15=some JZ:=by kernel_rfl
def HH:ACode:=(.drawn [QD (Qa 28 1 9) [],QD (Ql 29 28) [0],QD (Qm 30 0) [],QD (Qm 31 2) [],QD (Qm 32 8) [],QD (Qx 33 1 31 32) [4,3],QD (Ql 34 33) [5,4,3],QD (Qm 35 10) [],QD (Qx 36 1 34 35) [7,6,5,4,3],QD (Ql 37 36) [8,7,6,5,4,3],QE (Qo 38 (Qc VS [(Qu 30),(Qu 37)])) [9,8,7,6,5,4,3,2],QE (Qo 39 (.buildSlice 1 [(.int .i64 0),(.str []),(.int .i64 0)] [(0,3,(Qu 38))])) [10,9,8,7,6,5,4,3,2],QE (KX 40 3 32 29 39) [11,10,9,8,7,6,5,4,3,2,1,0],QD (Qa 41 1 9) [12,11,10,9,8,7,6,5,4,3,2,1,0],QE (Qz (.store 1 (Qu 41) (Qu 40))) [13,12,11,10,9,8,7,6,5,4,3,2,1,0]])
def Xf:ACode:=(.seq (QR [Qm 19 10,Qm 20 2,Qm 21 8,Qx 22 1 20 21,Ql 23 22,Qe 24 23,Qs 25 19 24] (QI 25 .skip (.exit 2))) (.seq (.block 3 HH) (.region [Qm 26 10,Qd 27 26,Qm 10 27])))
def HI:ACode:=(.region [Qm 43 7,Qw 44 2 9,Qo 45 (Qc VN [(Qu 43),(Qu 44)]),Qm 42 45,KV 46 0 42,KV 47 1 42,Qm 7 46])
def HJ:ACode:=(.seq (.region [Qm 17 1,Qo 18 (.build [(.str []),.nilslice] [(0,1,(Qu 17))]),Qo 9 (.alloc [(.str []),.nilslice]),Qz (.store 2 (Qu 9) (Qu 18))]) (.seq (QR [KJ 10 0] (.block 2 (.loop Xf))) HI))
def Ue:ACode:=(.seq (QR [Qm 11 8,Qm 12 2,Qe 13 12,Qs 14 11 13] (QI 14 .skip (.exit 0))) (.seq (.block 1 HJ) (.region [Qm 15 8,Qd 16 15,Qm 8 16])))
def Xg:AFun:=⟨49,[.tmp 6],(QR [KU 6] (QR [KU 7] (.seq (QR [KJ 8 0] (.block 0 (.loop Ue))) (QR [Qm 48 7,Qm 6 48] .ret))))⟩
theorem Xh:(XTab.of Tryz.prog).code 16=some Xg:=by kernel_rfl
def HK:ACode:=(QR [KU 10] .ret)
def HL:ACode:=(QR [Qw 13 4 5,Qm 14 1,Qm 15 2,Qm 16 3,Qm 17 4,Qo 18 (Qc VP [(Qu 13),(Qu 14),(Qu 15),(Qu 16),(Qu 17),(.const (.int .i64 (-1)))]),Qm 10 18] .ret)
def J0:AFun:=⟨19,[.tmp 10],(QR [KW 5 0,KU 10] (.seq (QR [Qm 11 3,Qo 12 (.bin .lss (Qu 11) (Qi 0))] (QI 12 HK .skip)) HL))⟩
theorem Xi:(XTab.of Tryz.prog).code 17=some J0:=by kernel_rfl
section
open Go.AE
def Xj:AFun:=⟨12,[.tmp 2],(QR [Qo 2 (.mov (.const .nilptr))] (.seq (QR [Qm 3 0,Qo 4 (.bin .lss (Qu 3) (Qi 0)),Qm 5 4,Fu 6 5 0,Qf 7 5 (.bin .gtr (Qu 6) (Qi 4)),KN 8 5 7] (QI 8 (QR [Qo 2 (.mov (.const .nilptr))] .ret) .skip)) (QR [Qm 9 0,Qo 10 (.build [(.int .i64 0),.nilslice] [(0,1,(Qu 9))]),KW 11 10,Qm 2 11] .ret)))⟩
theorem Xk:(XTab.of Tryz.prog).code 18=some Xj:=by kernel_rfl
def HM:ACode:=(QR [Qm 17 5,KU 2,Qm 3 17] .ret)
def HN:ACode:=(.region [Qm 75 6,Qo 76 (Qc Js [(Qu 75),(Qi 8)])])
def HO:ACode:=(.region [Qm 86 6,Qn 87 86,Qa 88 1 87,Ql 89 88,Qd 90 89,Qn 91 86,Qa 92 1 91,Qz (.store 1 (Qu 92) (Qu 90))])
def Uf:ACode:=(.seq (.region [Qa 77 3 8,Ql 78 77,Qw 79 3 9,Qo 80 (.buildSlice 1 [(.int .i64 0),(.str []),.nilslice] [(0,3,(Qu 79))]),KX 81 3 48 78 80,Qa 82 3 8,Qz (.store 1 (Qu 82) (Qu 81))]) (.seq (.seq (.region [Qm 83 6,Qo 84 (Qc JK [(Qu 83),(.const (.str [44]))]),Qh 85 84]) (QI 85 (.exit 2) .skip)) HO))
def Xl:ACode:=(.seq (QR [Qm 64 6,Qn 65 64,Qa 66 2 65,Ql 67 66,KT 68 67 0,Qm 69 68,KQ 70 69 3 8,KO 71 69 1 70,Qt 72 69 (.lenSl (Qu 71)),Qt 73 69 (.bin .eql (Qu 72) (Qi 6)),KM 74 69 73] (QI 74 HN .skip)) Uf)
def J1:ACode:=(.seq (QR [Qm 57 6,Qn 58 57,Qa 59 2 58,Ql 60 59,KT 61 60 0] (QI 61 .skip (.exit 2))) (.block 3 (.seq (.region [Qm 62 6,Qo 63 (Qc Gz [(Qu 62)]),Qo 9 (.alloc [(.int .i64 0),(.str []),.nilslice]),Qz (.store 3 (Qu 9) (Qu 63))]) Xl)))
def HP:ACode:=(QR [Qm 50 6,Qn 51 50,Qa 52 1 51,Ql 53 52,Qd 54 53,Qn 55 50,Qa 56 1 55,Qz (.store 1 (Qu 56) (Qu 54))] (.block 2 (.loop J1)))
def HQ:ACode:=(.region [Qm 105 6,Qo 106 (Qc Js [(Qu 105),(Qi 8)])])
def Ug:ACode:=(.region [Qm 107 7,Qw 108 4 8,Qo 109 (.buildSlice 1 [(.int .i64 0),(.str []),.nilslice,.nilslice] [(0,4,(Qu 108))]),KX 110 4 72 107 109,Qm 7 110])
def Zp:ACode:=(.seq (QR [Qm 95 6,Qn 96 95,Qa 97 2 96,Ql 98 97,KT 99 98 0,Qm 100 99,Fs 101 100 7,Qt 102 100 (.lenSl (Qu 101)),Qt 103 100 (.bin .eql (Qu 102) (Qi 30)),KM 104 100 103] (QI 104 HQ .skip)) Ug)
def HR:ACode:=(.seq (.seq (.region [Qm 41 6,Qo 42 (Qc JK [(Qu 41),(.const (.str [58,45]))]),Qm 43 42,Fs 44 43 6,Qt 45 43 (.nilCheck (Qu 44)),KQ 46 43 2 45,KO 47 43 1 46,Qt 48 43 (.bin .eql (Qu 47) (Qi 0)),KM 49 43 48]) (QI 49 HP .skip)) (.seq (.region [Qm 93 6,Qo 94 (Qc YG [(Qu 93),(.const (.str [46]))])]) Zp))
def Uh:ACode:=(.seq (.region [Qm 38 6,Qo 39 (Qc YF [(Qu 38)]),Qo 40 (.build [(.int .i64 0),(.str []),.nilslice,.nilslice] [(0,3,(Qu 39))]),Qo 8 (.alloc [(.int .i64 0),(.str []),.nilslice,.nilslice]),Qz (.store 4 (Qu 8) (Qu 40))]) HR)
def JL:ACode:=(.seq (QR [Qm 21 6,Qn 22 21,Qa 23 2 22,Ql 24 23,KT 25 24 0,Qm 26 25,Fs 27 26 6,Qt 28 26 (.nilCheck (Qu 27)),KQ 29 26 1 28,KO 30 26 1 29,Fs 31 26 6,Qt 32 26 (.nilCheck (Qu 31)),KQ 33 26 0 32,KO 34 26 1 33,Qt 35 26 (.lenSl (Qu 34)),Qt 36 26 (.bin .lss (Qu 30) (Qu 35)),KM 37 26 36] (QI 37 .skip (.exit 0))) (.block 1 Uh))
def HS:ACode:=(QR [Qm 119 6,Qn 120 119,Qa 121 2 120,Ql 122 121,KU 2,Qm 3 122] .ret)
def Ui:ACode:=(.seq (QR [Qm 114 6,Qn 115 114,Qa 116 2 115,Ql 117 116,Qo 118 (.bin .neq (Qu 117) (Qi 0))] (QI 118 HS .skip)) (QR [Qm 123 7,Qm 2 123,KJ 3 0] .ret))
def HT:ACode:=(QR [KU 7] (.seq (.block 0 (.loop JL)) (QR [Qm 111 6,Qm 112 5,Qo 113 (Qc Js [(Qu 111),(Qu 112)])] Ui)))
def Uj:ACode:=(.seq (QR [Qm 15 5,KT 16 15 8] (QI 16 HM .skip)) (QR [Qm 18 4,Qo 19 (.build [.nilslice,(.int .i64 0),(.int .i64 0)] [(0,1,(Qu 18))]),KW 20 19,Qm 6 20] HT))
def HU:ACode:=(QR [Qm 11 0,Qo 12 (Qc Gy [(Qu 11)]),Qm 10 12,KV 13 0 10,KV 14 1 10,Qm 4 13,Qm 5 14] Uj)
def Zq:AFun:=⟨124,[.tmp 2,.tmp 3],(QR [KU 2,KJ 3 0] HU)⟩
theorem Xm:(XTab.of Tryz.prog).code 20=some Zq:=by kernel_rfl
def Jt:AFun:=⟨13,[.tmp 4],(QR [Qo 4 (.mov (.const (.str [])))] (.seq (QR [Qm 5 0,Qo 6 (.lenStr (Qu 5)),Qm 7 1,Qo 8 (.bin .gtr (Qu 6) (Qu 7))] (QI 8 (QR [Qm 9 0,Qm 10 1,Qo 11 (.sliceStr (Qu 9) none (some (Qu 10))),Qm 4 11] .ret) .skip)) (QR [Qm 12 0,Qm 4 12] .ret)))⟩
theorem Z1:(XTab.of Tryz.prog).code 21=some Jt:=by kernel_rfl
def HV:ACode:=(.seq (.drawn [QD (Qm 25 0) [],QD (Qm 26 0) [],QD (Qn 27 26) [1],QD (Qa 28 1 27) [2,1],QD (Ql 29 28) [3,2,1],QD (Qw 30 3 3) [],QE (Qo 31 (.buildSlice 1 [(.int .i64 0),(.str []),(.int .i64 0)] [(0,3,(Qu 30))])) [5],QE (KX 32 3 32 29 31) [6,5,4,3,2,1],QD (Qn 33 25) [7,6,5,4,3,2,1,0],QD (Qa 34 1 33) [8,7,6,5,4,3,2,1,0],QE (Qz (.store 1 (Qu 34) (Qu 32))) [9,8,7,6,5,4,3,2,1,0]]) (QR [Qm 35 0,Qn 36 35,Qa 37 1 36,Ql 38 37,Qe 39 38,Qm 5 39] (.region [Qm 40 0,Qn 41 40,Qa 42 0 41,Ql 43 42,Qw 44 3 3,Qm 45 5,Qz (.mapUpdate (.cells [.int,.str,.int]) (Qu 43) (Qu 44) (Qu 45))])))
def Zr:AFun:=⟨47,[.tmp 4],(QR [KW 3 1,KJ 4 0] (.seq (QR [Qm 7 0,Qo 8 (.eqv false .ptr (Qu 7) (.const .nilptr)),Qm 9 8,Qf 10 9 (.load 3 true (Qu 3)),Qf 11 9 (Qc GA [(Qu 10)]),Qf 12 9 (.un .not (Qu 11)),KN 13 9 12] (QI 13 (QR [KJ 4 0] .ret) .skip)) (QR [Qm 15 0,Qn 16 15,Qa 17 0 16,Ql 18 17,Qw 19 3 3,Qo 20 (.lookup (.cells [.int,.str,.int]) (.int .i64 0) true (Qu 18) (Qu 19)),Qm 14 20,KV 21 0 14,KV 22 1 14,Qm 5 21,Qm 6 22] (.seq (QR [Qm 23 6,Qh 24 23] (QI 24 HV .skip)) (QR [Qm 46 5,Qm 4 46] .ret)))))⟩
theorem Xn:(XTab.of Tryz.prog).code 26=some Zr:=by kernel_rfl
def Xo:AFun:=⟨8,[.cell 2 3 true],(.seq (.region [KW 1 0,Qo 2 (.alloc [(.int .i64 0),(.str []),(.int .i64 0)])]) (QR [Qa 3 1 1,Ql 4 3,Qo 5 (Qc ZM [(Qu 4),(Qi 20)]),Qa 6 1 1,Qz (.store 1 (Qu 6) (Qu 5))] (QR [Qw 7 3 1,Qz (.store 3 (Qu 2) (Qu 7))] .ret)))⟩
theorem Xp:(XTab.of Tryz.prog).code 27=some Xo:=by kernel_rfl
def HW:ACode:=(QR [KL 2 false] .ret)
def HX:ACode:=(QR [Qa 11 1 1,Ql 12 11,Qm 13 3,Qx 14 3 12 13,Qw 15 3 14,Qo 16 (Qc GB [(Qu 15)]),Qh 17 16] (QI 17 HW .skip))
def Uk:ACode:=(.seq (QR [Qm 4 3,Qa 5 1 1,Ql 6 5,Qe 7 6,Qs 8 4 7] (QI 8 .skip (.exit 0))) (.seq (.block 1 HX) (.region [Qm 9 3,Qd 10 9,Qm 3 10])))
def HY:ACode:=(QR [Qa 18 0 1,Ql 19 18,Qo 20 (Qc VT [(Qu 19)]),Qm 21 20,KQ 22 21 1 1,KO 23 21 1 22,Qt 24 21 (.lenSl (Qu 23)),Qt 25 21 (.bin .leq (Qu 24) (Qi 4)),KM 26 21 25,Qm 2 26] .ret)
def J2:AFun:=⟨27,[.tmp 2],(QR [KW 1 0,KL 2 false] (.seq (QR [KJ 3 0] (.block 0 (.loop Uk))) HY))⟩
theorem Xq:(XTab.of Tryz.prog).code 28=some J2:=by kernel_rfl
def Ul:ACode:=(QR [Qm 26 2,Qm 6 26,KL 7 false] .ret)
def HZ:ACode:=(.seq (.region [Qm 48 8,Qa 49 2 3,Ql 50 49,Qm 51 9,Qx 52 3 50 51,Qa 53 1 52,Ql 54 53,Qa 55 1 4,Ql 56 55,Qm 57 9,Qx 58 3 56 57,Qw 59 3 58,Qo 60 (.build [(.str []),(.int .i64 0),(.str []),(.int .i64 0)] [(0,1,(Qu 54)),(1,3,(Qu 59))]),Qo 61 (.buildSlice 1 [(.str []),(.int .i64 0),(.str []),(.int .i64 0)] [(0,4,(Qu 60))]),KX 62 4 48 48 61,Qm 8 62]) (.exit 1))
def H0:ACode:=(QR [Qm 71 2,Qm 6 71,KL 7 false] .ret)
def H1:ACode:=(QR [Qw 63 3 10,Qa 64 1 4,Ql 65 64,Qm 66 9,Qx 67 3 65 66,Qw 68 3 67,Qo 69 (Qc ZO [(Qu 63),(Qu 68)]),Qh 70 69] (QI 70 H0 .skip))
def H2:ACode:=(.seq (.region [Qa 37 2 3,Ql 38 37,Qm 39 9,Qx 40 3 38 39,Qw 41 3 40,Qm 42 8,Qo 43 (Qc ZN [(Qu 41),(Qu 42)]),Qm 36 43,KV 44 0 36,KV 45 1 36,Qo 10 (.alloc [(.int .i64 0),(.str []),(.int .i64 0)]),Qz (.store 3 (Qu 10) (Qu 44)),Qm 11 45]) (.seq (QR [Qm 46 11,Qh 47 46] (QI 47 HZ .skip)) H1))
def Um:ACode:=(.seq (QR [Qm 29 9,Qa 30 2 3,Ql 31 30,Qe 32 31,Qs 33 29 32] (QI 33 .skip (.exit 0))) (.seq (.block 1 H2) (.region [Qm 34 9,Qd 35 34,Qm 9 35])))
def H3:ACode:=(QR [Qm 27 2,Qo 28 (.append 4 48 (.const .nilslice) (Qu 27)),Qm 8 28] (.seq (QR [KJ 9 0] (.block 0 (.loop Um))) (QR [Qm 72 8,Qm 6 72,KL 7 true] .ret)))
def Xr:ACode:=(.seq (QR [Qa 12 1 3,Ql 13 12,Qa 14 0 4,Ql 15 14,Qo 16 (.bin .neq (Qu 13) (Qu 15)),Qm 17 16,KR 18 17 2 3,KP 19 17 1 18,Qf 20 17 (.lenSl (Qu 19)),KR 21 17 1 4,KP 22 17 1 21,Qf 23 17 (.lenSl (Qu 22)),Qf 24 17 (.bin .neq (Qu 20) (Qu 23)),KN 25 17 24] (QI 25 Ul .skip)) H3)
def JC:AFun:=⟨73,[.tmp 6,.tmp 7],(QR [KW 3 0,KW 4 1,KU 6,KL 7 false] Xr)⟩
theorem Xs:(XTab.of Tryz.prog).code 29=some JC:=by kernel_rfl
def H4:ACode:=(QR [KL 6 false] .ret)
def H5:ACode:=(QR [KL 6 false] .ret)
def H6:ACode:=(QR [Qa 45 0 8,Ql 46 45,Qw 47 3 9,Qw 48 3 11,Qo 49 (Qc GD [(Qu 46),(Qu 47),(Qu 48)]),Qh 50 49] (QI 50 H5 .skip))
def H7:ACode:=(.seq (.region [Qa 37 2 8,Ql 38 37,Qo 39 (.indexAddr 3 (Qu 38) (Qi 1)),Qw 40 3 39,Qm 41 2,Qo 42 (Qc ZN [(Qu 40),(Qu 41)]),Qm 36 42,KV 43 0 36,KV 44 1 36,Qo 11 (.alloc [(.int .i64 0),(.str []),(.int .i64 0)]),Qz (.store 3 (Qu 11) (Qu 43)),Qm 12 44]) H6)
def H8:ACode:=(QR [Qm 55 1,Qw 56 3 8,Qm 57 2,Qo 58 (Qc VO [(Qu 56),(Qu 57)]),Qo 59 (Qc GC [(Qu 55),(Qu 58)])] (QI 59 H4 .skip))
def H9:ACode:=(.seq (.region [Qa 28 2 8,Ql 29 28,Qo 30 (.indexAddr 3 (Qu 29) (Qi 0)),Qw 31 3 30,Qm 32 2,Qo 33 (Qc ZN [(Qu 31),(Qu 32)]),Qm 27 33,KV 34 0 27,KV 35 1 27,Qo 9 (.alloc [(.int .i64 0),(.str []),(.int .i64 0)]),Qz (.store 3 (Qu 9) (Qu 34)),Qm 10 35]) H7)
def Un:ACode:=(QR [KT 54 26 2,Qm 53 54] (QI 53 H8 H9))
def Xt:ACode:=(QR [Qa 25 0 8,Ql 26 25] (.block 2 (QR [KT 52 26 1,Qm 51 52] (QI 51 .skip Un))))
def Xu:ACode:=(.seq (.region [Qa 20 3 3,Ql 21 20,Qm 22 7,Qx 23 3 21 22,Qw 24 3 23,Qo 8 (.alloc [(.int .i64 0),(.str []),.nilslice]),Qz (.store 3 (Qu 8) (Qu 24))]) Xt)
def Z2:ACode:=(.seq (QR [Qm 13 7,Qa 14 3 3,Ql 15 14,Qe 16 15,Qs 17 13 16] (QI 17 .skip (.exit 0))) (.seq (.block 1 Xu) (.region [Qm 18 7,Qd 19 18,Qm 7 19])))
def Zs:AFun:=⟨60,[.tmp 6],(QR [KW 3 0,KL 6 false] (.seq (QR [KJ 7 0] (.block 0 (.loop Z2))) (QR [KL 6 true] .ret)))⟩
theorem Xv:(XTab.of Tryz.prog).code 30=some Zs:=by kernel_rfl
def Uo:ACode:=(.seq (QR [Qm 7 6,Qm 8 0,Qe 9 8,Qs 10 7 9,Qm 11 10,Fs 12 11 0,Fs 13 11 6,KY 14 11 2 12 13,Qt 15 11 (.load 2 true (Qu 14)),Qt 16 11 (.load 2 true (Qu 3)),Qt 17 11 (Qc YH [(Qu 15),(Qu 16)]),KM 18 11 17] (QI 18 .skip (.exit 0))) (.block 1 (.region [Qm 19 6,Qd 20 19,Qm 6 20])))
def Pa:ACode:=(QR [Qm 33 0,Qm 4 33,KL 5 false] .ret)
def Xw:ACode:=(.seq (.drawn [QD (Qm 34 0) [],QD (Qm 35 6) [],QD (Qm 36 6) [],QD (Qo 37 (.slice 2 (Qu 34) none (some (Qu 35)) (some (Qu 36)))) [2,1,0],QD (Qw 38 2 3) [],QE (Qo 39 (.buildSlice 1 [(.str []),.nilslice] [(0,2,(Qu 38))])) [4],QD (Qm 40 0) [],QD (Qm 41 6) [],QD (Qo 42 (.slice 2 (Qu 40) (some (Qu 41)) none none)) [7,6],QE (KX 43 2 40 39 42) [8,7,6,5,4],QE (KX 44 2 40 37 43) [9,8,7,6,5,4,3,2,1,0],QD (Qm 4 44) [10,9,8,7,6,5,4,3,2,1,0],QD (KL 5 true) [11,10,9,8,7,6,5,4,3,2,1,0]]) .ret)
def Up:ACode:=(.seq (QR [Qm 21 6,Qm 22 0,Qe 23 22,Qs 24 21 23,Qm 25 24,Fs 26 25 0,Fs 27 25 6,KY 28 25 2 26 27,Qt 29 25 (.load 2 true (Qu 28)),Qt 30 25 (.load 2 true (Qu 3)),Qt 31 25 (Qc YE [(Qu 29),(Qu 30)]),KM 32 25 31] (QI 32 Pa .skip)) Xw)
def J3:AFun:=⟨45,[.tmp 4,.tmp 5],(QR [KW 3 1,KU 4,KL 5 false] (QR [KJ 6 0] (.seq (.block 0 (.loop Uo)) Up)))⟩
theorem Xx:(XTab.of Tryz.prog).code 31=some J3:=by kernel_rfl
def Pb:ACode:=(.region [Qa 29 1 5,Ql 30 29,Qw 31 3 7,Qo 32 (.buildSlice 1 [(.int .i64 0),(.str []),(.int .i64 0)] [(0,3,(Qu 31))]),KX 33 3 32 30 32,Qa 34 1 5,Qz (.store 1 (Qu 34) (Qu 33))])
def Pc:ACode:=(.seq (.region [Qa 20 2 2,Ql 21 20,Qm 22 6,Qx 23 3 21 22,Qw 24 3 23,Qm 25 1,Qo 26 (Qc ZN [(Qu 24),(Qu 25)]),Qm 19 26,KV 27 0 19,KV 28 1 19,Qo 7 (.alloc [(.int .i64 0),(.str []),(.int .i64 0)]),Qz (.store 3 (Qu 7) (Qu 27)),Qm 8 28]) Pb)
def Uq:ACode:=(.seq (QR [Qm 12 6,Qa 13 2 2,Ql 14 13,Qe 15 14,Qs 16 12 15] (QI 16 .skip (.exit 0))) (.seq (.block 1 Pc) (.region [Qm 17 6,Qd 18 17,Qm 6 18])))
def Pd:ACode:=(.seq (.region [Qa 9 1 2,Ql 10 9,Qo 11 (.build [(.str []),.nilslice] [(0,1,(Qu 10))]),Qo 5 (.alloc [(.str []),.nilslice]),Qz (.store 2 (Qu 5) (Qu 11))]) (.seq (QR [KJ 6 0] (.block 0 (.loop Uq))) (QR [Qw 35 2 5,Qz (.store 2 (Qu 4) (Qu 35))] .ret)))
def Xy:AFun:=⟨36,[.cell 4 2 true],(.seq (.region [KW 2 0,Qo 4 (.alloc [(.str []),.nilslice])]) Pd)⟩
theorem Xz:(XTab.of Tryz.prog).code 32=some Xy:=by kernel_rfl
def Pe:ACode:=(QR [KU 12] .ret)
def Ja6:ACode:=(QR [KU 12] .ret)
def Ur:ACode:=(QR [Qa 66 0 19,Ql 67 66,Qo 68 (.bin .neq (Qu 67) (Qi 1)),Qm 69 68,Fs 70 69 1,Qt 71 69 (.load 3 true (Qu 19)),Qt 72 69 (Qc Ze [(Qu 70),(Qu 71)]),Qt 73 69 (.bin .eql (Qu 72) (Qi 0)),KM 74 69 73] (QI 74 Ja6 .skip))
def Us:ACode:=(.seq (.block 3 (.seq (.region [Qx 64 3 60 62,Qw 65 3 64,Qo 19 (.alloc [(.int .i64 0),(.str []),(.int .i64 0)]),Qz (.store 3 (Qu 19) (Qu 65))]) Ur)) (.region [Qd 75 62,Qm 62 75]))
def Z3:ACode:=(QR [Qs 63 62 61] (.seq (QI 63 .skip (.exit 2)) Us))
def Pf:ACode:=(.seq (.region [Qx 57 3 53 55,Qw 58 3 57,Qo 17 (.alloc [(.int .i64 0),(.str []),.nilslice]),Qz (.store 3 (Qu 17) (Qu 58))]) (QR [Qa 59 2 17,Ql 60 59,Qe 61 60,KJ 62 0] (.block 2 (.loop Z3))))
def XA:ACode:=(QR [Qs 56 55 54] (.seq (QI 56 .skip (.exit 0)) (.seq (.block 1 Pf) (.region [Qd 76 55,Qm 55 76]))))
def Pg:ACode:=(.region [Qm 84 15,Qo 85 (Qc Zf [(Qu 84),(Qi 0)])])
def Ph:ACode:=(QR [Qm 86 15,Qn 87 86,Qa 88 13 87,Ql 89 88,Qo 90 (Qc GH [(Qu 89)]),Qm 12 90] .ret)
def Pi:ACode:=(.seq (QR [Qm 79 15,Qn 80 79,Qa 81 13 80,Ql 82 81,Qo 83 (.eqv true .ptr (Qu 82) (.const .nilptr))] (QI 83 Pg .skip)) Ph)
def Pj:ACode:=(.seq (QR [Qa 52 3 6,Ql 53 52,Qe 54 53,KJ 55 0] (.block 0 (.loop XA))) (QR [Qm 77 15,Qo 78 (Qc GF [(Qu 77)])] Pi))
def Pk:ACode:=(.seq (.drawn [QD (Qw 36 4 6) [],QD (Qm 37 1) [],QD (Qm 38 2) [],QD (Qw 39 2 13) [],QD (Qm 40 3) [],QD (Qm 41 4) [],QE (Qo 42 .mkMap) [],QE (Qo 43 .mkMap) [],QD (Qa 44 0 6) [],QD (Qa 45 2 44) [8],QD (Ql 46 45) [9,8],QD (Qe 47 46) [10,9,8],QE (Qo 48 (Qc ZL [(Qu 47)])) [11,10,9,8],QD (Qm 49 5) [],QD (Qo 50 (.build [(.int .i64 0),(.str []),.nilslice,.nilslice,.nilptr,.niliface,.nilslice,.nilslice,(.int .i64 0),.nilptr,.nilslice,.nilmap,.nilmap,.nilptr,(.int .i64 0)] [(0,4,(Qu 36)),(4,1,(Qu 37)),(5,1,(Qu 38)),(6,2,(Qu 39)),(8,1,(Qu 40)),(9,1,(Qu 41)),(11,1,(Qu 42)),(12,1,(Qu 43)),(13,1,(Qu 48)),(14,1,(Qu 49))])) [13,12,11,10,9,8,7,6,5,4,3,2,1,0],QE (KW 51 50) [14,13,12,11,10,9,8,7,6,5,4,3,2,1,0],QD (Qm 15 51) [15,14,13,12,11,10,9,8,7,6,5,4,3,2,1,0]]) Pj)
def Ut:ACode:=(.seq (QR [Qm 26 14,Qh 27 26,Qm 28 27,Fu 29 28 1,Qf 30 28 (.eqv false .ptr (Qu 29) (.const .nilptr)),KN 31 28 30,Qm 32 31,Fu 33 32 2,Qf 34 32 (.eqv false .iface (Qu 33) (.const .niliface)),KN 35 32 34] (QI 35 Pe .skip)) Pk)
def Pl:ACode:=(QR [Qw 21 4 6,Qm 22 3,Qo 23 (Qc GE [(Qu 21),(Qu 22)]),Qm 20 23,KV 24 0 20,KV 25 1 20,Qo 13 (.alloc [.nilslice,.nilslice]),Qz (.store 2 (Qu 13) (Qu 24)),Qm 14 25] Ut)
def Zt:AFun:=⟨91,[.tmp 12],(QR [KW 6 0,KU 12] Pl)⟩
theorem XB:(XTab.of Tryz.prog).code 33=some Zt:=by kernel_rfl
def Zu:AFun:=⟨30,[.tmp 4],(QR [KL 4 false] (QR [Qm 8 0,Qm 9 1,Qo 10 (Qc VU [(Qu 8),(Qu 9)]),Qm 7 10,KV 11 0 7,KV 12 1 7,Qm 5 11,Qm 6 12] (.seq (QR [Qm 13 5,Qo 14 (.bin .lss (Qu 13) (Qi 0)),Qm 15 14,Fu 16 15 6,KN 17 15 16] (QI 17 (QR [KL 4 false] .ret) .skip)) (.seq (.drawn [QD (Qm 18 0) [],QD (Qm 19 0) [],QD (Qn 20 19) [1],QD (Qa 21 1 20) [2,1],QD (Ql 22 21) [3,2,1],QD (Qm 23 5) [],QD (Qm 24 1) [],QE (Qo 25 (Qc VV [(Qu 24)])) [6],QE (Qo 26 (.buildSlice 1 [.nilslice] [(0,1,(Qu 25))])) [7,6],QE (Qo 27 (Qc Zg [(Qu 22),(Qu 23),(Qu 26)])) [8,7,6,5,4,3,2,1],QD (Qn 28 18) [9,8,7,6,5,4,3,2,1,0],QD (Qa 29 1 28) [10,9,8,7,6,5,4,3,2,1,0],QE (Qz (.store 1 (Qu 29) (Qu 27))) [11,10,9,8,7,6,5,4,3,2,1,0]]) (QR [KL 4 true] .ret)))))⟩
theorem XC:(XTab.of Tryz.prog).code 34=some Zu:=by kernel_rfl
def Pm:ACode:=(QR [KL 4 true] .ret)
def XD:ACode:=(QR [Qa 34 3 2,Ql 35 34,Qm 36 5,Qx 37 3 35 36,Qa 38 2 37,Ql 39 38,Qm 40 6,Qx 41 3 39 40,Qa 42 0 41,Ql 43 42,KT 44 43 1,Qm 45 44,KQ 46 45 3 2,KO 47 45 1 46,Fs 48 45 5,KY 49 45 3 47 48,KQ 50 45 2 49,KO 51 45 1 50,Fs 52 45 6,KY 53 45 3 51 52,KQ 54 45 1 53,KO 55 45 1 54,Fs 56 45 1,Qt 57 45 (.bin .eql (Qu 55) (Qu 56)),KM 58 45 57] (QI 58 Pm .skip))
def Zv:ACode:=(.seq (QR [Qa 14 3 2,Ql 15 14,Qm 16 5,Qx 17 3 15 16,Qa 18 0 17,Ql 19 18,KT 20 19 1,Qm 21 20,Fs 22 21 6,KQ 23 21 3 2,KO 24 21 1 23,Fs 25 21 5,KY 26 21 3 24 25,KQ 27 21 2 26,KO 28 21 1 27,Qt 29 21 (.lenSl (Qu 28)),Qt 30 21 (.bin .lss (Qu 22) (Qu 29)),KM 31 21 30] (QI 31 .skip (.exit 2))) (.seq (.block 3 XD) (.region [Qm 32 6,Qd 33 32,Qm 6 33])))
def Uu:ACode:=(.seq (QR [Qm 7 5,Qa 8 3 2,Ql 9 8,Qe 10 9,Qs 11 7 10] (QI 11 .skip (.exit 0))) (.seq (.block 1 (QR [KJ 6 0] (.block 2 (.loop Zv)))) (.region [Qm 12 5,Qd 13 12,Qm 5 13])))
def Z4:AFun:=⟨59,[.tmp 4],(QR [KW 2 0,KL 4 false] (.seq (QR [KJ 5 0] (.block 0 (.loop Uu))) (QR [KL 4 false] .ret)))⟩
theorem XE:(XTab.of Tryz.prog).code 35=some Z4:=by kernel_rfl
def Pn:ACode:=(QR [Qw 5 2 2,Qw 6 2 3,Qo 7 (Qc YH [(Qu 5),(Qu 6)]),Qh 8 7,Qm 9 8,Qt 10 9 (.load 2 true (Qu 3)),Qt 11 9 (.load 2 true (Qu 2)),Qt 12 9 (Qc YH [(Qu 10),(Qu 11)]),Qt 13 9 (.un .not (Qu 12)),KM 14 9 13,Qm 4 14] .ret)
def Z5:AFun:=⟨15,[.tmp 4],(QR [KW 2 0,KW 3 1,KL 4 false] Pn)⟩
theorem XF:(XTab.of Tryz.prog).code 36=some Z5:=by kernel_rfl
end
end Go.Proofs.YtegdcbdicpfbpaaGreatDoor
