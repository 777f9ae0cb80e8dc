/- A part of the proof. -/
import Derived.Test.YtegdcbdicpfbpaaDoorJhE
import Derived.Test.YtegdcbdicpfbpaaDoorJhF
import Derived.Test.YtegdcbdicpfbpaaDoorJhG
import Derived.Lib.Bytealg
set_option maxRecDepth 100000
set_option linter.unusedVariables false
namespace Go.Proofs.YtegdcbdicpfbpaaDoor
open Go.AE
def Hy:ACode:=(QR [Qm 32 0,Qm 33 1,Qo 34 (.slice 1 (Qu 32) none (some (Qu 33)) none),Qm 35 8,Qm 36 7,Qo 37 (.bin .add (Qu 35) (Qu 36)),Qm 38 1,Qo 39 (.bin .sub (Qu 37) (Qu 38)),Qo 40 .stuck,Qm 9 40] (QR [Qm 41 9,Qm 42 1,Qo 43 (.slice 1 (Qu 41) (some (Qu 42)) none none),Qm 44 2,Qo 45 (.copy 1 (Qu 43) (Qu 44))] (QR [Qm 46 9,Qm 47 1,Qm 48 7,Qo 49 (.bin .add (Qu 47) (Qu 48)),Qo 50 (.slice 1 (Qu 46) (some (Qu 49)) none none),Qm 51 0,Qm 52 1,Qo 53 (.slice 1 (Qu 51) (some (Qu 52)) none none),Qo 54 (.copy 1 (Qu 50) (Qu 53))] (QR [Qm 55 9,Qm 6 55] .ret))))
def Hz:ACode:=(QR [Qm 69 0,Qm 70 1,Qm 71 7,Qo 72 (.bin .add (Qu 70) (Qu 71)),Qo 73 (.slice 1 (Qu 69) (some (Qu 72)) none none),Qm 74 0,Qm 75 1,Qo 76 (.slice 1 (Qu 74) (some (Qu 75)) none none),Qo 77 (.copy 1 (Qu 73) (Qu 76))] (QR [Qm 78 0,Qm 79 1,Qo 80 (.slice 1 (Qu 78) (some (Qu 79)) none none),Qm 81 2,Qo 82 (.copy 1 (Qu 80) (Qu 81))] (QR [Qm 83 0,Qm 6 83] .ret)))
def Zm:AFun:=⟨95,[.tmp 6],(QR [KP 6] (QR [Qm 10 0,Qm 11 1,Qo 12 (.slice 1 (Qu 10) (some (Qu 11)) none none)] (QR [Qm 13 2,Qe 14 13,Qm 7 14] (.seq (QR [Qm 15 7,KO 16 15 0] (QI 16 (QR [Qm 17 0,Qm 6 17] .ret) .skip)) (QR [Qm 18 0,Qe 19 18,Qm 8 19] (.seq (QR [Qm 20 1,Qm 21 8,Qo 22 (.bin .eql (Qu 20) (Qu 21))] (QI 22 (QR [Qm 23 0,Qm 24 2,KT 25 1 24 23 24,Qm 6 25] .ret) .skip)) (.seq (QR [Qm 26 8,Qm 27 7,Qo 28 (.bin .add (Qu 26) (Qu 27)),Qm 29 0,Qo 30 (.cap (Qu 29)),Qo 31 (.bin .gtr (Qu 28) (Qu 30))] (QI 31 Hy .skip)) (QR [Qm 56 0,Qm 57 8,Qm 58 7,Qo 59 (.bin .add (Qu 57) (Qu 58)),Qo 60 (.slice 1 (Qu 56) none (some (Qu 59)) none),Qm 0 60] (.seq (QR [Qm 61 2,Qm 62 0,Qm 63 1,Qm 64 7,Qo 65 (.bin .add (Qu 63) (Qu 64)),Qo 66 (.slice 1 (Qu 62) (some (Qu 65)) none none),Qo 67 (Qc Hr [(Qu 61),(Qu 66)]),Qh 68 67] (QI 68 Hz .skip)) (QR [Qm 84 0,Qm 85 8,Qo 86 (.slice 1 (Qu 84) (some (Qu 85)) none none),Qm 87 2,Qo 88 (.copy 1 (Qu 86) (Qu 87))] (QR [Qm 89 0,Qm 90 1,Qo 91 (.slice 1 (Qu 89) (some (Qu 90)) none none),Qm 92 7,Qo 93 (Qc Hs [(Qu 91),(Qu 92)])] (QR [Qm 94 0,Qm 6 94] .ret))))))))))))⟩
theorem ZT:(XTab.of Tryd.prog).code 38=some Zm:=by kernel_rfl
def JU:AFun:=⟨8,[.tmp 2],(QR [KP 2] (.seq (QR [Qm 3 0,Qo 4 (.eqv false .slice (Qu 3) (.const .nilslice))] (QI 4 (QR [KP 2] .ret) .skip)) (QR [Qo 5 (.buildSlice 0 [] []),Qm 6 0,KT 7 1 8 5 6,Qm 2 7] .ret)))⟩
theorem Xd:(XTab.of Tryd.prog).code 39=some JU:=by kernel_rfl
def Jm:ACode:=(QR [Qm 10 8,Qm 3 10] (QR [Qm 11 0,Qm 12 3,Qo 13 (.indexStr (Qu 11) (Qu 12)),Qm 4 13] (QR [Qm 14 4,Qo 15 (.bin .geq (Qu 14) (Fv 97)),Qm 16 15,Fs 17 16 4,Qt 18 16 (.bin .leq (Qu 17) (Fv 122)),KH 19 16 18,Qm 5 19] (QR [Qm 20 5,Qh 21 20,Qm 22 21,Fs 23 22 3,Qt 24 22 (.bin .eql (Qu 23) (Qi 0)),Fs 25 22 24,Fu 26 25 4,Qf 27 25 (.bin .lss (Qu 26) (Fv 48)),Fu 28 25 27,Fu 29 28 4,Qf 30 28 (.bin .gtr (Qu 29) (Fv 57)),Qf 31 25 (.pick (Qu 28) (Qb true) (Qu 30)),Fu 32 25 31,Fs 33 32 4,Qt 34 32 (.bin .neq (Qu 33) (Fv 95)),Qf 35 25 (.pick (Qu 32) (Qu 34) (Qb false)),Qt 36 22 (.pick (Qu 25) (Qb true) (Qu 35)),KH 37 22 36] (QI 37 (QR [KG 2 false] .ret) .skip)))))
def Ji:ACode:=(QR [Qs 9 8 7] (.seq (QI 9 .skip (.exit 0)) (.seq (.block 1 Jm) (.region [Qd 38 8,Qm 8 38]))))
def Jq:AFun:=⟨46,[.tmp 2],(QR [KG 2 false] (.seq (QR [Qm 6 0,Qo 7 (.lenStr (Qu 6)),KF 8 0] (.block 0 (.loop Ji))) (QR [Qm 39 0,Qo 40 (.bin .neq (Qu 39) (.const (.str []))),Qm 41 40,Fs 42 41 0,Qt 43 41 (.lenStr (Qu 42)),Qt 44 41 (.bin .leq (Qu 43) (Qi 16)),KH 45 41 44,Qm 2 45] .ret)))⟩
theorem Xe:(XTab.of Tryd.prog).code 40=some Jq:=by kernel_rfl
def ZU:ACode:=(.seq (QR [Qm 11 4,Qm 12 0,Qo 13 (.lenStr (Qu 12)),Qs 14 11 13,Qm 15 14,Fs 16 15 0,Fs 17 15 4,Qt 18 15 (.indexStr (Qu 16) (Qu 17)),Qt 19 15 (Qc Yj [(Qu 18)]),Fs 20 15 19,Fu 21 20 0,Fu 22 20 4,Qf 23 20 (.indexStr (Qu 21) (Qu 22)),Qf 24 20 (Qc Zb [(Qu 23)]),Qt 25 15 (.pick (Qu 20) (Qb true) (Qu 24)),Fs 26 15 25,Fu 27 26 0,Fu 28 26 4,Qf 29 26 (.indexStr (Qu 27) (Qu 28)),Qf 30 26 (.bin .eql (Qu 29) (Fv 95)),Qt 31 15 (.pick (Qu 26) (Qb true) (Qu 30)),KH 32 15 31] (QI 32 .skip (.exit 1))) (.block 2 (.region [Qm 33 4,Qd 34 33,Qm 4 34])))
def ZV:ACode:=(.seq (QR [Qm 40 4,Qm 41 0,Qo 42 (.lenStr (Qu 41)),Qs 43 40 42,Qm 44 43,Fs 45 44 0,Fs 46 44 4,Qt 47 44 (.indexStr (Qu 45) (Qu 46)),Qt 48 44 (Qc Yj [(Qu 47)]),Fs 49 44 48,Fu 50 49 0,Fu 51 49 4,Qf 52 49 (.indexStr (Qu 50) (Qu 51)),Qf 53 49 (Qc WE [(Qu 52)]),Qt 54 44 (.pick (Qu 49) (Qb true) (Qu 53)),Fs 55 44 54,Fu 56 55 0,Fu 57 55 4,Qf 58 55 (.indexStr (Qu 56) (Qu 57)),Qf 59 55 (Qc Zb [(Qu 58)]),Qt 60 44 (.pick (Qu 55) (Qb true) (Qu 59)),Fs 61 44 60,Fu 62 61 0,Fu 63 61 4,Qf 64 61 (.indexStr (Qu 62) (Qu 63)),Qf 65 61 (.bin .eql (Qu 64) (Fv 95)),Qt 66 44 (.pick (Qu 61) (Qb true) (Qu 65)),KH 67 44 66] (QI 67 .skip (.exit 3))) (.block 4 (.region [Qm 68 4,Qd 69 68,Qm 4 69])))
def Vl:ACode:=(.seq (QR [Qm 93 0,Qo 94 (.indexStr (Qu 93) (Qi 1)),Qo 95 (.bin .eql (Qu 94) (Fv 48))] (QI 95 (QR [KF 2 0,KF 3 0] .ret) .skip)) (.region [KF 4 2]))
def ZW:ACode:=(.seq (QR [Qm 99 4,Qm 100 0,Qo 101 (.lenStr (Qu 100)),Qs 102 99 101,Qm 103 102,Fs 104 103 0,Fs 105 103 4,Qt 106 103 (.indexStr (Qu 104) (Qu 105)),Qt 107 103 (Qc Zb [(Qu 106)]),KH 108 103 107] (QI 108 .skip (.exit 5))) (.block 6 (.region [Qm 109 4,Qd 110 109,Qm 4 110])))
def ZX:ACode:=(.seq (QR [Qm 90 0,Qo 91 (.indexStr (Qu 90) (Qi 0)),Qo 92 (.bin .eql (Qu 91) (Fv 45))] (QI 92 Vl .skip)) (.seq (QR [Qm 96 0,Qo 97 (.indexStr (Qu 96) (Qi 0)),Qo 98 (.bin .eql (Qu 97) (Fv 48))] (QI 98 (QR [KF 2 1,KF 3 3] .ret) .skip)) (.seq (.block 5 (.loop ZW)) (QR [Qm 111 4,Qm 2 111,KF 3 3] .ret))))
def GC:ACode:=(QR [Qm 72 0,Qo 73 (.indexStr (Qu 72) (Qi 0)),Qo 74 (Qc Zb [(Qu 73)]),Qm 75 74,Fu 76 75 0,Qf 77 75 (.indexStr (Qu 76) (Qi 0)),Qf 78 75 (.bin .eql (Qu 77) (Fv 45)),Fu 79 75 78,Fs 80 79 0,Qt 81 79 (.lenStr (Qu 80)),Qt 82 79 (.bin .gtr (Qu 81) (Qi 1)),Qf 83 75 (.pick (Qu 79) (Qu 82) (Qb false)),Fu 84 75 83,Fs 85 84 0,Qt 86 84 (.indexStr (Qu 85) (Qi 1)),Qt 87 84 (Qc Zb [(Qu 86)]),Qf 88 75 (.pick (Qu 84) (Qu 87) (Qb false)),KI 89 75 88,Qm 71 89] (QI 71 ZX .skip))
def GD:ACode:=(QR [Qm 37 0,Qo 38 (.indexStr (Qu 37) (Qi 0)),Qo 39 (Qc WE [(Qu 38)]),Qm 36 39] (QI 36 (.seq (.block 3 (.loop ZV)) (QR [Qm 70 4,Qm 2 70,KF 3 2] .ret)) GC))
def GE:ACode:=(QR [Qm 8 0,Qo 9 (.indexStr (Qu 8) (Qi 0)),Qo 10 (Qc Yj [(Qu 9)]),Qm 7 10] (QI 7 (.seq (.block 1 (.loop ZU)) (QR [Qm 35 4,Qm 2 35,KF 3 1] .ret)) GD))
def Xf:ACode:=(QR [Qm 117 0,Qo 118 (.lenStr (Qu 117)),Qo 119 (.bin .geq (Qu 118) (Qi 2)),Qm 120 119,Fs 121 120 0,Qt 122 120 (.sliceStr (Qu 121) none (some (Qi 2))),Fs 123 120 5,Fs 124 120 6,KU 125 120 1 123 124,KJ 126 120 1 125,Qt 127 120 (.bin .eql (Qu 122) (Qu 126)),KH 128 120 127] (QI 128 (QR [KF 2 2,KF 3 4] .ret) .skip))
def Zn:ACode:=(.seq (QR [Qm 113 6,Qo 114 (.bin .lss (Qu 113) (Qi 3))] (QI 114 .skip (.exit 7))) (.seq (.block 8 Xf) (.region [Qm 115 6,Qd 116 115,Qm 6 116])))
def JD:ACode:=(QR [Qo 137 (.bin .eql (Qu 130) (Fv 61)),Qm 131 137] (QI 131 .skip (.region [Qo 138 (.bin .eql (Qu 130) (Fv 60)),Qm 131 138])))
def JF:ACode:=(QR [Qo 135 (.bin .eql (Qu 130) (Fv 46)),Qm 131 135] (QI 131 .skip (QR [Qo 136 (.bin .eql (Qu 130) (Fv 33)),Qm 131 136] (QI 131 .skip JD))))
def JG:ACode:=(QR [Qo 133 (.bin .eql (Qu 130) (Fv 41)),Qm 131 133] (QI 131 .skip (QR [Qo 134 (.bin .eql (Qu 130) (Fv 44)),Qm 131 134] (QI 131 .skip JF))))
def JA:ACode:=(.seq (QR [Qo 132 (.bin .eql (Qu 130) (Fv 40)),Qm 131 132] (QI 131 .skip JG)) (QI 131 (QR [KF 2 1,KF 3 4] .ret) .skip))
def Ja:AFun:=⟨139,[.tmp 2,.tmp 3],(QR [KF 2 0,KF 3 0] (QR [KF 4 1] (.seq (.block 0 GE) (.seq (.region [Qo 112 (.buildSlice 3 [(.str []),(.str []),(.str [])] [(0,1,(.const (.str [58,45]))),(1,1,(.const (.str [33,61]))),(2,1,(.const (.str [60,61])))]),Qm 5 112]) (.seq (QR [KF 6 0] (.block 7 (.loop Zn))) (.seq (QR [Qm 129 0,Qo 130 (.indexStr (Qu 129) (Qi 0))] (.block 9 JA)) (QR [KF 2 0,KF 3 0] .ret)))))))⟩
theorem Xg:(XTab.of Tryd.prog).code 41=some Ja:=by kernel_rfl
def Vn:ACode:=(QR [Qm 37 0,Qo 38 (Qc Js [(Qu 37),(Qi 4)])] (.seq (.region [Qo 39 (.build [(.int .i64 0),(.str []),(.int .i64 0)] []),Qz (.store 3 (Qu 2) (Qu 39))]) .ret))
def GF:ACode:=(.seq (.region [Qa 66 1 3,Ql 67 66,Qo 68 (.build [(.int .i64 0),(.str []),(.int .i64 0)] [(0,1,(Qi 1)),(1,1,(Qu 67))]),Qz (.store 3 (Qu 2) (Qu 68))]) .ret)
def GH:ACode:=(.seq (.region [Qa 61 1 3,Ql 62 61,Qo 63 (.build [(.int .i64 0),(.str []),(.int .i64 0)] [(0,1,(Qi 2)),(1,1,(Qu 62))]),Qz (.store 3 (Qu 2) (Qu 63))]) .ret)
def Xh:ACode:=(QR [KO 60 58 1,Qm 59 60] (QI 59 GH (QR [KO 65 58 2,Qm 64 65] (QI 64 GF .skip))))
def GJ:ACode:=(.region [Qm 81 4,Qo 82 (.bin .mul (Qu 81) (Qi 10)),Qa 83 1 3,Ql 84 83,Qm 85 5,Qo 86 (.indexStr (Qu 84) (Qu 85)),Qo 87 (.bin .sub (Qu 86) (Fv 48)),Qo 88 (.conv .i64 (Qu 87)),Qo 89 (.bin .add (Qu 82) (Qu 88)),Qm 4 89])
def Vo:ACode:=(QR [Qa 76 1 3,Ql 77 76,Qm 78 5,Qo 79 (.indexStr (Qu 77) (Qu 78)),Qo 80 (.bin .neq (Qu 79) (Fv 45))] (QI 80 GJ .skip))
def Zo:ACode:=(.seq (QR [Qm 69 5,Qa 70 1 3,Ql 71 70,Qo 72 (.lenStr (Qu 71)),Qs 73 69 72] (QI 73 .skip (.exit 1))) (.seq (.block 2 Vo) (.region [Qm 74 5,Qd 75 74,Qm 5 75])))
def GK:ACode:=(QR [Qm 92 0,Qo 93 (Qc Js [(Qu 92),(Qi 4)])] (.seq (.region [Qo 94 (.build [(.int .i64 0),(.str []),(.int .i64 0)] []),Qz (.store 3 (Qu 2) (Qu 94))]) .ret))
def Je:AFun:=⟨103,[.cell 2 3 true],(.seq (.region [Qo 2 (.alloc [(.int .i64 0),(.str []),(.int .i64 0)])]) (.seq (QR [Qm 6 0,Qn 7 6,Qa 8 2 7,Ql 9 8,Qo 10 (.bin .neq (Qu 9) (Qi 0)),Qm 11 10,Fu 12 11 0,Qf 13 11 (.nilCheck (Qu 12)),KN 14 11 1 13,KL 15 11 1 14,Fu 16 11 0,Qf 17 11 (.nilCheck (Qu 16)),KN 18 11 0 17,KL 19 11 1 18,Qf 20 11 (.lenSl (Qu 19)),Qf 21 11 (.bin .geq (Qu 15) (Qu 20)),KI 22 11 21,Qm 23 22,Fu 24 23 0,Qf 25 23 (.nilCheck (Qu 24)),KN 26 23 0 25,KL 27 23 1 26,Fu 28 23 0,Qf 29 23 (.nilCheck (Qu 28)),KN 30 23 1 29,KL 31 23 1 30,Qf 32 23 (.indexAddr 3 (Qu 27) (Qu 31)),KN 33 23 0 32,KL 34 23 1 33,Qf 35 23 (.bin .eql (Qu 34) (Qi 4)),KI 36 23 35] (QI 36 Vn .skip)) (.seq (.drawn [QD (Qm 40 0) [],QD (Qn 41 40) [0],QD (Qa 42 0 41) [1,0],QD (Ql 43 42) [2,1,0],QD (Qm 44 0) [],QD (Qn 45 44) [4],QD (Qa 46 1 45) [5,4],QD (Ql 47 46) [6,5,4],QD (Qx 48 3 43 47) [7,6,5,4,3,2,1,0],QD (Qw 49 3 48) [8,7,6,5,4,3,2,1,0],QE (Qo 3 (.alloc [(.int .i64 0),(.str []),(.int .i64 0)])) [],QE (Qz (.store 3 (Qu 3) (Qu 49))) [10,9,8,7,6,5,4,3,2,1,0]]) (QR [Qm 50 0,Qn 51 50,Qa 52 1 51,Ql 53 52,Qd 54 53,Qn 55 50,Qa 56 1 55,Qz (.store 1 (Qu 56) (Qu 54))] (.seq (QR [Qa 57 0 3,Ql 58 57] (.block 0 Xh)) (QR [KF 4 0] (.seq (QR [KF 5 0] (.block 1 (.loop Zo))) (.seq (QR [Qm 90 4,Qo 91 (.bin .gtr (Qu 90) (Qi 2147483648))] (QI 91 GK .skip)) (.seq (QR [Qa 95 1 3,Ql 96 95,Qo 97 (.indexStr (Qu 96) (Qi 0)),Qo 98 (.bin .eql (Qu 97) (Fv 45))] (QI 98 (.region [Qm 99 4,Qo 100 (.un .neg (Qu 99)),Qm 4 100]) .skip)) (.seq (.region [Qm 101 4,Qo 102 (.build [(.int .i64 0),(.str []),(.int .i64 0)] [(0,1,(Qi 3)),(2,1,(Qu 101))]),Qz (.store 3 (Qu 2) (Qu 102))]) .ret))))))))))⟩
theorem Xi:(XTab.of Tryd.prog).code 42=some Je:=by kernel_rfl
def Xj:ACode:=(QR [Qo 9 (.bin .eql (Qu 3) (.const (.str [60]))),Qm 8 9] (QI 8 (QR [KF 2 5] .ret) (QR [Qo 11 (.bin .eql (Qu 3) (.const (.str [60,61]))),Qm 10 11] (QI 10 (QR [KF 2 6] .ret) .skip))))
def Zp:ACode:=(QR [Qo 5 (.bin .eql (Qu 3) (.const (.str [61]))),Qm 4 5] (QI 4 (QR [KF 2 3] .ret) (QR [Qo 7 (.bin .eql (Qu 3) (.const (.str [33,61]))),Qm 6 7] (QI 6 (QR [KF 2 4] .ret) Xj))))
def Jn:AFun:=⟨12,[.tmp 2],(QR [KF 2 0] (.seq (QR [Qm 3 0] (.block 0 Zp)) (QR [KF 2 0] .ret)))⟩
theorem Xk:(XTab.of Tryd.prog).code 43=some Jn:=by kernel_rfl
def GL:ACode:=(QR [Qm 26 4,Qa 27 2 6,Ql 28 27,Qo 29 (Qc Za [(Qu 28)]),KT 30 1 16 26 29,Qm 4 30] (.exit 1))
def GM:ACode:=(.region [Qm 39 3,Qm 40 8,Qo 41 (.lookup (.scalar .str) (.int .i64 0) false (Qu 39) (Qu 40)),Qd 42 41,Qz (.mapUpdate (.scalar .str) (Qu 39) (Qu 40) (Qu 42))])
def GN:ACode:=(.seq (.block 3 (QR [Qx 37 1 33 35,Ql 38 37,Qm 8 38] GM)) (.region [Qd 43 35,Qm 35 43]))
def Zq:ACode:=(QR [Qs 36 35 34] (.seq (QI 36 .skip (.exit 2)) GN))
def GO:ACode:=(QR [Qa 31 2 6,Ql 32 31,Qo 33 (Qc Za [(Qu 32)]),Qe 34 33,KF 35 0] (.block 2 (.loop Zq)))
def Vp:ACode:=(.seq (.region [Qx 21 3 17 19,Qw 22 3 21,Qo 6 (.alloc [(.int .i64 0),(.str []),.nilslice]),Qz (.store 3 (Qu 6) (Qu 22))]) (.seq (QR [Qa 23 0 6,Ql 24 23,Qo 25 (.bin .neq (Qu 24) (Qi 1))] (QI 25 GL .skip)) GO))
def J4:ACode:=(QR [Qs 20 19 18] (.seq (QI 20 .skip (.exit 0)) (.seq (.block 1 Vp) (.region [Qd 44 19,Qm 19 44]))))
def GP:ACode:=(QR [KG 2 false] .ret)
def Vq:ACode:=(QR [Qm 51 3,Qm 52 10,Qo 53 (.lookup (.scalar .str) (.int .i64 0) false (Qu 51) (Qu 52)),KO 54 53 0] (QI 54 GP .skip))
def Vr:ACode:=(.seq (.block 5 (QR [Qx 49 1 45 47,Ql 50 49,Qm 10 50] Vq)) (.region [Qd 55 47,Qm 47 55]))
def Xl:ACode:=(QR [Qs 48 47 46] (.seq (QI 48 .skip (.exit 4)) Vr))
def GQ:ACode:=(.seq (QR [Qa 16 3 1,Ql 17 16,Qe 18 17,KF 19 0] (.block 0 (.loop J4))) (.seq (QR [Qm 45 4,Qe 46 45,KF 47 0] (.block 4 (.loop Xl))) (QR [KG 2 true] .ret)))
def GR:ACode:=(QR [Qa 12 0 1,Qa 13 2 12,Ql 14 13,Qo 15 (Qc Za [(Qu 14)]),Qm 4 15] GQ)
def ZY:AFun:=⟨56,[.tmp 2],(QR [KR 1 0,KG 2 false] (QR [Qo 11 .mkMap,Qm 3 11] GR))⟩
theorem Xm:(XTab.of Tryd.prog).code 44=some ZY:=by kernel_rfl
def GS:ACode:=(.region [Qm 60 0,Qm 61 0,Qn 62 61,Qa 63 3 62,Qa 64 1 63,Ql 65 64,Qm 66 5,Qo 67 (.buildSlice 1 [(.str [])] [(0,1,(Qu 66))]),KT 68 1 16 65 67,Qn 69 60,Qa 70 3 69,Qa 71 1 70,Qz (.store 1 (Qu 71) (Qu 68))])
def Vs:ACode:=(QR [Qm 53 0,Qn 54 53,Qa 55 1 54,Ql 56 55,Qm 57 5,Qo 58 (.lookup (.scalar .str) (.int .i64 0) false (Qu 56) (Qu 57)),KO 59 58 1] (QI 59 GS .skip))
def Vt:ACode:=(QR [Qm 46 0,Qn 47 46,Qa 48 1 47,Ql 49 48,Qm 50 5,Qo 51 (.lookup (.scalar .str) (.int .i64 0) false (Qu 49) (Qu 50)),Qd 52 51,Qz (.mapUpdate (.scalar .str) (Qu 49) (Qu 50) (Qu 52))] Vs)
def Vu:ACode:=(.seq (.block 1 (QR [Qx 44 1 40 42,Ql 45 44,Qm 5 45] Vt)) (.region [Qd 72 42,Qm 42 72]))
def Xn:ACode:=(QR [Qs 43 42 41] (.seq (QI 43 .skip (.exit 0)) Vu))
def GU:ACode:=(QR [Qm 32 0,Qn 33 32,Qa 34 0 33,Ql 35 34,Qm 36 1,Qx 37 3 35 36,Qa 38 2 37,Ql 39 38,Qo 40 (Qc Za [(Qu 39)]),Qe 41 40,KF 42 0] (.block 0 (.loop Xn)))
def Vv:ACode:=(.seq (QR [Qm 23 0,Qn 24 23,Qa 25 0 24,Ql 26 25,Qm 27 1,Qx 28 3 26 27,Qa 29 0 28,Ql 30 29,Qo 31 (.bin .neq (Qu 30) (Qi 1))] (QI 31 .ret .skip)) GU)
def Vw:ACode:=(QR [Qm 11 0,Qm 12 0,Qn 13 12,Qa 14 3 13,Qa 15 0 14,Ql 16 15,Qm 17 1,Qo 18 (.buildSlice 1 [(.int .i64 0)] [(0,1,(Qu 17))]),KT 19 1 8 16 18,Qn 20 11,Qa 21 3 20,Qa 22 0 21,Qz (.store 1 (Qu 22) (Qu 19))] Vv)
def Zr:AFun:=⟨73,[],(QR [Qm 6 0,Qn 7 6,Qa 8 2 7,Ql 9 8,Qm 10 1,Qz (.mapUpdate (.scalar .int) (Qu 9) (Qu 10) (Qi 1))] Vw)⟩
theorem Xo:(XTab.of Tryd.prog).code 45=some Zr:=by kernel_rfl
def Vx:ACode:=(.region [Qm 48 3,Qo 49 (.mkIface 120 (Qu 48)),Qm 50 4,Qm 51 7,Qm 52 6,Qo 53 (.build [(.int .i64 0),(.bool false),(.int .i64 0)] [(0,1,(Qu 50)),(1,1,(Qu 51)),(2,1,(Qu 52))]),Qo 54 (.mkIface 126 (Qu 53)),Qo 55 (Qc Uk [(Qu 49),(Qu 54)])])
def ZZ:ACode:=(.seq (QR [Qm 28 0,Qn 29 28,Qa 30 2 29,Ql 31 30,Qm 32 4,Qo 33 (.lookup (.scalar .int) (.int .i64 0) false (Qu 31) (Qu 32)),Qo 34 (.bin .gtr (Qu 33) (Qi 0)),Qm 35 34,Fu 36 35 7,Qf 37 35 (.un .not (Qu 36)),Fu 38 35 37,Fs 39 38 6,KM 40 38 2 5,KJ 41 38 1 40,Qt 42 38 (.lenSl (Qu 41)),Qt 43 38 (.bin .lss (Qu 39) (Qu 42)),Qf 44 35 (.pick (Qu 38) (Qu 43) (Qb false)),KI 45 35 44] (QI 45 (.exit 1) .skip)) (.seq (QR [Qm 46 7,Qh 47 46] (QI 47 (.region [KF 6 0]) .skip)) Vx))
def GV:ACode:=(QR [Qm 22 0,Qw 23 3 5,Qo 24 (Qc Uj [(Qu 22),(Qu 23)]),Qm 6 24] (QR [Qa 25 0 5,Ql 26 25,KO 27 26 1,Qm 7 27] ZZ))
def GW:ACode:=(.seq (.region [Qm 19 17,Qx 20 3 15 17,Qw 21 3 20,Qo 5 (.alloc [(.int .i64 0),(.str []),.nilslice]),Qm 4 19,Qz (.store 3 (Qu 5) (Qu 21))]) GV)
def Xp:ACode:=(QR [Qs 18 17 16] (.seq (QI 18 .skip (.exit 0)) (.seq (.block 1 GW) (.region [Qd 56 17,Qm 17 56]))))
def Vy:ACode:=(QR [Qm 58 3,Qo 59 (.mkIface 120 (Qu 58)),Qo 60 (Qc Ul [(Qu 59)]),Qo 61 (.typeAssert 126 (.agg [(.int .i64 0),(.bool false),(.int .i64 0)]) true (Qu 60)),Qm 57 61,KQ 62 0 57,KQ 63 1 57,Qo 8 (.alloc [(.int .i64 0),(.bool false),(.int .i64 0)]),Qz (.store 3 (Qu 8) (Qu 62)),Qm 9 63] (QR [Qa 64 0 8,Ql 65 64,Qm 2 65] .ret))
def GX:ACode:=(.seq (QR [Qm 12 0,Qn 13 12,Qa 14 0 13,Ql 15 14,Qe 16 15,KF 17 0] (.block 0 (.loop Xp))) Vy)
def Z0:AFun:=⟨66,[.tmp 2],(QR [KF 2 0] (QR [Qo 10 (.buildSlice 0 [] []),KR 11 10,Qm 3 11] GX))⟩
theorem Xq:(XTab.of Tryd.prog).code 46=some Z0:=by kernel_rfl
def GY:ACode:=(.region [Qm 27 3,Qa 28 1 6,Ql 29 28,Qo 30 (.buildSlice 1 [(.str [])] [(0,1,(Qu 29))]),KT 31 1 16 27 30,Qm 3 31])
def Vz:ACode:=(QR [Qm 22 4,Qa 23 1 6,Ql 24 23,Qo 25 (.lookup (.scalar .str) (.int .i64 0) false (Qu 22) (Qu 24)),KO 26 25 1] (QI 26 GY .skip))
def VA:ACode:=(QR [Qm 17 4,Qa 18 1 6,Ql 19 18,Qo 20 (.lookup (.scalar .str) (.int .i64 0) false (Qu 17) (Qu 19)),Qd 21 20,Qz (.mapUpdate (.scalar .str) (Qu 17) (Qu 19) (Qu 21))] Vz)
def Xr:ACode:=(.seq (.region [Qx 12 3 8 10,Qw 13 3 12,Qo 6 (.alloc [(.int .i64 0),(.str []),(.int .i64 0)]),Qz (.store 3 (Qu 6) (Qu 13))]) (QR [Qa 14 0 6,Ql 15 14,KO 16 15 1] (QI 16 VA .skip)))
def Z1:ACode:=(QR [Qs 11 10 9] (.seq (QI 11 .skip (.exit 0)) (.seq (.block 1 Xr) (.region [Qd 32 10,Qm 10 32]))))
def GZ:ACode:=(.seq (QR [Qm 8 0,Qe 9 8,KF 10 0] (.block 0 (.loop Z1))) (QR [Qm 33 3,Qm 2 33] .ret))
def Xs:AFun:=⟨34,[.tmp 2],(QR [KP 2] (QR [KP 3] (QR [Qo 7 .mkMap,Qm 4 7] GZ)))⟩
theorem Xt:(XTab.of Tryd.prog).code 47=some Xs:=by kernel_rfl
def G0:ACode:=(.region [Qm 22 5,Qm 23 0,Qn 24 23,Qa 25 12 24,Ql 26 25,Qm 27 7,Qo 28 (.lookup (.scalar .str) (.int .i64 0) false (Qu 26) (Qu 27)),Qo 29 (Qc Yk [(Qu 28)]),Qo 30 (.bin .add (.const (.str [32])) (Qu 29)),Qo 31 (.bin .add (Qu 22) (Qu 30)),Qm 5 31])
def G1:ACode:=(.seq (.block 1 (QR [Qx 20 1 16 18,Ql 21 20,Qm 7 21] G0)) (.region [Qd 32 18,Qm 18 32]))
def VB:ACode:=(QR [Qs 19 18 17] (.seq (QI 19 .skip (.exit 0)) G1))
def G2:ACode:=(.seq (QR [Qm 10 0,Qn 11 10,Qa 12 10 11,Ql 13 12,Qm 14 1,Qx 15 1 13 14,Ql 16 15,Qe 17 16,KF 18 0] (.block 0 (.loop VB))) (QR [Qm 33 5,Qm 4 33] .ret))
def Xu:AFun:=⟨34,[.tmp 4],(QR [Qo 4 (.mov (.const (.str [])))] (QR [Qm 8 1,Qo 9 (Qc Yk [(Qu 8)]),Qm 5 9] G2))⟩
theorem Xv:(XTab.of Tryd.prog).code 48=some Xu:=by kernel_rfl
def VC:ACode:=(.seq (.drawn [QD (Qm 3 0) [],QD (Qn 4 3) [0],QD (Qa 5 14 4) [1,0],QD (Ql 6 5) [2,1,0],QD (Qo 7 (.bin .geq (Qu 6) (Qi 0))) [3,2,1,0],QD (Qm 8 7) [4,3,2,1,0],QD (Fs 9 8 0) [5,4,3,2,1,0],QD (Qt 10 8 (.nilCheck (Qu 9))) [6,5,4,3,2,1,0],QD (KM 11 8 13 10) [7,6,5,4,3,2,1,0],QD (KJ 12 8 1 11) [8,7,6,5,4,3,2,1,0],QE (Qt 13 8 (Qc Yl [(Qu 12)])) [9,8,7,6,5,4,3,2,1,0],QD (Fs 14 8 0) [5,4,3,2,1,0],QD (Qt 15 8 (.nilCheck (Qu 14))) [11,5,4,3,2,1,0],QD (KM 16 8 14 15) [12,11,5,4,3,2,1,0],QD (KJ 17 8 1 16) [13,12,11,5,4,3,2,1,0],QD (Qt 18 8 (.bin .gtr (Qu 13) (Qu 17))) [14,13,12,11,10,9,8,7,6,5,4,3,2,1,0],QD (KH 19 8 18) [15,14,13,12,11,10,9,8,7,6,5,4,3,2,1,0],QD (Qm 2 19) [16,15,14,13,12,11,10,9,8,7,6,5,4,3,2,1,0]]) .ret)
def Zs:AFun:=⟨20,[.tmp 2],(QR [KG 2 false] VC)⟩
theorem Xw:(XTab.of Tryd.prog).code 49=some Zs:=by kernel_rfl
def G3:ACode:=(.region [Qm 33 5,Qm 34 6,Qm 35 0,Qn 36 35,Qa 37 4 36,Ql 38 37,Qw 39 3 7,Qo 40 (Qc JJ [(Qu 38),(Qu 39)]),Qx 41 1 33 34,Qz (.store 1 (Qu 41) (Qu 40))])
def VD:ACode:=(QR [Qm 20 5,Qm 21 6,Qm 22 0,Qn 23 22,Qa 24 12 23,Ql 25 24,Qa 26 1 7,Ql 27 26,Qo 28 (.lookup (.scalar .str) (.int .i64 0) false (Qu 25) (Qu 27)),Qx 29 1 20 21,Qz (.store 1 (Qu 29) (Qu 28))] (QR [Qa 30 0 7,Ql 31 30,Qo 32 (.bin .neq (Qu 31) (Qi 1))] (QI 32 G3 .skip)))
def VE:ACode:=(.seq (.region [Qm 17 15,Qx 18 3 13 15,Qw 19 3 18,Qo 7 (.alloc [(.int .i64 0),(.str []),(.int .i64 0)]),Qm 6 17,Qz (.store 3 (Qu 7) (Qu 19))]) VD)
def Xx:ACode:=(QR [Qs 16 15 14] (.seq (QI 16 .skip (.exit 0)) (.seq (.block 1 VE) (.region [Qd 42 15,Qm 15 42]))))
def G4:ACode:=(.seq (QR [Qa 12 2 3,Ql 13 12,Qe 14 13,KF 15 0] (.block 0 (.loop Xx))) (QR [Qm 43 5,Qm 4 43] .ret))
def Xy:AFun:=⟨44,[.tmp 4],(QR [KR 3 1,KP 4] (QR [Qa 8 2 3,Ql 9 8,Qe 10 9,Qo 11 (.mkSlice 1 8 [(.int .i64 0)] (Qu 10) (Qu 10)),Qm 5 11] G4))⟩
theorem Xz:(XTab.of Tryd.prog).code 50=some Xy:=by kernel_rfl
def G5:ACode:=(.region [Qm 25 0,Qn 26 25,Qa 27 5 26,Ql 28 27,Qa 29 1 5,Ql 30 29,Qo 31 (.inv [(44,Jt,none)] (Qu 28) [(Qu 30)]),Qm 6 31])
def VF:ACode:=(QR [Qo 4 (.mov (.const .nilptr))] .ret)
def VG:ACode:=(.seq (.seq (.drawn [QD (Qm 32 6) [],QE (Qo 33 (Qc Ym [(Qu 32)])) [0],QD (Qa 34 2 5) [],QD (Ql 35 34) [2],QD (Qe 36 35) [3,2],QD (Qo 37 (.bin .neq (Qu 33) (Qu 36))) [4,3,2,1,0]]) (QI 37 VF .skip)) (QR [Qm 38 6,Qm 4 38] .ret))
def VH:ACode:=(.seq (QR [Qm 19 1,Qm 20 0,Qn 21 20,Qa 22 8 21,Ql 23 22,Qo 24 (.bin .neq (Qu 19) (Qu 23))] (QI 24 G5 .skip)) VG)
def VI:ACode:=(.seq (.region [Qm 7 0,Qn 8 7,Qa 9 0 8,Qa 10 3 9,Ql 11 10,Qm 12 1,Qx 13 3 11 12,Qw 14 3 13,Qo 5 (.alloc [(.int .i64 0),(.str []),.nilslice]),Qz (.store 3 (Qu 5) (Qu 14))]) (QR [Qm 15 0,Qn 16 15,Qa 17 9 16,Ql 18 17,Qm 6 18] VH))
def JV:AFun:=⟨39,[.tmp 4],(QR [Qo 4 (.mov (.const .nilptr))] VI)⟩
theorem XA:(XTab.of Tryd.prog).code 51=some JV:=by kernel_rfl
def G6:ACode:=(.region [Qm 31 5,Qm 32 7,Qo 33 (Qc Wz [(Qu 32)]),Qo 34 (.buildSlice 1 [.nilslice] [(0,1,(Qu 33))]),KT 35 1 24 31 34,Qm 5 35])
def G7:ACode:=(QR [Qx 26 1 22 24,Ql 27 26,Qm 7 27] (QR [Qm 28 7,Qm 29 1,Qo 30 (Qc Um [(Qu 28),(Qu 29)])] (QI 30 G6 .skip)))
def XB:ACode:=(QR [Qs 25 24 23] (.seq (QI 25 .skip (.exit 0)) (.seq (.block 1 G7) (.region [Qd 36 24,Qm 24 36]))))
def Jf:AFun:=⟨38,[.tmp 4],(QR [KP 4] (.seq (QR [Qm 8 0,Qo 9 (.eqv false .ptr (Qu 8) (.const .nilptr)),Qm 10 9,Fu 11 10 1,Qf 12 10 (.lenSl (Qu 11)),Fu 13 10 0,Qf 14 10 (.nilCheck (Qu 13)),KN 15 10 0 14,KL 16 10 1 15,Qf 17 10 (.bin .neq (Qu 12) (Qu 16)),KI 18 10 17] (QI 18 (QR [KP 4] .ret) .skip)) (QR [KP 5] (.seq (QR [Qm 19 0,Qn 20 19,Qa 21 1 20,Ql 22 21,Qe 23 22,KF 24 0] (.block 0 (.loop XB))) (QR [Qm 37 5,Qm 4 37] .ret)))))⟩
theorem Z2:(XTab.of Tryd.prog).code 52=some Jf:=by kernel_rfl
def G8:ACode:=(QR [Qm 43 8,Qm 6 43,KG 7 false] .ret)
def G9:ACode:=(.region [Qm 56 8,Qa 57 1 10,Ql 58 57,Qo 59 (.buildSlice 1 [(.str [])] [(0,1,(Qu 58))]),KT 60 1 16 56 59,Qm 8 60])
def Ha:ACode:=(QR [Qm 46 0,Qn 47 46,Qa 48 12 47,Ql 49 48,Qa 50 1 10,Ql 51 50,Qm 52 2,Qm 53 9,Qx 54 1 52 53,Ql 55 54,Qz (.mapUpdate (.scalar .str) (Qu 49) (Qu 51) (Qu 55))] G9)
def XC:ACode:=(.seq (QR [Qm 34 12,Qm 35 34,Fs 36 35 11,Fs 37 35 2,Fs 38 35 9,KU 39 35 1 37 38,KJ 40 35 1 39,Qt 41 35 (.bin .neq (Qu 36) (Qu 40)),KH 42 35 41] (QI 42 G8 .skip)) (QR [Qm 44 12,Qh 45 44] (QI 45 Ha .skip)))
def XD:ACode:=(QR [Qm 25 0,Qn 26 25,Qa 27 12 26,Ql 28 27,Qa 29 1 10,Ql 30 29,Qo 31 (.lookup (.scalar .str) (.int .i64 0) true (Qu 28) (Qu 30)),Qm 24 31,KQ 32 0 24,KQ 33 1 24,Qm 11 32,Qm 12 33] XC)
def Z3:ACode:=(.seq (.region [Qm 18 16,Qx 19 3 14 16,Qw 20 3 19,Qo 10 (.alloc [(.int .i64 0),(.str []),(.int .i64 0)]),Qm 9 18,Qz (.store 3 (Qu 10) (Qu 20))]) (.seq (QR [Qa 21 0 10,Ql 22 21,Qo 23 (.bin .neq (Qu 22) (Qi 1))] (QI 23 (.exit 1) .skip)) XD))
def Zt:ACode:=(QR [Qs 17 16 15] (.seq (QI 17 .skip (.exit 0)) (.seq (.block 1 Z3) (.region [Qd 61 16,Qm 16 61]))))
def Hb:ACode:=(.seq (QR [Qa 13 2 4,Ql 14 13,Qe 15 14,KF 16 0] (.block 0 (.loop Zt))) (QR [Qm 62 8,Qm 6 62,KG 7 true] .ret))
def Z4:AFun:=⟨63,[.tmp 6,.tmp 7],(QR [KR 4 1,KP 6,KG 7 false] (QR [KP 8] Hb))⟩
theorem XE:(XTab.of Tryd.prog).code 53=some Z4:=by kernel_rfl
def J5:AFun:=⟨14,[.tmp 4],(QR [KG 4 false] (QR [Qm 8 0,Qm 9 1,Qo 10 (Qc Wy [(Qu 8),(Qu 9)]),Qm 7 10,KQ 11 0 7,KQ 12 1 7,Qm 5 11,Qm 6 12] (QR [Qm 13 6,Qm 4 13] .ret)))⟩
theorem Z5:(XTab.of Tryd.prog).code 54=some J5:=by kernel_rfl
section
open Go.AE
def Hc:ACode:=(QR [Qm 18 9,Qm 19 10,Qo 20 (.bin .add (Qu 18) (Qu 19)),Qo 21 (.conv .u64 (Qu 20)),Qo 22 (.bin .shr (Qu 21) (.const (.int .u64 1))),Qo 23 (.conv .i64 (Qu 22)),Qm 11 23] (QR [Qm 24 2,Qm 25 0,Qm 26 11,Qx 27 1 25 26,Ql 28 27,Qm 29 1,Qo 30 (.call (Qu 24) [(Qu 28),(Qu 29)]),Qo 31 (.bin .lss (Qu 30) (Qi 0))] (QI 31 (.region [Qm 32 11,Qd 33 32,Qm 9 33]) (.region [Qm 34 11,Qm 10 34]))))
def Z6:ACode:=(.seq (QR [Qm 15 9,Qm 16 10,Qs 17 15 16] (QI 17 .skip (.exit 0))) (.block 1 Hc))
def J6:AFun:=⟨49,[.tmp 6,.tmp 7],(QR [KF 6 0,KG 7 false] (QR [Qm 12 0,Qe 13 12,Qm 8 13] (QR [Qm 14 8,KF 9 0,Qm 10 14] (.seq (.block 0 (.loop Z6)) (QR [Qm 35 9,Qm 36 9,Qm 37 8,Qs 38 36 37,Qm 39 38,Fs 40 39 2,Fs 41 39 0,Fs 42 39 9,KU 43 39 1 41 42,KJ 44 39 1 43,Fs 45 39 1,Qt 46 39 (.call (Qu 40) [(Qu 44),(Qu 45)]),Qt 47 39 (.bin .eql (Qu 46) (Qi 0)),KH 48 39 47,Qm 6 35,Qm 7 48] .ret)))))⟩
theorem XF:(XTab.of Tryd.prog).code 55=some J6:=by kernel_rfl
def XG:AFun:=⟨8,[.tmp 4],(QR [KF 4 0] (QR [Qm 5 0,Qm 6 1,Qo 7 (Qc Ui [(Qu 5),(Qu 6)]),Qm 4 7] .ret))⟩
theorem XH:(XTab.of Tryd.prog).code 56=some XG:=by kernel_rfl
def XI:ACode:=(QR [Qm 13 11,Qx 14 1 9 11,Ql 15 14,Qm 5 13,Qm 6 15] (.seq (QR [Qm 16 5,Qm 17 1,Qe 18 17,Qo 19 (.bin .geq (Qu 16) (Qu 18))] (QI 19 (QR [KF 4 1] .ret) .skip)) (QR [Qm 20 1,Qm 21 5,Qx 22 1 20 21,Ql 23 22,Qm 7 23] (QR [Qm 24 6,Qm 25 7,Qo 26 (Qc Un [(Qu 24),(Qu 25)]),Qm 8 26] (QR [Qm 27 8,Qo 28 (.bin .neq (Qu 27) (Qi 0))] (QI 28 (QR [Qm 29 8,Qm 4 29] .ret) .skip))))))
def JB:ACode:=(QR [Qs 12 11 10] (.seq (QI 12 .skip (.exit 0)) (.seq (.block 1 XI) (.region [Qd 30 11,Qm 11 30]))))
def Jd:AFun:=⟨36,[.tmp 4],(QR [KF 4 0] (.seq (QR [Qm 9 0,Qe 10 9,KF 11 0] (.block 0 (.loop JB))) (.seq (QR [Qm 31 0,Qe 32 31,Qm 33 1,Qe 34 33,Qs 35 32 34] (QI 35 (QR [Qo 4 (.mov (.const (.int .i64 (-1))))] .ret) .skip)) (QR [KF 4 0] .ret))))⟩
theorem XJ:(XTab.of Tryd.prog).code 57=some Jd:=by kernel_rfl
def XK:AFun:=⟨9,[.tmp 2],(QR [KG 2 false] (QR [Qm 3 0,Qo 4 (.bin .geq (Qu 3) (Fv 97)),Qm 5 4,Fs 6 5 0,Qt 7 5 (.bin .leq (Qu 6) (Fv 122)),KH 8 5 7,Qm 2 8] .ret))⟩
theorem XL:(XTab.of Tryd.prog).code 60=some XK:=by kernel_rfl
def XM:AFun:=⟨9,[.tmp 2],(QR [KG 2 false] (QR [Qm 3 0,Qo 4 (.bin .geq (Qu 3) (Fv 48)),Qm 5 4,Fs 6 5 0,Qt 7 5 (.bin .leq (Qu 6) (Fv 57)),KH 8 5 7,Qm 2 8] .ret))⟩
theorem XN:(XTab.of Tryd.prog).code 61=some XM:=by kernel_rfl
def XO:AFun:=⟨9,[.tmp 2],(QR [KG 2 false] (QR [Qm 3 0,Qo 4 (.bin .geq (Qu 3) (Fv 65)),Qm 5 4,Fs 6 5 0,Qt 7 5 (.bin .leq (Qu 6) (Fv 90)),KH 8 5 7,Qm 2 8] .ret))⟩
theorem XP:(XTab.of Tryd.prog).code 62=some XO:=by kernel_rfl
def VJ:ACode:=(.region [Qm 28 5,Qd 29 28,Qm 5 29])
def XQ:ACode:=(QR [Qa 15 0 7,Ql 16 15,Qo 17 (.bin .neq (Qu 16) (Qi 1)),Qm 18 17,Fu 19 18 0,Qf 20 18 (.nilCheck (Qu 19)),KN 21 18 1 20,KL 22 18 1 21,KN 23 18 1 7,KL 24 18 1 23,Qf 25 18 (.lookup (.scalar .str) (.int .i64 0) false (Qu 22) (Qu 24)),Qf 26 18 (.bin .gtr (Qu 25) (Qi 0)),KI 27 18 26] (QI 27 VJ .skip))
def XR:ACode:=(.seq (.block 1 (.seq (.region [Qx 13 3 9 11,Qw 14 3 13,Qo 7 (.alloc [(.int .i64 0),(.str []),(.int .i64 0)]),Qz (.store 3 (Qu 7) (Qu 14))]) XQ)) (.region [Qd 30 11,Qm 11 30]))
def Z7:ACode:=(QR [Qs 12 11 10] (.seq (QI 12 .skip (.exit 0)) XR))
def Hd:ACode:=(.seq (QR [Qa 8 2 3,Ql 9 8,Qe 10 9,KF 11 0] (.block 0 (.loop Z7))) (QR [Qm 31 5,Qm 4 31] .ret))
def XS:AFun:=⟨32,[.tmp 4],(QR [KR 3 1,KF 4 0] (QR [KF 5 0] Hd))⟩
theorem XT:(XTab.of Tryd.prog).code 63=some XS:=by kernel_rfl
def He:ACode:=(.region [Qm 7 0,Qm 8 0,Qo 9 (.inv [(17,Ur,none),(33,WH,none),(65,Yl,none),(120,ZA,(some (1,false))),(122,ZA,none)] (Qu 8) []),Qo 10 (.bin .sub (Qu 9) (Qi 1)),Qo 11 (Qc Uo [(Qu 7),(Qu 10)])])
def XU:AFun:=⟨12,[],(QR [Qm 4 0,Qm 5 1,Qo 6 (.inv [(120,Ut,none)] (Qu 4) [(Qu 5)])] He)⟩
theorem XV:(XTab.of Tryd.prog).code 64=some XU:=by kernel_rfl
def Hf:ACode:=(QR [Qm 10 0,Qm 11 3,Qo 12 (Qc Up [(Qu 10),(Qi 0),(Qu 11)])] (QR [Qm 13 0,Qo 14 (.inv [(120,Us,none)] (Qu 13) []),Qm 2 14] .ret))
def Hg:ACode:=(QR [Qm 4 0,Qo 5 (.inv [(17,Ur,none),(33,WH,none),(65,Yl,none),(120,ZA,(some (1,false))),(122,ZA,none)] (Qu 4) []),Qo 6 (.bin .sub (Qu 5) (Qi 1)),Qm 3 6] (QR [Qm 7 0,Qm 8 3,Qo 9 (.inv [(120,JX,(some (1,false))),(122,JX,none)] (Qu 7) [(Qi 0),(Qu 8)])] Hf))
def XW:AFun:=⟨15,[.tmp 2],(QR [Qo 2 (.mov (.const .niliface))] Hg)⟩
theorem XX:(XTab.of Tryd.prog).code 65=some XW:=by kernel_rfl
def XY:AFun:=⟨5,[.tmp 2],(QR [Qo 2 (.mov (.const (.str [])))] (QR [Qm 3 0,Qo 4 (Qc Ht [(Qu 3)]),Qm 2 4] .ret))⟩
theorem XZ:(XTab.of Tryd.prog).code 66=some XY:=by kernel_rfl
def Zu:AFun:=⟨10,[.tmp 2],(QR [KF 2 0] (.seq (QR [Qm 3 0,Qo 4 (.eqv false .ptr (Qu 3) (.const .nilptr))] (QI 4 (QR [KF 2 0] .ret) .skip)) (QR [Qm 5 0,Qn 6 5,Qa 7 1 6,Ql 8 7,Qe 9 8,Qm 2 9] .ret)))⟩
theorem X0:(XTab.of Tryd.prog).code 67=some Zu:=by kernel_rfl
def Hh:ACode:=(QR [Qo 2 (.mov (.const (.int .i64 (-1))))] .ret)
def VK:ACode:=(.seq (QR [Qm 3 0,Qo 4 (.eqv false .ptr (Qu 3) (.const .nilptr))] (QI 4 Hh .skip)) (QR [Qm 5 0,Qn 6 5,Qa 7 0 6,Ql 8 7,Qm 2 8] .ret))
def Zv:AFun:=⟨9,[.tmp 2],(QR [KF 2 0] VK)⟩
theorem Z8:(XTab.of Tryd.prog).code 68=some Zv:=by kernel_rfl
def X1:ACode:=(QR [Qm 11 9,Qx 12 1 7 9,Ql 13 12,Qm 5 11,Qm 6 13] (QR [Qm 14 6,Qo 15 (.bin .gtr (Qu 14) (Qi 0)),Qm 16 15,Fs 17 16 0,Fs 18 16 5,KU 19 16 1 17 18,KJ 20 16 1 19,Fs 21 16 6,Qt 22 16 (.bin .neq (Qu 20) (Qu 21)),KH 23 16 22] (QI 23 (QR [KG 4 false] .ret) .skip)))
def J7:ACode:=(QR [Qs 10 9 8] (.seq (QI 10 .skip (.exit 0)) (.seq (.block 1 X1) (.region [Qd 24 9,Qm 9 24]))))
def JH:AFun:=⟨25,[.tmp 4],(QR [KG 4 false] (.seq (QR [Qm 7 1,Qe 8 7,KF 9 0] (.block 0 (.loop J7))) (QR [KG 4 true] .ret)))⟩
theorem X2:(XTab.of Tryd.prog).code 69=some JH:=by kernel_rfl
def Zw:AFun:=⟨20,[.tmp 4],(QR [KF 4 0] (QR [Qm 7 0,Qo 8 (Qc WG [(Qu 7)]),Qm 5 8] (QR [Qm 9 1,Qo 10 (Qc WG [(Qu 9)]),Qm 6 10] (.seq (QR [Qm 11 5] (QI 11 (.seq (QR [Qm 12 6] (QI 12 (QR [KF 4 0] .ret) .skip)) (QR [Qo 4 (.mov (.const (.int .i64 (-1))))] .ret)) .skip)) (.seq (QR [Qm 13 6] (QI 13 (QR [KF 4 1] .ret) .skip)) (.seq (QR [Qm 14 0,Qm 15 1,Qs 16 14 15] (QI 16 (QR [Qo 4 (.mov (.const (.int .i64 (-1))))] .ret) .skip)) (.seq (QR [Qm 17 0,Qm 18 1,Qo 19 (.bin .gtr (Qu 17) (Qu 18))] (QI 19 (QR [KF 4 1] .ret) .skip)) (QR [KF 4 0] .ret))))))))⟩
theorem X3:(XTab.of Tryd.prog).code 70=some Zw:=by kernel_rfl
def Hi:ACode:=(QR [Qm 18 0,Qm 19 4,Qm 20 1,Qo 21 (.inv [(120,JX,(some (1,false))),(122,JX,none)] (Qu 18) [(Qu 19),(Qu 20)])] (.region [Qm 22 4,Qm 1 22]))
def VM:ACode:=(.seq (QR [Qm 8 4,Qm 9 1,Qo 10 (.bin .eql (Qu 8) (Qu 9)),Qm 11 10,Fu 12 11 0,Fu 13 11 1,Fu 14 11 4,Qf 15 11 (.inv [(120,JW,(some (1,false))),(122,JW,none)] (Qu 12) [(Qu 13),(Qu 14)]),Qf 16 11 (.un .not (Qu 15)),KI 17 11 16] (QI 17 (.exit 0) .skip)) Hi)
def VN:ACode:=(.block 1 (QR [Qm 5 1,Qo 6 (.bin .sub (Qu 5) (Qi 1)),Qo 7 (.bin .quo (Qu 6) (Qi 2)),Qm 4 7] VM))
def X4:AFun:=⟨23,[],(.block 0 (.loop VN))⟩
theorem X5:(XTab.of Tryd.prog).code 72=some X4:=by kernel_rfl
def Hj:ACode:=(.region [Qm 34 10,Qm 9 34])
def VO:ACode:=(QR [Qm 25 10,Qm 26 2,Qs 27 25 26,Qm 28 27,Fs 29 28 0,Fs 30 28 10,Fs 31 28 8,Qt 32 28 (.inv [(120,JW,(some (1,false))),(122,JW,none)] (Qu 29) [(Qu 30),(Qu 31)]),KH 33 28 32] (QI 33 Hj .skip))
def Hk:ACode:=(QR [Qm 40 0,Qm 41 7,Qm 42 9,Qo 43 (.inv [(120,JX,(some (1,false))),(122,JX,none)] (Qu 40) [(Qu 41),(Qu 42)])] (.region [Qm 44 9,Qm 7 44]))
def VP:ACode:=(.seq (QR [Qm 35 0,Qm 36 9,Qm 37 7,Qo 38 (.inv [(120,JW,(some (1,false))),(122,JW,none)] (Qu 35) [(Qu 36),(Qu 37)]),Qh 39 38] (QI 39 (.exit 0) .skip)) Hk)
def VQ:ACode:=(QR [Qm 22 8,Qm 9 22] (.seq (QR [Qm 23 8,Qd 24 23,Qm 10 24] VO) VP))
def X6:ACode:=(.seq (QR [Qm 15 8,Qm 16 2,Qo 17 (.bin .geq (Qu 15) (Qu 16)),Qm 18 17,Fu 19 18 8,Qf 20 18 (.bin .lss (Qu 19) (Qi 0)),KI 21 18 20] (QI 21 (.exit 0) .skip)) VQ)
def Z9:ACode:=(.block 1 (QR [Qm 12 7,Qo 13 (.bin .mul (Qi 2) (Qu 12)),Qd 14 13,Qm 8 14] X6))
def Hl:ACode:=(QR [Qm 11 1,Qm 7 11] (.seq (.block 0 (.loop Z9)) (QR [Qm 45 7,Qm 46 1,Qo 47 (.bin .gtr (Qu 45) (Qu 46)),Qm 6 47] .ret)))
def Ya:AFun:=⟨48,[.tmp 6],(QR [KG 6 false] Hl)⟩
theorem X7:(XTab.of Tryd.prog).code 73=some Ya:=by kernel_rfl
def X8:AFun:=⟨5,[.tmp 2],(QR [Qo 2 (.mov (.const (.str [])))] (QR [Qm 3 0,Qo 4 (Qc Uq [(Qu 3),(Qi 10)]),Qm 2 4] .ret))⟩
theorem X9:(XTab.of Tryd.prog).code 74=some X8:=by kernel_rfl
def Wa:AFun:=⟨6,[.tmp 2],(QR [KG 2 false] (QR [Qm 3 0,Qm 4 0,Qo 5 (.bin .neq (Qu 3) (Qu 4)),Qm 2 5] .ret))⟩
theorem Wb:(XTab.of Tryd.prog).code 75=some Wa:=by kernel_rfl
end
section
open Go.AE
def Wc:AFun:=⟨10,[.tmp 2],(QR [KF 2 0] (.seq (QR [Qm 3 0,Qo 4 (.eqv false .ptr (Qu 3) (.const .nilptr))] (QI 4 (QR [KF 2 0] .ret) .skip)) (QR [Qm 5 0,Qn 6 5,Qa 7 1 6,Ql 8 7,Qe 9 8,Qm 2 9] .ret)))⟩
theorem We:(XTab.of Tryd.prog).code 105=some Wc:=by kernel_rfl
def Wf:AFun:=⟨9,[.tmp 4],(QR [KR 2 0,Qo 4 (.mov (.const .nilptr))] (QR [Qa 5 0 2,Ql 6 5,Qm 7 1,Qo 8 (.lookup (.scalar .str) .nilptr false (Qu 6) (Qu 7)),Qm 4 8] .ret))⟩
theorem Wg:(XTab.of Tryd.prog).code 106=some Wf:=by kernel_rfl
def Wh:AFun:=⟨5,[.tmp 2],(QR [KF 2 0] (QR [Qm 3 0,Qe 4 3,Qm 2 4] .ret))⟩
theorem Wi:(XTab.of Tryd.prog).code 107=some Wh:=by kernel_rfl
def VS:ACode:=(QR [Qa 31 2 7,Ql 32 31,Qa 33 2 8,Ql 34 33,Qo 35 (.bin .gtr (Qu 32) (Qu 34)),Qm 6 35] .ret)
def Yb:ACode:=(QR [Qa 23 1 8,Ql 24 23,Qm 6 24] .ret)
def Yc:ACode:=(QR [Qa 26 2 7,Ql 27 26,Qa 28 2 8,Ql 29 28,Qo 30 (.bin .neq (Qu 27) (Qu 29)),Qm 25 30] (QI 25 VS .skip))
def JI:ACode:=(QR [Qa 18 1 7,Ql 19 18,Qa 20 1 8,Ql 21 20,Qo 22 (.eqv true .bool (Qu 19) (Qu 21)),Qm 17 22] (QI 17 Yb Yc))
def VT:ACode:=(QR [Qa 36 0 7,Ql 37 36,Qa 38 0 8,Ql 39 38,Qs 40 37 39,Qm 6 40] .ret)
def Hm:ACode:=(.seq (.drawn [QD (Qm 9 0) [],QD (Qm 10 1) [],QD (Qx 11 3 9 10) [1,0],QD (Qw 12 3 11) [2,1,0],QD (Qm 13 0) [],QD (Qm 14 2) [],QD (Qx 15 3 13 14) [5,4],QD (Qw 16 3 15) [6,5,4],QE (Qo 7 (.alloc [(.int .i64 0),(.bool false),(.int .i64 0)])) [],QE (Qo 8 (.alloc [(.int .i64 0),(.bool false),(.int .i64 0)])) [],QE (Qz (.store 3 (Qu 7) (Qu 12))) [9,8,3,2,1,0],QE (Qz (.store 3 (Qu 8) (Qu 16))) [10,9,8,7,6,5,4,3,2,1,0]]) (.seq (.block 0 JI) VT))
def Jr:AFun:=⟨41,[.tmp 6],(QR [KG 6 false] Hm)⟩
theorem Wj:(XTab.of Tryd.prog).code 108=some Jr:=by kernel_rfl
def Hn:ACode:=(QR [Qm 14 0,Qm 15 0,Qn 16 15,Ql 17 16,Qm 18 0,Qn 19 18,Ql 20 19,Qe 21 20,Qo 22 (.bin .sub (Qu 21) (Qi 1)),Qo 23 (.slice 3 (Qu 17) none (some (Qu 22)) none),Qn 24 14,Qz (.store 1 (Qu 24) (Qu 23))] (QR [Qw 25 3 3,Qo 26 (.mkIface 126 (Qu 25)),Qm 2 26] .ret))
def Ho:ACode:=(.seq (.drawn [QD (Qm 4 0) [],QD (Qn 5 4) [0],QD (Ql 6 5) [1,0],QD (Qm 7 0) [],QD (Qn 8 7) [3],QD (Ql 9 8) [4,3],QD (Qe 10 9) [5,4,3],QD (Qo 11 (.bin .sub (Qu 10) (Qi 1))) [6,5,4,3],QD (Qx 12 3 6 11) [7,6,5,4,3,2,1,0],QD (Qw 13 3 12) [8,7,6,5,4,3,2,1,0],QE (Qo 3 (.alloc [(.int .i64 0),(.bool false),(.int .i64 0)])) [],QE (Qz (.store 3 (Qu 3) (Qu 13))) [10,9,8,7,6,5,4,3,2,1,0]]) Hn)
def Wk:AFun:=⟨27,[.tmp 2],(QR [Qo 2 (.mov (.const .niliface))] Ho)⟩
theorem Wl:(XTab.of Tryd.prog).code 109=some Wk:=by kernel_rfl
def Hp:ACode:=(.drawn [QD (Qm 12 0) [],QD (Qm 13 0) [],QD (Qn 14 13) [1],QD (Ql 15 14) [2,1],QD (Qw 16 3 4) [],QE (Qo 17 (.buildSlice 1 [(.int .i64 0),(.bool false),(.int .i64 0)] [(0,3,(Qu 16))])) [4],QE (KT 18 3 24 15 17) [5,4,3,2,1],QD (Qn 19 12) [6,5,4,3,2,1,0],QE (Qz (.store 1 (Qu 19) (Qu 18))) [7,6,5,4,3,2,1,0]])
def Wm:AFun:=⟨20,[],(QR [Qm 7 1,Qo 8 (.typeAssert 126 (.agg [(.int .i64 0),(.bool false),(.int .i64 0)]) true (Qu 7)),Qm 6 8,KQ 9 0 6,KQ 10 1 6,Qo 4 (.alloc [(.int .i64 0),(.bool false),(.int .i64 0)]),Qz (.store 3 (Qu 4) (Qu 9)),Qm 5 10] (QR [Qm 11 5] (QI 11 Hp .skip)))⟩
theorem Wn:(XTab.of Tryd.prog).code 110=some Wm:=by kernel_rfl
def Wo:AFun:=⟨20,[],(.region [Qm 6 0,Qm 7 1,Qm 8 0,Qm 9 2,Qm 10 0,Qm 11 2,Qx 12 3 10 11,Qw 13 3 12,Qm 14 0,Qm 15 1,Qx 16 3 14 15,Qw 17 3 16,Qx 18 3 6 7,Qz (.store 3 (Qu 18) (Qu 13)),Qx 19 3 8 9,Qz (.store 3 (Qu 19) (Qu 17))])⟩
theorem Wp:(XTab.of Tryd.prog).code 111=some Wo:=by kernel_rfl
end
section
open Go.AE
structure Codes (tab:Tab):Prop where
 Yp:tab.code 4=some Jj
 Yr:tab.code 5=some Yq
 Yt:tab.code 7=some Ys
 Yv:tab.code 8=some Yu
 Yw:tab.code 9=some ZC
 Yy:tab.code 10=some ZF
 Yz:tab.code 11=some Jb
 YA:tab.code 12=some Zc
 YE:tab.code 13=some Ju
 YG:tab.code 14=some Jv
 YI:tab.code 15=some Ze
 YJ:tab.code 16=some Zf
 YL:tab.code 17=some Zg
 YN:tab.code 18=some YM
 YO:tab.code 19=some Zh
 YP:tab.code 20=some Jo
 YQ:tab.code 21=some Jc
 YR:tab.code 22=some JP
 YT:tab.code 23=some YS
 YV:tab.code 24=some Jw
 YW:tab.code 25=some JQ
 YX:tab.code 26=some Jx
 Y0:tab.code 27=some JT
 Y1:tab.code 28=some Jy
 Y2:tab.code 29=some Jz
 Y3:tab.code 30=some Jp
 Y4:tab.code 31=some Zk
 Y5:tab.code 32=some J2
 Y6:tab.code 33=some JC
 Y8:tab.code 34=some ZP
 Xa:tab.code 35=some Jh
 Xc:tab.code 36=some Xb
 ZS:tab.code 37=some Jl
 ZT:tab.code 38=some Zm
 Xd:tab.code 39=some JU
 Xe:tab.code 40=some Jq
 Xg:tab.code 41=some Ja
 Xi:tab.code 42=some Je
 Xk:tab.code 43=some Jn
 Xm:tab.code 44=some ZY
 Xo:tab.code 45=some Zr
 Xq:tab.code 46=some Z0
 Xt:tab.code 47=some Xs
 Xv:tab.code 48=some Xu
 Xw:tab.code 49=some Zs
 Xz:tab.code 50=some Xy
 XA:tab.code 51=some JV
 Z2:tab.code 52=some Jf
 XE:tab.code 53=some Z4
 Z5:tab.code 54=some J5
 XF:tab.code 55=some J6
 XH:tab.code 56=some XG
 XJ:tab.code 57=some Jd
 XL:tab.code 60=some XK
 XN:tab.code 61=some XM
 XP:tab.code 62=some XO
 XT:tab.code 63=some XS
 XV:tab.code 64=some XU
 XX:tab.code 65=some XW
 XZ:tab.code 66=some XY
 X0:tab.code 67=some Zu
 Z8:tab.code 68=some Zv
 X2:tab.code 69=some JH
 X3:tab.code 70=some Zw
 X5:tab.code 72=some X4
 X7:tab.code 73=some Ya
 X9:tab.code 74=some X8
 Wb:tab.code 75=some Wa
 We:tab.code 105=some Wc
 Wg:tab.code 106=some Wf
 Wi:tab.code 107=some Wh
 Wj:tab.code 108=some Jr
 Wl:tab.code 109=some Wk
 Wn:tab.code 110=some Wm
 Wp:tab.code 111=some Wo
theorem Jon {tab:Tab}(h:tab.code=(XTab.of Tryd.prog).code):Codes tab where
 Yp:=h▸Yp
 Yr:=h▸Yr
 Yt:=h▸Yt
 Yv:=h▸Yv
 Yw:=h▸Yw
 Yy:=h▸Yy
 Yz:=h▸Yz
 YA:=h▸YA
 YE:=h▸YE
 YG:=h▸YG
 YI:=h▸YI
 YJ:=h▸YJ
 YL:=h▸YL
 YN:=h▸YN
 YO:=h▸YO
 YP:=h▸YP
 YQ:=h▸YQ
 YR:=h▸YR
 YT:=h▸YT
 YV:=h▸YV
 YW:=h▸YW
 YX:=h▸YX
 Y0:=h▸Y0
 Y1:=h▸Y1
 Y2:=h▸Y2
 Y3:=h▸Y3
 Y4:=h▸Y4
 Y5:=h▸Y5
 Y6:=h▸Y6
 Y8:=h▸Y8
 Xa:=h▸Xa
 Xc:=h▸Xc
 ZS:=h▸ZS
 ZT:=h▸ZT
 Xd:=h▸Xd
 Xe:=h▸Xe
 Xg:=h▸Xg
 Xi:=h▸Xi
 Xk:=h▸Xk
 Xm:=h▸Xm
 Xo:=h▸Xo
 Xq:=h▸Xq
 Xt:=h▸Xt
 Xv:=h▸Xv
 Xw:=h▸Xw
 Xz:=h▸Xz
 XA:=h▸XA
 Z2:=h▸Z2
 XE:=h▸XE
 Z5:=h▸Z5
 XF:=h▸XF
 XH:=h▸XH
 XJ:=h▸XJ
 XL:=h▸XL
 XN:=h▸XN
 XP:=h▸XP
 XT:=h▸XT
 XV:=h▸XV
 XX:=h▸XX
 XZ:=h▸XZ
 X0:=h▸X0
 Z8:=h▸Z8
 X2:=h▸X2
 X3:=h▸X3
 X5:=h▸X5
 X7:=h▸X7
 X9:=h▸X9
 Wb:=h▸Wb
 We:=h▸We
 Wg:=h▸Wg
 Wi:=h▸Wi
 Wj:=h▸Wj
 Wl:=h▸Wl
 Wn:=h▸Wn
 Wp:=h▸Wp
end
end Go.Proofs.YtegdcbdicpfbpaaDoor
set_option linter.unusedSectionVars false
set_option linter.unusedSimpArgs false
namespace Go.AE
variable [Globs]
end Go.AE
open Go.RowKit
namespace Go.AE
variable [Globs]
variable {w':World}
theorem BR.same {aw:AW}{m:Map}{w:World}{b:Nat}{e:Emb}(h:w'.heap[e.c]? = w.heap[e.c]?):∀{x:Blk},BR aw m w b e x→BR aw m w' b e x:=by
 intro x hx;cases x with
 | cells l sh=>intro ha;obtain⟨cur,t,lo,hi,h1,h2⟩:=hx ha;exact⟨cur,t,lo,hi,h.trans h1,h2⟩
 | map es ck=>obtain⟨es',h1,h2⟩:=hx;exact⟨es',h.trans h1,h2⟩
 | mapIter x s q l=>obtain⟨h0,r,h1,h2⟩:=hx;exact⟨h0,r,h.trans h1,h2⟩
theorem R.below {aw:AW}{w:World}{m:Map}{base:Nat}(hR:R aw w m base)(h:Below w.heap.size w w'):R aw w' m base∧Goes aw aw w w' m m:=by
 have hb:∀b e,m b=some e→w'.heap[e.c]? = w.heap[e.c]?:=fun b e he=>h.block e.c (hR.lt b e he).2;refine⟨⟨hR.glob,hR.gblk,hR.famlt,Kj hR.size h.size,fun b e he=>⟨(hR.lt b e he).1,FK (hR.lt b e he).2 h.size⟩,hR.base,fun b e x he hx=>(hR.blk b e x he hx).same (hb b e he),hR.apart,hR.fam⟩,?_⟩;exact⟨.refl m,fun b e he=> .inl he,FH _,h.size,h.os,h.tape,h.output,fun b l hl _=>hl,fun b l hl _=>⟨l,hl⟩,fun c hc _=>h.block c hc,fun b _ hx=>hx,fun _ _ _=>rfl⟩
def JmZ:List Nat→List Nat→Int
 | [],[]=>0
 | [],_::_=>-1
 | _::_,[]=>1
 | a::ar,b::bs=>match Nat.blt a b with
  | true=>-1
  | false=>match Nat.blt b a with
   | true=>1
   | false=>JmZ ar bs
end Go.AE
