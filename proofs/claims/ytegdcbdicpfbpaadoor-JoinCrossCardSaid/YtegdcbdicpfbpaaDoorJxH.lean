/- A part of the proof. -/
import Derived.Test.YtegdcbdicpfbpaaDoorJxE
import Derived.Test.YtegdcbdicpfbpaaDoorJxF
import Derived.Test.YtegdcbdicpfbpaaDoorJxG
import Derived.Lib.Bytealg
import Derived.ProofKit
import Derived.OpenShut
import Derived.Carry
import Derived.ChangeSame
import Derived.Below
set_option maxRecDepth 100000
set_option linter.unusedVariables false
namespace Go.Proofs.YtegdcbdicpfbpaaDoor
open Go.AE
def Hl:ACode:=(QR [Qm 32 0,Qm 33 1,Qo 34 (.slice 1 (Qu 32) none (some (Qu 33)) none),Qm 35 8,Qm 36 7,Qo 37 (.bin .add (Qu 35) (Qu 36)),Qm 38 1,Qo 39 (.bin .sub (Qu 37) (Qu 38)),Qo 40 .stuck,Qm 9 40] (QR [Qm 41 9,Qm 42 1,Qo 43 (.slice 1 (Qu 41) (some (Qu 42)) none none),Qm 44 2,Qo 45 (.copy 1 (Qu 43) (Qu 44))] (QR [Qm 46 9,Qm 47 1,Qm 48 7,Qo 49 (.bin .add (Qu 47) (Qu 48)),Qo 50 (.slice 1 (Qu 46) (some (Qu 49)) none none),Qm 51 0,Qm 52 1,Qo 53 (.slice 1 (Qu 51) (some (Qu 52)) none none),Qo 54 (.copy 1 (Qu 50) (Qu 53))] (QR [Qm 55 9,Qm 6 55] .ret))))
def Hm:ACode:=(QR [Qm 69 0,Qm 70 1,Qm 71 7,Qo 72 (.bin .add (Qu 70) (Qu 71)),Qo 73 (.slice 1 (Qu 69) (some (Qu 72)) none none),Qm 74 0,Qm 75 1,Qo 76 (.slice 1 (Qu 74) (some (Qu 75)) none none),Qo 77 (.copy 1 (Qu 73) (Qu 76))] (QR [Qm 78 0,Qm 79 1,Qo 80 (.slice 1 (Qu 78) (some (Qu 79)) none none),Qm 81 2,Qo 82 (.copy 1 (Qu 80) (Qu 81))] (QR [Qm 83 0,Qm 6 83] .ret)))
def Ze:AFun:=⟨95,[.tmp 6],(QR [KR 6] (QR [Qm 10 0,Qm 11 1,Qo 12 (.slice 1 (Qu 10) (some (Qu 11)) none none)] (QR [Qm 13 2,Qe 14 13,Qm 7 14] (.seq (QR [Qm 15 7,KQ 16 15 0] (QI 16 (QR [Qm 17 0,Qm 6 17] .ret) .skip)) (QR [Qm 18 0,Qe 19 18,Qm 8 19] (.seq (QR [Qm 20 1,Qm 21 8,Qo 22 (.bin .eql (Qu 20) (Qu 21))] (QI 22 (QR [Qm 23 0,Qm 24 2,KV 25 1 24 23 24,Qm 6 25] .ret) .skip)) (.seq (QR [Qm 26 8,Qm 27 7,Qo 28 (.bin .add (Qu 26) (Qu 27)),Qm 29 0,Qo 30 (.cap (Qu 29)),Qo 31 (.bin .gtr (Qu 28) (Qu 30))] (QI 31 Hl .skip)) (QR [Qm 56 0,Qm 57 8,Qm 58 7,Qo 59 (.bin .add (Qu 57) (Qu 58)),Qo 60 (.slice 1 (Qu 56) none (some (Qu 59)) none),Qm 0 60] (.seq (QR [Qm 61 2,Qm 62 0,Qm 63 1,Qm 64 7,Qo 65 (.bin .add (Qu 63) (Qu 64)),Qo 66 (.slice 1 (Qu 62) (some (Qu 65)) none none),Qo 67 (Qc Hc [(Qu 61),(Qu 66)]),Qh 68 67] (QI 68 Hm .skip)) (QR [Qm 84 0,Qm 85 8,Qo 86 (.slice 1 (Qu 84) (some (Qu 85)) none none),Qm 87 2,Qo 88 (.copy 1 (Qu 86) (Qu 87))] (QR [Qm 89 0,Qm 90 1,Qo 91 (.slice 1 (Qu 89) (some (Qu 90)) none none),Qm 92 7,Qo 93 (Qc Hd [(Qu 91),(Qu 92)])] (QR [Qm 94 0,Qm 6 94] .ret))))))))))))⟩
theorem ZJ:(XTab.of Tryd.prog).code 38=some Ze:=by kernel_rfl
def JK:AFun:=⟨8,[.tmp 2],(QR [KR 2] (.seq (QR [Qm 3 0,Qo 4 (.eqv false .slice (Qu 3) (.const .nilslice))] (QI 4 (QR [KR 2] .ret) .skip)) (QR [Qo 5 (.buildSlice 0 [] []),Qm 6 0,KV 7 1 8 5 6,Qm 2 7] .ret)))⟩
theorem Y1:(XTab.of Tryd.prog).code 39=some JK:=by kernel_rfl
def Ji:ACode:=(QR [Qm 10 8,Qm 3 10] (QR [Qm 11 0,Qm 12 3,Qo 13 (.indexStr (Qu 11) (Qu 12)),Qm 4 13] (QR [Qm 14 4,Qo 15 (.bin .geq (Qu 14) (Fv 97)),Qm 16 15,Fs 17 16 4,Qt 18 16 (.bin .leq (Qu 17) (Fv 122)),KJ 19 16 18,Qm 5 19] (QR [Qm 20 5,Qh 21 20,Qm 22 21,Fs 23 22 3,Qt 24 22 (.bin .eql (Qu 23) (Qi 0)),Fs 25 22 24,Fu 26 25 4,Qf 27 25 (.bin .lss (Qu 26) (Fv 48)),Fu 28 25 27,Fu 29 28 4,Qf 30 28 (.bin .gtr (Qu 29) (Fv 57)),Qf 31 25 (.pick (Qu 28) (Qb true) (Qu 30)),Fu 32 25 31,Fs 33 32 4,Qt 34 32 (.bin .neq (Qu 33) (Fv 95)),Qf 35 25 (.pick (Qu 32) (Qu 34) (Qb false)),Qt 36 22 (.pick (Qu 25) (Qb true) (Qu 35)),KJ 37 22 36] (QI 37 (QR [KI 2 false] .ret) .skip)))))
def Jg:ACode:=(QR [Qs 9 8 7] (.seq (QI 9 .skip (.exit 0)) (.seq (.block 1 Ji) (.region [Qd 38 8,Qm 8 38]))))
def Jl:AFun:=⟨46,[.tmp 2],(QR [KI 2 false] (.seq (QR [Qm 6 0,Qo 7 (.lenStr (Qu 6)),KH 8 0] (.block 0 (.loop Jg))) (QR [Qm 39 0,Qo 40 (.bin .neq (Qu 39) (.const (.str []))),Qm 41 40,Fs 42 41 0,Qt 43 41 (.lenStr (Qu 42)),Qt 44 41 (.bin .leq (Qu 43) (Qi 16)),KJ 45 41 44,Qm 2 45] .ret)))⟩
theorem Y2:(XTab.of Tryd.prog).code 40=some Jl:=by kernel_rfl
def ZK:ACode:=(.seq (QR [Qm 11 4,Qm 12 0,Qo 13 (.lenStr (Qu 12)),Qs 14 11 13,Qm 15 14,Fs 16 15 0,Fs 17 15 4,Qt 18 15 (.indexStr (Qu 16) (Qu 17)),Qt 19 15 (Qc Z9 [(Qu 18)]),Fs 20 15 19,Fu 21 20 0,Fu 22 20 4,Qf 23 20 (.indexStr (Qu 21) (Qu 22)),Qf 24 20 (Qc J2 [(Qu 23)]),Qt 25 15 (.pick (Qu 20) (Qb true) (Qu 24)),Fs 26 15 25,Fu 27 26 0,Fu 28 26 4,Qf 29 26 (.indexStr (Qu 27) (Qu 28)),Qf 30 26 (.bin .eql (Qu 29) (Fv 95)),Qt 31 15 (.pick (Qu 26) (Qb true) (Qu 30)),KJ 32 15 31] (QI 32 .skip (.exit 1))) (.block 2 (.region [Qm 33 4,Qd 34 33,Qm 4 34])))
def ZL:ACode:=(.seq (QR [Qm 40 4,Qm 41 0,Qo 42 (.lenStr (Qu 41)),Qs 43 40 42,Qm 44 43,Fs 45 44 0,Fs 46 44 4,Qt 47 44 (.indexStr (Qu 45) (Qu 46)),Qt 48 44 (Qc Z9 [(Qu 47)]),Fs 49 44 48,Fu 50 49 0,Fu 51 49 4,Qf 52 49 (.indexStr (Qu 50) (Qu 51)),Qf 53 49 (Qc Wr [(Qu 52)]),Qt 54 44 (.pick (Qu 49) (Qb true) (Qu 53)),Fs 55 44 54,Fu 56 55 0,Fu 57 55 4,Qf 58 55 (.indexStr (Qu 56) (Qu 57)),Qf 59 55 (Qc J2 [(Qu 58)]),Qt 60 44 (.pick (Qu 55) (Qb true) (Qu 59)),Fs 61 44 60,Fu 62 61 0,Fu 63 61 4,Qf 64 61 (.indexStr (Qu 62) (Qu 63)),Qf 65 61 (.bin .eql (Qu 64) (Fv 95)),Qt 66 44 (.pick (Qu 61) (Qb true) (Qu 65)),KJ 67 44 66] (QI 67 .skip (.exit 3))) (.block 4 (.region [Qm 68 4,Qd 69 68,Qm 4 69])))
def W0:ACode:=(.seq (QR [Qm 93 0,Qo 94 (.indexStr (Qu 93) (Qi 1)),Qo 95 (.bin .eql (Qu 94) (Fv 48))] (QI 95 (QR [KH 2 0,KH 3 0] .ret) .skip)) (.region [KH 4 2]))
def ZM:ACode:=(.seq (QR [Qm 99 4,Qm 100 0,Qo 101 (.lenStr (Qu 100)),Qs 102 99 101,Qm 103 102,Fs 104 103 0,Fs 105 103 4,Qt 106 103 (.indexStr (Qu 104) (Qu 105)),Qt 107 103 (Qc J2 [(Qu 106)]),KJ 108 103 107] (QI 108 .skip (.exit 5))) (.block 6 (.region [Qm 109 4,Qd 110 109,Qm 4 110])))
def ZN:ACode:=(.seq (QR [Qm 90 0,Qo 91 (.indexStr (Qu 90) (Qi 0)),Qo 92 (.bin .eql (Qu 91) (Fv 45))] (QI 92 W0 .skip)) (.seq (QR [Qm 96 0,Qo 97 (.indexStr (Qu 96) (Qi 0)),Qo 98 (.bin .eql (Qu 97) (Fv 48))] (QI 98 (QR [KH 2 1,KH 3 3] .ret) .skip)) (.seq (.block 5 (.loop ZM)) (QR [Qm 111 4,Qm 2 111,KH 3 3] .ret))))
def Gm:ACode:=(QR [Qm 72 0,Qo 73 (.indexStr (Qu 72) (Qi 0)),Qo 74 (Qc J2 [(Qu 73)]),Qm 75 74,Fu 76 75 0,Qf 77 75 (.indexStr (Qu 76) (Qi 0)),Qf 78 75 (.bin .eql (Qu 77) (Fv 45)),Fu 79 75 78,Fs 80 79 0,Qt 81 79 (.lenStr (Qu 80)),Qt 82 79 (.bin .gtr (Qu 81) (Qi 1)),Qf 83 75 (.pick (Qu 79) (Qu 82) (Qb false)),Fu 84 75 83,Fs 85 84 0,Qt 86 84 (.indexStr (Qu 85) (Qi 1)),Qt 87 84 (Qc J2 [(Qu 86)]),Qf 88 75 (.pick (Qu 84) (Qu 87) (Qb false)),KL 89 75 88,Qm 71 89] (QI 71 ZN .skip))
def Gn:ACode:=(QR [Qm 37 0,Qo 38 (.indexStr (Qu 37) (Qi 0)),Qo 39 (Qc Wr [(Qu 38)]),Qm 36 39] (QI 36 (.seq (.block 3 (.loop ZL)) (QR [Qm 70 4,Qm 2 70,KH 3 2] .ret)) Gm))
def Gp:ACode:=(QR [Qm 8 0,Qo 9 (.indexStr (Qu 8) (Qi 0)),Qo 10 (Qc Z9 [(Qu 9)]),Qm 7 10] (QI 7 (.seq (.block 1 (.loop ZK)) (QR [Qm 35 4,Qm 2 35,KH 3 1] .ret)) Gn))
def Y3:ACode:=(QR [Qm 117 0,Qo 118 (.lenStr (Qu 117)),Qo 119 (.bin .geq (Qu 118) (Qi 2)),Qm 120 119,Fs 121 120 0,Qt 122 120 (.sliceStr (Qu 121) none (some (Qi 2))),Fs 123 120 5,Fs 124 120 6,KW 125 120 1 123 124,KM 126 120 1 125,Qt 127 120 (.bin .eql (Qu 122) (Qu 126)),KJ 128 120 127] (QI 128 (QR [KH 2 2,KH 3 4] .ret) .skip))
def Zf:ACode:=(.seq (QR [Qm 113 6,Qo 114 (.bin .lss (Qu 113) (Qi 3))] (QI 114 .skip (.exit 7))) (.seq (.block 8 Y3) (.region [Qm 115 6,Qd 116 115,Qm 6 116])))
def Jx:ACode:=(QR [Qo 137 (.bin .eql (Qu 130) (Fv 61)),Qm 131 137] (QI 131 .skip (.region [Qo 138 (.bin .eql (Qu 130) (Fv 60)),Qm 131 138])))
def Jy:ACode:=(QR [Qo 135 (.bin .eql (Qu 130) (Fv 46)),Qm 131 135] (QI 131 .skip (QR [Qo 136 (.bin .eql (Qu 130) (Fv 33)),Qm 131 136] (QI 131 .skip Jx))))
def Jz:ACode:=(QR [Qo 133 (.bin .eql (Qu 130) (Fv 41)),Qm 131 133] (QI 131 .skip (QR [Qo 134 (.bin .eql (Qu 130) (Fv 44)),Qm 131 134] (QI 131 .skip Jy))))
def Jt:ACode:=(.seq (QR [Qo 132 (.bin .eql (Qu 130) (Fv 40)),Qm 131 132] (QI 131 .skip Jz)) (QI 131 (QR [KH 2 1,KH 3 4] .ret) .skip))
def Ja:AFun:=⟨139,[.tmp 2,.tmp 3],(QR [KH 2 0,KH 3 0] (QR [KH 4 1] (.seq (.block 0 Gp) (.seq (.region [Qo 112 (.buildSlice 3 [(.str []),(.str []),(.str [])] [(0,1,(.const (.str [58,45]))),(1,1,(.const (.str [33,61]))),(2,1,(.const (.str [60,61])))]),Qm 5 112]) (.seq (QR [KH 6 0] (.block 7 (.loop Zf))) (.seq (QR [Qm 129 0,Qo 130 (.indexStr (Qu 129) (Qi 0))] (.block 9 Jt)) (QR [KH 2 0,KH 3 0] .ret)))))))⟩
theorem Y4:(XTab.of Tryd.prog).code 41=some Ja:=by kernel_rfl
def W9:ACode:=(QR [Qm 37 0,Qo 38 (Qc Jn [(Qu 37),(Qi 4)])] (.seq (.region [Qo 39 (.build [(.int .i64 0),(.str []),(.int .i64 0)] []),Qz (.store 3 (Qu 2) (Qu 39))]) .ret))
def Gq:ACode:=(.seq (.region [Qa 66 1 3,Ql 67 66,Qo 68 (.build [(.int .i64 0),(.str []),(.int .i64 0)] [(0,1,(Qi 1)),(1,1,(Qu 67))]),Qz (.store 3 (Qu 2) (Qu 68))]) .ret)
def Gr:ACode:=(.seq (.region [Qa 61 1 3,Ql 62 61,Qo 63 (.build [(.int .i64 0),(.str []),(.int .i64 0)] [(0,1,(Qi 2)),(1,1,(Qu 62))]),Qz (.store 3 (Qu 2) (Qu 63))]) .ret)
def Y5:ACode:=(QR [KQ 60 58 1,Qm 59 60] (QI 59 Gr (QR [KQ 65 58 2,Qm 64 65] (QI 64 Gq .skip))))
def Gs:ACode:=(.region [Qm 81 4,Qo 82 (.bin .mul (Qu 81) (Qi 10)),Qa 83 1 3,Ql 84 83,Qm 85 5,Qo 86 (.indexStr (Qu 84) (Qu 85)),Qo 87 (.bin .sub (Qu 86) (Fv 48)),Qo 88 (.conv .i64 (Qu 87)),Qo 89 (.bin .add (Qu 82) (Qu 88)),Qm 4 89])
def Va:ACode:=(QR [Qa 76 1 3,Ql 77 76,Qm 78 5,Qo 79 (.indexStr (Qu 77) (Qu 78)),Qo 80 (.bin .neq (Qu 79) (Fv 45))] (QI 80 Gs .skip))
def Zg:ACode:=(.seq (QR [Qm 69 5,Qa 70 1 3,Ql 71 70,Qo 72 (.lenStr (Qu 71)),Qs 73 69 72] (QI 73 .skip (.exit 1))) (.seq (.block 2 Va) (.region [Qm 74 5,Qd 75 74,Qm 5 75])))
def Gt:ACode:=(QR [Qm 92 0,Qo 93 (Qc Jn [(Qu 92),(Qi 4)])] (.seq (.region [Qo 94 (.build [(.int .i64 0),(.str []),(.int .i64 0)] []),Qz (.store 3 (Qu 2) (Qu 94))]) .ret))
def Jd:AFun:=⟨103,[.cell 2 3 true],(.seq (.region [Qo 2 (.alloc [(.int .i64 0),(.str []),(.int .i64 0)])]) (.seq (QR [Qm 6 0,Qn 7 6,Qa 8 2 7,Ql 9 8,Qo 10 (.bin .neq (Qu 9) (Qi 0)),Qm 11 10,Fu 12 11 0,Qf 13 11 (.nilCheck (Qu 12)),KP 14 11 1 13,KN 15 11 1 14,Fu 16 11 0,Qf 17 11 (.nilCheck (Qu 16)),KP 18 11 0 17,KN 19 11 1 18,Qf 20 11 (.lenSl (Qu 19)),Qf 21 11 (.bin .geq (Qu 15) (Qu 20)),KL 22 11 21,Qm 23 22,Fu 24 23 0,Qf 25 23 (.nilCheck (Qu 24)),KP 26 23 0 25,KN 27 23 1 26,Fu 28 23 0,Qf 29 23 (.nilCheck (Qu 28)),KP 30 23 1 29,KN 31 23 1 30,Qf 32 23 (.indexAddr 3 (Qu 27) (Qu 31)),KP 33 23 0 32,KN 34 23 1 33,Qf 35 23 (.bin .eql (Qu 34) (Qi 4)),KL 36 23 35] (QI 36 W9 .skip)) (.seq (.drawn [QD (Qm 40 0) [],QD (Qn 41 40) [0],QD (Qa 42 0 41) [1,0],QD (Ql 43 42) [2,1,0],QD (Qm 44 0) [],QD (Qn 45 44) [4],QD (Qa 46 1 45) [5,4],QD (Ql 47 46) [6,5,4],QD (Qx 48 3 43 47) [7,6,5,4,3,2,1,0],QD (Qw 49 3 48) [8,7,6,5,4,3,2,1,0],QE (Qo 3 (.alloc [(.int .i64 0),(.str []),(.int .i64 0)])) [],QE (Qz (.store 3 (Qu 3) (Qu 49))) [10,9,8,7,6,5,4,3,2,1,0]]) (QR [Qm 50 0,Qn 51 50,Qa 52 1 51,Ql 53 52,Qd 54 53,Qn 55 50,Qa 56 1 55,Qz (.store 1 (Qu 56) (Qu 54))] (.seq (QR [Qa 57 0 3,Ql 58 57] (.block 0 Y5)) (QR [KH 4 0] (.seq (QR [KH 5 0] (.block 1 (.loop Zg))) (.seq (QR [Qm 90 4,Qo 91 (.bin .gtr (Qu 90) (Qi 2147483648))] (QI 91 Gt .skip)) (.seq (QR [Qa 95 1 3,Ql 96 95,Qo 97 (.indexStr (Qu 96) (Qi 0)),Qo 98 (.bin .eql (Qu 97) (Fv 45))] (QI 98 (.region [Qm 99 4,Qo 100 (.un .neg (Qu 99)),Qm 4 100]) .skip)) (.seq (.region [Qm 101 4,Qo 102 (.build [(.int .i64 0),(.str []),(.int .i64 0)] [(0,1,(Qi 3)),(2,1,(Qu 101))]),Qz (.store 3 (Qu 2) (Qu 102))]) .ret))))))))))⟩
theorem Y6:(XTab.of Tryd.prog).code 42=some Jd:=by kernel_rfl
def Y7:ACode:=(QR [Qo 9 (.bin .eql (Qu 3) (.const (.str [60]))),Qm 8 9] (QI 8 (QR [KH 2 5] .ret) (QR [Qo 11 (.bin .eql (Qu 3) (.const (.str [60,61]))),Qm 10 11] (QI 10 (QR [KH 2 6] .ret) .skip))))
def Zh:ACode:=(QR [Qo 5 (.bin .eql (Qu 3) (.const (.str [61]))),Qm 4 5] (QI 4 (QR [KH 2 3] .ret) (QR [Qo 7 (.bin .eql (Qu 3) (.const (.str [33,61]))),Qm 6 7] (QI 6 (QR [KH 2 4] .ret) Y7))))
def Jj:AFun:=⟨12,[.tmp 2],(QR [KH 2 0] (.seq (QR [Qm 3 0] (.block 0 Zh)) (QR [KH 2 0] .ret)))⟩
theorem Y8:(XTab.of Tryd.prog).code 43=some Jj:=by kernel_rfl
def Gu:ACode:=(QR [Qm 26 4,Qa 27 2 6,Ql 28 27,Qo 29 (Qc J1 [(Qu 28)]),KV 30 1 16 26 29,Qm 4 30] (.exit 1))
def Gv:ACode:=(.region [Qm 39 3,Qm 40 8,Qo 41 (.lookup (.scalar .str) (.int .i64 0) false (Qu 39) (Qu 40)),Qd 42 41,Qz (.mapUpdate (.scalar .str) (Qu 39) (Qu 40) (Qu 42))])
def Gw:ACode:=(.seq (.block 3 (QR [Qx 37 1 33 35,Ql 38 37,Qm 8 38] Gv)) (.region [Qd 43 35,Qm 35 43]))
def Zi:ACode:=(QR [Qs 36 35 34] (.seq (QI 36 .skip (.exit 2)) Gw))
def Gx:ACode:=(QR [Qa 31 2 6,Ql 32 31,Qo 33 (Qc J1 [(Qu 32)]),Qe 34 33,KH 35 0] (.block 2 (.loop Zi)))
def Vb:ACode:=(.seq (.region [Qx 21 3 17 19,Qw 22 3 21,Qo 6 (.alloc [(.int .i64 0),(.str []),.nilslice]),Qz (.store 3 (Qu 6) (Qu 22))]) (.seq (QR [Qa 23 0 6,Ql 24 23,Qo 25 (.bin .neq (Qu 24) (Qi 1))] (QI 25 Gu .skip)) Gx))
def JU:ACode:=(QR [Qs 20 19 18] (.seq (QI 20 .skip (.exit 0)) (.seq (.block 1 Vb) (.region [Qd 44 19,Qm 19 44]))))
def Gy:ACode:=(QR [KI 2 false] .ret)
def Vc:ACode:=(QR [Qm 51 3,Qm 52 10,Qo 53 (.lookup (.scalar .str) (.int .i64 0) false (Qu 51) (Qu 52)),KQ 54 53 0] (QI 54 Gy .skip))
def Vd:ACode:=(.seq (.block 5 (QR [Qx 49 1 45 47,Ql 50 49,Qm 10 50] Vc)) (.region [Qd 55 47,Qm 47 55]))
def Y9:ACode:=(QR [Qs 48 47 46] (.seq (QI 48 .skip (.exit 4)) Vd))
def Gz:ACode:=(.seq (QR [Qa 16 3 1,Ql 17 16,Qe 18 17,KH 19 0] (.block 0 (.loop JU))) (.seq (QR [Qm 45 4,Qe 46 45,KH 47 0] (.block 4 (.loop Y9))) (QR [KI 2 true] .ret)))
def GA:ACode:=(QR [Qa 12 0 1,Qa 13 2 12,Ql 14 13,Qo 15 (Qc J1 [(Qu 14)]),Qm 4 15] Gz)
def ZO:AFun:=⟨56,[.tmp 2],(QR [KU 1 0,KI 2 false] (QR [Qo 11 .mkMap,Qm 3 11] GA))⟩
theorem Xa:(XTab.of Tryd.prog).code 44=some ZO:=by kernel_rfl
def GB:ACode:=(.region [Qm 60 0,Qm 61 0,Qn 62 61,Qa 63 3 62,Qa 64 1 63,Ql 65 64,Qm 66 5,Qo 67 (.buildSlice 1 [(.str [])] [(0,1,(Qu 66))]),KV 68 1 16 65 67,Qn 69 60,Qa 70 3 69,Qa 71 1 70,Qz (.store 1 (Qu 71) (Qu 68))])
def Ve:ACode:=(QR [Qm 53 0,Qn 54 53,Qa 55 1 54,Ql 56 55,Qm 57 5,Qo 58 (.lookup (.scalar .str) (.int .i64 0) false (Qu 56) (Qu 57)),KQ 59 58 1] (QI 59 GB .skip))
def Vf:ACode:=(QR [Qm 46 0,Qn 47 46,Qa 48 1 47,Ql 49 48,Qm 50 5,Qo 51 (.lookup (.scalar .str) (.int .i64 0) false (Qu 49) (Qu 50)),Qd 52 51,Qz (.mapUpdate (.scalar .str) (Qu 49) (Qu 50) (Qu 52))] Ve)
def Vg:ACode:=(.seq (.block 1 (QR [Qx 44 1 40 42,Ql 45 44,Qm 5 45] Vf)) (.region [Qd 72 42,Qm 42 72]))
def Xb:ACode:=(QR [Qs 43 42 41] (.seq (QI 43 .skip (.exit 0)) Vg))
def GC:ACode:=(QR [Qm 32 0,Qn 33 32,Qa 34 0 33,Ql 35 34,Qm 36 1,Qx 37 3 35 36,Qa 38 2 37,Ql 39 38,Qo 40 (Qc J1 [(Qu 39)]),Qe 41 40,KH 42 0] (.block 0 (.loop Xb)))
def Vh:ACode:=(.seq (QR [Qm 23 0,Qn 24 23,Qa 25 0 24,Ql 26 25,Qm 27 1,Qx 28 3 26 27,Qa 29 0 28,Ql 30 29,Qo 31 (.bin .neq (Qu 30) (Qi 1))] (QI 31 .ret .skip)) GC)
def Vi:ACode:=(QR [Qm 11 0,Qm 12 0,Qn 13 12,Qa 14 3 13,Qa 15 0 14,Ql 16 15,Qm 17 1,Qo 18 (.buildSlice 1 [(.int .i64 0)] [(0,1,(Qu 17))]),KV 19 1 8 16 18,Qn 20 11,Qa 21 3 20,Qa 22 0 21,Qz (.store 1 (Qu 22) (Qu 19))] Vh)
def Zj:AFun:=⟨73,[],(QR [Qm 6 0,Qn 7 6,Qa 8 2 7,Ql 9 8,Qm 10 1,Qz (.mapUpdate (.scalar .int) (Qu 9) (Qu 10) (Qi 1))] Vi)⟩
theorem Xc:(XTab.of Tryd.prog).code 45=some Zj:=by kernel_rfl
def Vj:ACode:=(.region [Qm 48 3,Qo 49 (.mkIface 120 (Qu 48)),Qm 50 4,Qm 51 7,Qm 52 6,Qo 53 (.build [(.int .i64 0),(.bool false),(.int .i64 0)] [(0,1,(Qu 50)),(1,1,(Qu 51)),(2,1,(Qu 52))]),Qo 54 (.mkIface 126 (Qu 53)),Qo 55 (Qc V3 [(Qu 49),(Qu 54)])])
def ZP:ACode:=(.seq (QR [Qm 28 0,Qn 29 28,Qa 30 2 29,Ql 31 30,Qm 32 4,Qo 33 (.lookup (.scalar .int) (.int .i64 0) false (Qu 31) (Qu 32)),Qo 34 (.bin .gtr (Qu 33) (Qi 0)),Qm 35 34,Fu 36 35 7,Qf 37 35 (.un .not (Qu 36)),Fu 38 35 37,Fs 39 38 6,KO 40 38 2 5,KM 41 38 1 40,Qt 42 38 (.lenSl (Qu 41)),Qt 43 38 (.bin .lss (Qu 39) (Qu 42)),Qf 44 35 (.pick (Qu 38) (Qu 43) (Qb false)),KL 45 35 44] (QI 45 (.exit 1) .skip)) (.seq (QR [Qm 46 7,Qh 47 46] (QI 47 (.region [KH 6 0]) .skip)) Vj))
def GD:ACode:=(QR [Qm 22 0,Qw 23 3 5,Qo 24 (Qc V2 [(Qu 22),(Qu 23)]),Qm 6 24] (QR [Qa 25 0 5,Ql 26 25,KQ 27 26 1,Qm 7 27] ZP))
def GE:ACode:=(.seq (.region [Qm 19 17,Qx 20 3 15 17,Qw 21 3 20,Qo 5 (.alloc [(.int .i64 0),(.str []),.nilslice]),Qm 4 19,Qz (.store 3 (Qu 5) (Qu 21))]) GD)
def Xd:ACode:=(QR [Qs 18 17 16] (.seq (QI 18 .skip (.exit 0)) (.seq (.block 1 GE) (.region [Qd 56 17,Qm 17 56]))))
def Vk:ACode:=(QR [Qm 58 3,Qo 59 (.mkIface 120 (Qu 58)),Qo 60 (Qc V4 [(Qu 59)]),Qo 61 (.typeAssert 126 (.agg [(.int .i64 0),(.bool false),(.int .i64 0)]) true (Qu 60)),Qm 57 61,KT 62 0 57,KT 63 1 57,Qo 8 (.alloc [(.int .i64 0),(.bool false),(.int .i64 0)]),Qz (.store 3 (Qu 8) (Qu 62)),Qm 9 63] (QR [Qa 64 0 8,Ql 65 64,Qm 2 65] .ret))
def GF:ACode:=(.seq (QR [Qm 12 0,Qn 13 12,Qa 14 0 13,Ql 15 14,Qe 16 15,KH 17 0] (.block 0 (.loop Xd))) Vk)
def ZQ:AFun:=⟨66,[.tmp 2],(QR [KH 2 0] (QR [Qo 10 (.buildSlice 0 [] []),KU 11 10,Qm 3 11] GF))⟩
theorem Xe:(XTab.of Tryd.prog).code 46=some ZQ:=by kernel_rfl
def GH:ACode:=(.region [Qm 27 3,Qa 28 1 6,Ql 29 28,Qo 30 (.buildSlice 1 [(.str [])] [(0,1,(Qu 29))]),KV 31 1 16 27 30,Qm 3 31])
def Vl:ACode:=(QR [Qm 22 4,Qa 23 1 6,Ql 24 23,Qo 25 (.lookup (.scalar .str) (.int .i64 0) false (Qu 22) (Qu 24)),KQ 26 25 1] (QI 26 GH .skip))
def Vn:ACode:=(QR [Qm 17 4,Qa 18 1 6,Ql 19 18,Qo 20 (.lookup (.scalar .str) (.int .i64 0) false (Qu 17) (Qu 19)),Qd 21 20,Qz (.mapUpdate (.scalar .str) (Qu 17) (Qu 19) (Qu 21))] Vl)
def Xf:ACode:=(.seq (.region [Qx 12 3 8 10,Qw 13 3 12,Qo 6 (.alloc [(.int .i64 0),(.str []),(.int .i64 0)]),Qz (.store 3 (Qu 6) (Qu 13))]) (QR [Qa 14 0 6,Ql 15 14,KQ 16 15 1] (QI 16 Vn .skip)))
def ZR:ACode:=(QR [Qs 11 10 9] (.seq (QI 11 .skip (.exit 0)) (.seq (.block 1 Xf) (.region [Qd 32 10,Qm 10 32]))))
def GJ:ACode:=(.seq (QR [Qm 8 0,Qe 9 8,KH 10 0] (.block 0 (.loop ZR))) (QR [Qm 33 3,Qm 2 33] .ret))
def Xg:AFun:=⟨34,[.tmp 2],(QR [KR 2] (QR [KR 3] (QR [Qo 7 .mkMap,Qm 4 7] GJ)))⟩
theorem Xh:(XTab.of Tryd.prog).code 47=some Xg:=by kernel_rfl
def GK:ACode:=(.region [Qm 22 5,Qm 23 0,Qn 24 23,Qa 25 12 24,Ql 26 25,Qm 27 7,Qo 28 (.lookup (.scalar .str) (.int .i64 0) false (Qu 26) (Qu 27)),Qo 29 (Qc Ya [(Qu 28)]),Qo 30 (.bin .add (.const (.str [32])) (Qu 29)),Qo 31 (.bin .add (Qu 22) (Qu 30)),Qm 5 31])
def GL:ACode:=(.seq (.block 1 (QR [Qx 20 1 16 18,Ql 21 20,Qm 7 21] GK)) (.region [Qd 32 18,Qm 18 32]))
def Vo:ACode:=(QR [Qs 19 18 17] (.seq (QI 19 .skip (.exit 0)) GL))
def GM:ACode:=(.seq (QR [Qm 10 0,Qn 11 10,Qa 12 10 11,Ql 13 12,Qm 14 1,Qx 15 1 13 14,Ql 16 15,Qe 17 16,KH 18 0] (.block 0 (.loop Vo))) (QR [Qm 33 5,Qm 4 33] .ret))
def Xi:AFun:=⟨34,[.tmp 4],(QR [Qo 4 (.mov (.const (.str [])))] (QR [Qm 8 1,Qo 9 (Qc Ya [(Qu 8)]),Qm 5 9] GM))⟩
theorem Xj:(XTab.of Tryd.prog).code 48=some Xi:=by kernel_rfl
def Vp:ACode:=(.seq (.drawn [QD (Qm 3 0) [],QD (Qn 4 3) [0],QD (Qa 5 14 4) [1,0],QD (Ql 6 5) [2,1,0],QD (Qo 7 (.bin .geq (Qu 6) (Qi 0))) [3,2,1,0],QD (Qm 8 7) [4,3,2,1,0],QD (Fs 9 8 0) [5,4,3,2,1,0],QD (Qt 10 8 (.nilCheck (Qu 9))) [6,5,4,3,2,1,0],QD (KO 11 8 13 10) [7,6,5,4,3,2,1,0],QD (KM 12 8 1 11) [8,7,6,5,4,3,2,1,0],QE (Qt 13 8 (Qc Yb [(Qu 12)])) [9,8,7,6,5,4,3,2,1,0],QD (Fs 14 8 0) [5,4,3,2,1,0],QD (Qt 15 8 (.nilCheck (Qu 14))) [11,5,4,3,2,1,0],QD (KO 16 8 14 15) [12,11,5,4,3,2,1,0],QD (KM 17 8 1 16) [13,12,11,5,4,3,2,1,0],QD (Qt 18 8 (.bin .gtr (Qu 13) (Qu 17))) [14,13,12,11,10,9,8,7,6,5,4,3,2,1,0],QD (KJ 19 8 18) [15,14,13,12,11,10,9,8,7,6,5,4,3,2,1,0],QD (Qm 2 19) [16,15,14,13,12,11,10,9,8,7,6,5,4,3,2,1,0]]) .ret)
def Zk:AFun:=⟨20,[.tmp 2],(QR [KI 2 false] Vp)⟩
theorem Xk:(XTab.of Tryd.prog).code 49=some Zk:=by kernel_rfl
def GN:ACode:=(.region [Qm 33 5,Qm 34 6,Qm 35 0,Qn 36 35,Qa 37 4 36,Ql 38 37,Qw 39 3 7,Qo 40 (Qc JY [(Qu 38),(Qu 39)]),Qx 41 1 33 34,Qz (.store 1 (Qu 41) (Qu 40))])
def Vq:ACode:=(QR [Qm 20 5,Qm 21 6,Qm 22 0,Qn 23 22,Qa 24 12 23,Ql 25 24,Qa 26 1 7,Ql 27 26,Qo 28 (.lookup (.scalar .str) (.int .i64 0) false (Qu 25) (Qu 27)),Qx 29 1 20 21,Qz (.store 1 (Qu 29) (Qu 28))] (QR [Qa 30 0 7,Ql 31 30,Qo 32 (.bin .neq (Qu 31) (Qi 1))] (QI 32 GN .skip)))
def Vr:ACode:=(.seq (.region [Qm 17 15,Qx 18 3 13 15,Qw 19 3 18,Qo 7 (.alloc [(.int .i64 0),(.str []),(.int .i64 0)]),Qm 6 17,Qz (.store 3 (Qu 7) (Qu 19))]) Vq)
def Xl:ACode:=(QR [Qs 16 15 14] (.seq (QI 16 .skip (.exit 0)) (.seq (.block 1 Vr) (.region [Qd 42 15,Qm 15 42]))))
def GO:ACode:=(.seq (QR [Qa 12 2 3,Ql 13 12,Qe 14 13,KH 15 0] (.block 0 (.loop Xl))) (QR [Qm 43 5,Qm 4 43] .ret))
def Xm:AFun:=⟨44,[.tmp 4],(QR [KU 3 1,KR 4] (QR [Qa 8 2 3,Ql 9 8,Qe 10 9,Qo 11 (.mkSlice 1 8 [(.int .i64 0)] (Qu 10) (Qu 10)),Qm 5 11] GO))⟩
theorem Xn:(XTab.of Tryd.prog).code 50=some Xm:=by kernel_rfl
def GP:ACode:=(.region [Qm 25 0,Qn 26 25,Qa 27 5 26,Ql 28 27,Qa 29 1 5,Ql 30 29,Qo 31 (.inv [(44,Jo,none)] (Qu 28) [(Qu 30)]),Qm 6 31])
def Vs:ACode:=(QR [Qo 4 (.mov (.const .nilptr))] .ret)
def Vt:ACode:=(.seq (.seq (.drawn [QD (Qm 32 6) [],QE (Qo 33 (Qc Yc [(Qu 32)])) [0],QD (Qa 34 2 5) [],QD (Ql 35 34) [2],QD (Qe 36 35) [3,2],QD (Qo 37 (.bin .neq (Qu 33) (Qu 36))) [4,3,2,1,0]]) (QI 37 Vs .skip)) (QR [Qm 38 6,Qm 4 38] .ret))
def Vu:ACode:=(.seq (QR [Qm 19 1,Qm 20 0,Qn 21 20,Qa 22 8 21,Ql 23 22,Qo 24 (.bin .neq (Qu 19) (Qu 23))] (QI 24 GP .skip)) Vt)
def Vv:ACode:=(.seq (.region [Qm 7 0,Qn 8 7,Qa 9 0 8,Qa 10 3 9,Ql 11 10,Qm 12 1,Qx 13 3 11 12,Qw 14 3 13,Qo 5 (.alloc [(.int .i64 0),(.str []),.nilslice]),Qz (.store 3 (Qu 5) (Qu 14))]) (QR [Qm 15 0,Qn 16 15,Qa 17 9 16,Ql 18 17,Qm 6 18] Vu))
def JL:AFun:=⟨39,[.tmp 4],(QR [Qo 4 (.mov (.const .nilptr))] Vv)⟩
theorem Xo:(XTab.of Tryd.prog).code 51=some JL:=by kernel_rfl
def GQ:ACode:=(.region [Qm 31 5,Qm 32 7,Qo 33 (Qc Wo [(Qu 32)]),Qo 34 (.buildSlice 1 [.nilslice] [(0,1,(Qu 33))]),KV 35 1 24 31 34,Qm 5 35])
def GR:ACode:=(QR [Qx 26 1 22 24,Ql 27 26,Qm 7 27] (QR [Qm 28 7,Qm 29 1,Qo 30 (Qc V5 [(Qu 28),(Qu 29)])] (QI 30 GQ .skip)))
def Xp:ACode:=(QR [Qs 25 24 23] (.seq (QI 25 .skip (.exit 0)) (.seq (.block 1 GR) (.region [Qd 36 24,Qm 24 36]))))
def Je:AFun:=⟨38,[.tmp 4],(QR [KR 4] (.seq (QR [Qm 8 0,Qo 9 (.eqv false .ptr (Qu 8) (.const .nilptr)),Qm 10 9,Fu 11 10 1,Qf 12 10 (.lenSl (Qu 11)),Fu 13 10 0,Qf 14 10 (.nilCheck (Qu 13)),KP 15 10 0 14,KN 16 10 1 15,Qf 17 10 (.bin .neq (Qu 12) (Qu 16)),KL 18 10 17] (QI 18 (QR [KR 4] .ret) .skip)) (QR [KR 5] (.seq (QR [Qm 19 0,Qn 20 19,Qa 21 1 20,Ql 22 21,Qe 23 22,KH 24 0] (.block 0 (.loop Xp))) (QR [Qm 37 5,Qm 4 37] .ret)))))⟩
theorem ZS:(XTab.of Tryd.prog).code 52=some Je:=by kernel_rfl
def GS:ACode:=(QR [Qm 43 8,Qm 6 43,KI 7 false] .ret)
def GU:ACode:=(.region [Qm 56 8,Qa 57 1 10,Ql 58 57,Qo 59 (.buildSlice 1 [(.str [])] [(0,1,(Qu 58))]),KV 60 1 16 56 59,Qm 8 60])
def GV:ACode:=(QR [Qm 46 0,Qn 47 46,Qa 48 12 47,Ql 49 48,Qa 50 1 10,Ql 51 50,Qm 52 2,Qm 53 9,Qx 54 1 52 53,Ql 55 54,Qz (.mapUpdate (.scalar .str) (Qu 49) (Qu 51) (Qu 55))] GU)
def Xq:ACode:=(.seq (QR [Qm 34 12,Qm 35 34,Fs 36 35 11,Fs 37 35 2,Fs 38 35 9,KW 39 35 1 37 38,KM 40 35 1 39,Qt 41 35 (.bin .neq (Qu 36) (Qu 40)),KJ 42 35 41] (QI 42 GS .skip)) (QR [Qm 44 12,Qh 45 44] (QI 45 GV .skip)))
def Xr:ACode:=(QR [Qm 25 0,Qn 26 25,Qa 27 12 26,Ql 28 27,Qa 29 1 10,Ql 30 29,Qo 31 (.lookup (.scalar .str) (.int .i64 0) true (Qu 28) (Qu 30)),Qm 24 31,KT 32 0 24,KT 33 1 24,Qm 11 32,Qm 12 33] Xq)
def ZT:ACode:=(.seq (.region [Qm 18 16,Qx 19 3 14 16,Qw 20 3 19,Qo 10 (.alloc [(.int .i64 0),(.str []),(.int .i64 0)]),Qm 9 18,Qz (.store 3 (Qu 10) (Qu 20))]) (.seq (QR [Qa 21 0 10,Ql 22 21,Qo 23 (.bin .neq (Qu 22) (Qi 1))] (QI 23 (.exit 1) .skip)) Xr))
def Zl:ACode:=(QR [Qs 17 16 15] (.seq (QI 17 .skip (.exit 0)) (.seq (.block 1 ZT) (.region [Qd 61 16,Qm 16 61]))))
def GW:ACode:=(.seq (QR [Qa 13 2 4,Ql 14 13,Qe 15 14,KH 16 0] (.block 0 (.loop Zl))) (QR [Qm 62 8,Qm 6 62,KI 7 true] .ret))
def ZU:AFun:=⟨63,[.tmp 6,.tmp 7],(QR [KU 4 1,KR 6,KI 7 false] (QR [KR 8] GW))⟩
theorem Xs:(XTab.of Tryd.prog).code 53=some ZU:=by kernel_rfl
def JV:AFun:=⟨14,[.tmp 4],(QR [KI 4 false] (QR [Qm 8 0,Qm 9 1,Qo 10 (Qc Wn [(Qu 8),(Qu 9)]),Qm 7 10,KT 11 0 7,KT 12 1 7,Qm 5 11,Qm 6 12] (QR [Qm 13 6,Qm 4 13] .ret)))⟩
theorem ZV:(XTab.of Tryd.prog).code 54=some JV:=by kernel_rfl
section
open Go.AE
def GX:ACode:=(QR [Qm 18 9,Qm 19 10,Qo 20 (.bin .add (Qu 18) (Qu 19)),Qo 21 (.conv .u64 (Qu 20)),Qo 22 (.bin .shr (Qu 21) (.const (.int .u64 1))),Qo 23 (.conv .i64 (Qu 22)),Qm 11 23] (QR [Qm 24 2,Qm 25 0,Qm 26 11,Qx 27 1 25 26,Ql 28 27,Qm 29 1,Qo 30 (.call (Qu 24) [(Qu 28),(Qu 29)]),Qo 31 (.bin .lss (Qu 30) (Qi 0))] (QI 31 (.region [Qm 32 11,Qd 33 32,Qm 9 33]) (.region [Qm 34 11,Qm 10 34]))))
def ZW:ACode:=(.seq (QR [Qm 15 9,Qm 16 10,Qs 17 15 16] (QI 17 .skip (.exit 0))) (.block 1 GX))
def JW:AFun:=⟨49,[.tmp 6,.tmp 7],(QR [KH 6 0,KI 7 false] (QR [Qm 12 0,Qe 13 12,Qm 8 13] (QR [Qm 14 8,KH 9 0,Qm 10 14] (.seq (.block 0 (.loop ZW)) (QR [Qm 35 9,Qm 36 9,Qm 37 8,Qs 38 36 37,Qm 39 38,Fs 40 39 2,Fs 41 39 0,Fs 42 39 9,KW 43 39 1 41 42,KM 44 39 1 43,Fs 45 39 1,Qt 46 39 (.call (Qu 40) [(Qu 44),(Qu 45)]),Qt 47 39 (.bin .eql (Qu 46) (Qi 0)),KJ 48 39 47,Qm 6 35,Qm 7 48] .ret)))))⟩
theorem Xt:(XTab.of Tryd.prog).code 55=some JW:=by kernel_rfl
def Xu:AFun:=⟨8,[.tmp 4],(QR [KH 4 0] (QR [Qm 5 0,Qm 6 1,Qo 7 (Qc V1 [(Qu 5),(Qu 6)]),Qm 4 7] .ret))⟩
theorem Xv:(XTab.of Tryd.prog).code 56=some Xu:=by kernel_rfl
def Xw:ACode:=(QR [Qm 13 11,Qx 14 1 9 11,Ql 15 14,Qm 5 13,Qm 6 15] (.seq (QR [Qm 16 5,Qm 17 1,Qe 18 17,Qo 19 (.bin .geq (Qu 16) (Qu 18))] (QI 19 (QR [KH 4 1] .ret) .skip)) (QR [Qm 20 1,Qm 21 5,Qx 22 1 20 21,Ql 23 22,Qm 7 23] (QR [Qm 24 6,Qm 25 7,Qo 26 (Qc V6 [(Qu 24),(Qu 25)]),Qm 8 26] (QR [Qm 27 8,Qo 28 (.bin .neq (Qu 27) (Qi 0))] (QI 28 (QR [Qm 29 8,Qm 4 29] .ret) .skip))))))
def Ju:ACode:=(QR [Qs 12 11 10] (.seq (QI 12 .skip (.exit 0)) (.seq (.block 1 Xw) (.region [Qd 30 11,Qm 11 30]))))
def Jc:AFun:=⟨36,[.tmp 4],(QR [KH 4 0] (.seq (QR [Qm 9 0,Qe 10 9,KH 11 0] (.block 0 (.loop Ju))) (.seq (QR [Qm 31 0,Qe 32 31,Qm 33 1,Qe 34 33,Qs 35 32 34] (QI 35 (QR [Qo 4 (.mov (.const (.int .i64 (-1))))] .ret) .skip)) (QR [KH 4 0] .ret))))⟩
theorem Xx:(XTab.of Tryd.prog).code 57=some Jc:=by kernel_rfl
def Xy:AFun:=⟨9,[.tmp 2],(QR [KI 2 false] (QR [Qm 3 0,Qo 4 (.bin .geq (Qu 3) (Fv 97)),Qm 5 4,Fs 6 5 0,Qt 7 5 (.bin .leq (Qu 6) (Fv 122)),KJ 8 5 7,Qm 2 8] .ret))⟩
theorem Xz:(XTab.of Tryd.prog).code 60=some Xy:=by kernel_rfl
def XA:AFun:=⟨9,[.tmp 2],(QR [KI 2 false] (QR [Qm 3 0,Qo 4 (.bin .geq (Qu 3) (Fv 48)),Qm 5 4,Fs 6 5 0,Qt 7 5 (.bin .leq (Qu 6) (Fv 57)),KJ 8 5 7,Qm 2 8] .ret))⟩
theorem XB:(XTab.of Tryd.prog).code 61=some XA:=by kernel_rfl
def XC:AFun:=⟨9,[.tmp 2],(QR [KI 2 false] (QR [Qm 3 0,Qo 4 (.bin .geq (Qu 3) (Fv 65)),Qm 5 4,Fs 6 5 0,Qt 7 5 (.bin .leq (Qu 6) (Fv 90)),KJ 8 5 7,Qm 2 8] .ret))⟩
theorem XD:(XTab.of Tryd.prog).code 62=some XC:=by kernel_rfl
def Vw:ACode:=(.region [Qm 28 5,Qd 29 28,Qm 5 29])
def XE:ACode:=(QR [Qa 15 0 7,Ql 16 15,Qo 17 (.bin .neq (Qu 16) (Qi 1)),Qm 18 17,Fu 19 18 0,Qf 20 18 (.nilCheck (Qu 19)),KP 21 18 1 20,KN 22 18 1 21,KP 23 18 1 7,KN 24 18 1 23,Qf 25 18 (.lookup (.scalar .str) (.int .i64 0) false (Qu 22) (Qu 24)),Qf 26 18 (.bin .gtr (Qu 25) (Qi 0)),KL 27 18 26] (QI 27 Vw .skip))
def XF:ACode:=(.seq (.block 1 (.seq (.region [Qx 13 3 9 11,Qw 14 3 13,Qo 7 (.alloc [(.int .i64 0),(.str []),(.int .i64 0)]),Qz (.store 3 (Qu 7) (Qu 14))]) XE)) (.region [Qd 30 11,Qm 11 30]))
def ZX:ACode:=(QR [Qs 12 11 10] (.seq (QI 12 .skip (.exit 0)) XF))
def GY:ACode:=(.seq (QR [Qa 8 2 3,Ql 9 8,Qe 10 9,KH 11 0] (.block 0 (.loop ZX))) (QR [Qm 31 5,Qm 4 31] .ret))
def XG:AFun:=⟨32,[.tmp 4],(QR [KU 3 1,KH 4 0] (QR [KH 5 0] GY))⟩
theorem XH:(XTab.of Tryd.prog).code 63=some XG:=by kernel_rfl
def GZ:ACode:=(.region [Qm 7 0,Qm 8 0,Qo 9 (.inv [(17,Ua,none),(33,Wt,none),(65,Yb,none),(120,Zr,(some (1,false))),(122,Zr,none)] (Qu 8) []),Qo 10 (.bin .sub (Qu 9) (Qi 1)),Qo 11 (Qc V7 [(Qu 7),(Qu 10)])])
def XI:AFun:=⟨12,[],(QR [Qm 4 0,Qm 5 1,Qo 6 (.inv [(120,Uc,none)] (Qu 4) [(Qu 5)])] GZ)⟩
theorem XJ:(XTab.of Tryd.prog).code 64=some XI:=by kernel_rfl
def G0:ACode:=(QR [Qm 10 0,Qm 11 3,Qo 12 (Qc V8 [(Qu 10),(Qi 0),(Qu 11)])] (QR [Qm 13 0,Qo 14 (.inv [(120,Ub,none)] (Qu 13) []),Qm 2 14] .ret))
def G1:ACode:=(QR [Qm 4 0,Qo 5 (.inv [(17,Ua,none),(33,Wt,none),(65,Yb,none),(120,Zr,(some (1,false))),(122,Zr,none)] (Qu 4) []),Qo 6 (.bin .sub (Qu 5) (Qi 1)),Qm 3 6] (QR [Qm 7 0,Qm 8 3,Qo 9 (.inv [(120,JN,(some (1,false))),(122,JN,none)] (Qu 7) [(Qi 0),(Qu 8)])] G0))
def XK:AFun:=⟨15,[.tmp 2],(QR [Qo 2 (.mov (.const .niliface))] G1)⟩
theorem XL:(XTab.of Tryd.prog).code 65=some XK:=by kernel_rfl
def XM:AFun:=⟨5,[.tmp 2],(QR [Qo 2 (.mov (.const (.str [])))] (QR [Qm 3 0,Qo 4 (Qc He [(Qu 3)]),Qm 2 4] .ret))⟩
theorem XN:(XTab.of Tryd.prog).code 66=some XM:=by kernel_rfl
def Zm:AFun:=⟨10,[.tmp 2],(QR [KH 2 0] (.seq (QR [Qm 3 0,Qo 4 (.eqv false .ptr (Qu 3) (.const .nilptr))] (QI 4 (QR [KH 2 0] .ret) .skip)) (QR [Qm 5 0,Qn 6 5,Qa 7 1 6,Ql 8 7,Qe 9 8,Qm 2 9] .ret)))⟩
theorem XO:(XTab.of Tryd.prog).code 67=some Zm:=by kernel_rfl
def G2:ACode:=(QR [Qo 2 (.mov (.const (.int .i64 (-1))))] .ret)
def Vx:ACode:=(.seq (QR [Qm 3 0,Qo 4 (.eqv false .ptr (Qu 3) (.const .nilptr))] (QI 4 G2 .skip)) (QR [Qm 5 0,Qn 6 5,Qa 7 0 6,Ql 8 7,Qm 2 8] .ret))
def Zn:AFun:=⟨9,[.tmp 2],(QR [KH 2 0] Vx)⟩
theorem ZY:(XTab.of Tryd.prog).code 68=some Zn:=by kernel_rfl
def XP:ACode:=(QR [Qm 11 9,Qx 12 1 7 9,Ql 13 12,Qm 5 11,Qm 6 13] (QR [Qm 14 6,Qo 15 (.bin .gtr (Qu 14) (Qi 0)),Qm 16 15,Fs 17 16 0,Fs 18 16 5,KW 19 16 1 17 18,KM 20 16 1 19,Fs 21 16 6,Qt 22 16 (.bin .neq (Qu 20) (Qu 21)),KJ 23 16 22] (QI 23 (QR [KI 4 false] .ret) .skip)))
def JX:ACode:=(QR [Qs 10 9 8] (.seq (QI 10 .skip (.exit 0)) (.seq (.block 1 XP) (.region [Qd 24 9,Qm 9 24]))))
def JA:AFun:=⟨25,[.tmp 4],(QR [KI 4 false] (.seq (QR [Qm 7 1,Qe 8 7,KH 9 0] (.block 0 (.loop JX))) (QR [KI 4 true] .ret)))⟩
theorem XQ:(XTab.of Tryd.prog).code 69=some JA:=by kernel_rfl
def Zo:AFun:=⟨20,[.tmp 4],(QR [KH 4 0] (QR [Qm 7 0,Qo 8 (Qc Ws [(Qu 7)]),Qm 5 8] (QR [Qm 9 1,Qo 10 (Qc Ws [(Qu 9)]),Qm 6 10] (.seq (QR [Qm 11 5] (QI 11 (.seq (QR [Qm 12 6] (QI 12 (QR [KH 4 0] .ret) .skip)) (QR [Qo 4 (.mov (.const (.int .i64 (-1))))] .ret)) .skip)) (.seq (QR [Qm 13 6] (QI 13 (QR [KH 4 1] .ret) .skip)) (.seq (QR [Qm 14 0,Qm 15 1,Qs 16 14 15] (QI 16 (QR [Qo 4 (.mov (.const (.int .i64 (-1))))] .ret) .skip)) (.seq (QR [Qm 17 0,Qm 18 1,Qo 19 (.bin .gtr (Qu 17) (Qu 18))] (QI 19 (QR [KH 4 1] .ret) .skip)) (QR [KH 4 0] .ret))))))))⟩
theorem XR:(XTab.of Tryd.prog).code 70=some Zo:=by kernel_rfl
def G3:ACode:=(QR [Qm 18 0,Qm 19 4,Qm 20 1,Qo 21 (.inv [(120,JN,(some (1,false))),(122,JN,none)] (Qu 18) [(Qu 19),(Qu 20)])] (.region [Qm 22 4,Qm 1 22]))
def Vy:ACode:=(.seq (QR [Qm 8 4,Qm 9 1,Qo 10 (.bin .eql (Qu 8) (Qu 9)),Qm 11 10,Fu 12 11 0,Fu 13 11 1,Fu 14 11 4,Qf 15 11 (.inv [(120,JM,(some (1,false))),(122,JM,none)] (Qu 12) [(Qu 13),(Qu 14)]),Qf 16 11 (.un .not (Qu 15)),KL 17 11 16] (QI 17 (.exit 0) .skip)) G3)
def Vz:ACode:=(.block 1 (QR [Qm 5 1,Qo 6 (.bin .sub (Qu 5) (Qi 1)),Qo 7 (.bin .quo (Qu 6) (Qi 2)),Qm 4 7] Vy))
def XS:AFun:=⟨23,[],(.block 0 (.loop Vz))⟩
theorem XT:(XTab.of Tryd.prog).code 72=some XS:=by kernel_rfl
def G4:ACode:=(.region [Qm 34 10,Qm 9 34])
def VA:ACode:=(QR [Qm 25 10,Qm 26 2,Qs 27 25 26,Qm 28 27,Fs 29 28 0,Fs 30 28 10,Fs 31 28 8,Qt 32 28 (.inv [(120,JM,(some (1,false))),(122,JM,none)] (Qu 29) [(Qu 30),(Qu 31)]),KJ 33 28 32] (QI 33 G4 .skip))
def G5:ACode:=(QR [Qm 40 0,Qm 41 7,Qm 42 9,Qo 43 (.inv [(120,JN,(some (1,false))),(122,JN,none)] (Qu 40) [(Qu 41),(Qu 42)])] (.region [Qm 44 9,Qm 7 44]))
def VB:ACode:=(.seq (QR [Qm 35 0,Qm 36 9,Qm 37 7,Qo 38 (.inv [(120,JM,(some (1,false))),(122,JM,none)] (Qu 35) [(Qu 36),(Qu 37)]),Qh 39 38] (QI 39 (.exit 0) .skip)) G5)
def VC:ACode:=(QR [Qm 22 8,Qm 9 22] (.seq (QR [Qm 23 8,Qd 24 23,Qm 10 24] VA) VB))
def XU:ACode:=(.seq (QR [Qm 15 8,Qm 16 2,Qo 17 (.bin .geq (Qu 15) (Qu 16)),Qm 18 17,Fu 19 18 8,Qf 20 18 (.bin .lss (Qu 19) (Qi 0)),KL 21 18 20] (QI 21 (.exit 0) .skip)) VC)
def ZZ:ACode:=(.block 1 (QR [Qm 12 7,Qo 13 (.bin .mul (Qi 2) (Qu 12)),Qd 14 13,Qm 8 14] XU))
def G6:ACode:=(QR [Qm 11 1,Qm 7 11] (.seq (.block 0 (.loop ZZ)) (QR [Qm 45 7,Qm 46 1,Qo 47 (.bin .gtr (Qu 45) (Qu 46)),Qm 6 47] .ret)))
def Z0:AFun:=⟨48,[.tmp 6],(QR [KI 6 false] G6)⟩
theorem XV:(XTab.of Tryd.prog).code 73=some Z0:=by kernel_rfl
def XW:AFun:=⟨5,[.tmp 2],(QR [Qo 2 (.mov (.const (.str [])))] (QR [Qm 3 0,Qo 4 (Qc V9 [(Qu 3),(Qi 10)]),Qm 2 4] .ret))⟩
theorem XX:(XTab.of Tryd.prog).code 74=some XW:=by kernel_rfl
def XY:AFun:=⟨6,[.tmp 2],(QR [KI 2 false] (QR [Qm 3 0,Qm 4 0,Qo 5 (.bin .neq (Qu 3) (Qu 4)),Qm 2 5] .ret))⟩
theorem XZ:(XTab.of Tryd.prog).code 75=some XY:=by kernel_rfl
end
section
open Go.AE
def X0:AFun:=⟨10,[.tmp 2],(QR [KH 2 0] (.seq (QR [Qm 3 0,Qo 4 (.eqv false .ptr (Qu 3) (.const .nilptr))] (QI 4 (QR [KH 2 0] .ret) .skip)) (QR [Qm 5 0,Qn 6 5,Qa 7 1 6,Ql 8 7,Qe 9 8,Qm 2 9] .ret)))⟩
theorem X1:(XTab.of Tryd.prog).code 105=some X0:=by kernel_rfl
def X2:AFun:=⟨9,[.tmp 4],(QR [KU 2 0,Qo 4 (.mov (.const .nilptr))] (QR [Qa 5 0 2,Ql 6 5,Qm 7 1,Qo 8 (.lookup (.scalar .str) .nilptr false (Qu 6) (Qu 7)),Qm 4 8] .ret))⟩
theorem X3:(XTab.of Tryd.prog).code 106=some X2:=by kernel_rfl
def X4:AFun:=⟨5,[.tmp 2],(QR [KH 2 0] (QR [Qm 3 0,Qe 4 3,Qm 2 4] .ret))⟩
theorem X5:(XTab.of Tryd.prog).code 107=some X4:=by kernel_rfl
def VD:ACode:=(QR [Qa 31 2 7,Ql 32 31,Qa 33 2 8,Ql 34 33,Qo 35 (.bin .gtr (Qu 32) (Qu 34)),Qm 6 35] .ret)
def Z1:ACode:=(QR [Qa 23 1 8,Ql 24 23,Qm 6 24] .ret)
def Z2:ACode:=(QR [Qa 26 2 7,Ql 27 26,Qa 28 2 8,Ql 29 28,Qo 30 (.bin .neq (Qu 27) (Qu 29)),Qm 25 30] (QI 25 VD .skip))
def JB:ACode:=(QR [Qa 18 1 7,Ql 19 18,Qa 20 1 8,Ql 21 20,Qo 22 (.eqv true .bool (Qu 19) (Qu 21)),Qm 17 22] (QI 17 Z1 Z2))
def VE:ACode:=(QR [Qa 36 0 7,Ql 37 36,Qa 38 0 8,Ql 39 38,Qs 40 37 39,Qm 6 40] .ret)
def G7:ACode:=(.seq (.drawn [QD (Qm 9 0) [],QD (Qm 10 1) [],QD (Qx 11 3 9 10) [1,0],QD (Qw 12 3 11) [2,1,0],QD (Qm 13 0) [],QD (Qm 14 2) [],QD (Qx 15 3 13 14) [5,4],QD (Qw 16 3 15) [6,5,4],QE (Qo 7 (.alloc [(.int .i64 0),(.bool false),(.int .i64 0)])) [],QE (Qo 8 (.alloc [(.int .i64 0),(.bool false),(.int .i64 0)])) [],QE (Qz (.store 3 (Qu 7) (Qu 12))) [9,8,3,2,1,0],QE (Qz (.store 3 (Qu 8) (Qu 16))) [10,9,8,7,6,5,4,3,2,1,0]]) (.seq (.block 0 JB) VE))
def Jm:AFun:=⟨41,[.tmp 6],(QR [KI 6 false] G7)⟩
theorem X6:(XTab.of Tryd.prog).code 108=some Jm:=by kernel_rfl
def G8:ACode:=(QR [Qm 14 0,Qm 15 0,Qn 16 15,Ql 17 16,Qm 18 0,Qn 19 18,Ql 20 19,Qe 21 20,Qo 22 (.bin .sub (Qu 21) (Qi 1)),Qo 23 (.slice 3 (Qu 17) none (some (Qu 22)) none),Qn 24 14,Qz (.store 1 (Qu 24) (Qu 23))] (QR [Qw 25 3 3,Qo 26 (.mkIface 126 (Qu 25)),Qm 2 26] .ret))
def G9:ACode:=(.seq (.drawn [QD (Qm 4 0) [],QD (Qn 5 4) [0],QD (Ql 6 5) [1,0],QD (Qm 7 0) [],QD (Qn 8 7) [3],QD (Ql 9 8) [4,3],QD (Qe 10 9) [5,4,3],QD (Qo 11 (.bin .sub (Qu 10) (Qi 1))) [6,5,4,3],QD (Qx 12 3 6 11) [7,6,5,4,3,2,1,0],QD (Qw 13 3 12) [8,7,6,5,4,3,2,1,0],QE (Qo 3 (.alloc [(.int .i64 0),(.bool false),(.int .i64 0)])) [],QE (Qz (.store 3 (Qu 3) (Qu 13))) [10,9,8,7,6,5,4,3,2,1,0]]) G8)
def X7:AFun:=⟨27,[.tmp 2],(QR [Qo 2 (.mov (.const .niliface))] G9)⟩
theorem X8:(XTab.of Tryd.prog).code 109=some X7:=by kernel_rfl
def Ha:ACode:=(.drawn [QD (Qm 12 0) [],QD (Qm 13 0) [],QD (Qn 14 13) [1],QD (Ql 15 14) [2,1],QD (Qw 16 3 4) [],QE (Qo 17 (.buildSlice 1 [(.int .i64 0),(.bool false),(.int .i64 0)] [(0,3,(Qu 16))])) [4],QE (KV 18 3 24 15 17) [5,4,3,2,1],QD (Qn 19 12) [6,5,4,3,2,1,0],QE (Qz (.store 1 (Qu 19) (Qu 18))) [7,6,5,4,3,2,1,0]])
def X9:AFun:=⟨20,[],(QR [Qm 7 1,Qo 8 (.typeAssert 126 (.agg [(.int .i64 0),(.bool false),(.int .i64 0)]) true (Qu 7)),Qm 6 8,KT 9 0 6,KT 10 1 6,Qo 4 (.alloc [(.int .i64 0),(.bool false),(.int .i64 0)]),Qz (.store 3 (Qu 4) (Qu 9)),Qm 5 10] (QR [Qm 11 5] (QI 11 Ha .skip)))⟩
theorem Wa:(XTab.of Tryd.prog).code 110=some X9:=by kernel_rfl
def Wb:AFun:=⟨20,[],(.region [Qm 6 0,Qm 7 1,Qm 8 0,Qm 9 2,Qm 10 0,Qm 11 2,Qx 12 3 10 11,Qw 13 3 12,Qm 14 0,Qm 15 1,Qx 16 3 14 15,Qw 17 3 16,Qx 18 3 6 7,Qz (.store 3 (Qu 18) (Qu 13)),Qx 19 3 8 9,Qz (.store 3 (Qu 19) (Qu 17))])⟩
theorem Wc:(XTab.of Tryd.prog).code 111=some Wb:=by kernel_rfl
end
section
open Go.AE
structure Codes (tab:Tab):Prop where
 Yh:tab.code 3=some Jv
 Yj:tab.code 5=some Yi
 Yl:tab.code 6=some Yk
 Yn:tab.code 7=some Ym
 Yp:tab.code 8=some Yo
 Yq:tab.code 9=some Zu
 Ys:tab.code 10=some Zx
 Yt:tab.code 12=some J4
 Yx:tab.code 13=some Jp
 Yz:tab.code 15=some J6
 YA:tab.code 16=some J7
 YC:tab.code 17=some J8
 YE:tab.code 18=some YD
 YF:tab.code 19=some J9
 YG:tab.code 21=some Jb
 YH:tab.code 22=some JH
 YJ:tab.code 23=some YI
 YL:tab.code 24=some Jq
 YO:tab.code 27=some JJ
 YP:tab.code 28=some Jr
 YQ:tab.code 29=some Js
 YR:tab.code 30=some Jk
 YS:tab.code 31=some Zc
 YT:tab.code 32=some JR
 YU:tab.code 33=some Jw
 YW:tab.code 34=some ZF
 YY:tab.code 35=some Jf
 Y0:tab.code 36=some YZ
 ZI:tab.code 37=some Jh
 ZJ:tab.code 38=some Ze
 Y1:tab.code 39=some JK
 Y2:tab.code 40=some Jl
 Y4:tab.code 41=some Ja
 Y6:tab.code 42=some Jd
 Y8:tab.code 43=some Jj
 Xa:tab.code 44=some ZO
 Xc:tab.code 45=some Zj
 Xe:tab.code 46=some ZQ
 Xh:tab.code 47=some Xg
 Xj:tab.code 48=some Xi
 Xk:tab.code 49=some Zk
 Xn:tab.code 50=some Xm
 Xo:tab.code 51=some JL
 ZS:tab.code 52=some Je
 Xs:tab.code 53=some ZU
 ZV:tab.code 54=some JV
 Xt:tab.code 55=some JW
 Xv:tab.code 56=some Xu
 Xx:tab.code 57=some Jc
 Xz:tab.code 60=some Xy
 XB:tab.code 61=some XA
 XD:tab.code 62=some XC
 XH:tab.code 63=some XG
 XJ:tab.code 64=some XI
 XL:tab.code 65=some XK
 XN:tab.code 66=some XM
 XO:tab.code 67=some Zm
 ZY:tab.code 68=some Zn
 XQ:tab.code 69=some JA
 XR:tab.code 70=some Zo
 XT:tab.code 72=some XS
 XV:tab.code 73=some Z0
 XX:tab.code 74=some XW
 XZ:tab.code 75=some XY
 X1:tab.code 105=some X0
 X3:tab.code 106=some X2
 X5:tab.code 107=some X4
 X6:tab.code 108=some Jm
 X8:tab.code 109=some X7
 Wa:tab.code 110=some X9
 Wc:tab.code 111=some Wb
theorem Jpx {tab:Tab}(h:tab.code=(XTab.of Tryd.prog).code):Codes tab where
 Yh:=h▸Yh
 Yj:=h▸Yj
 Yl:=h▸Yl
 Yn:=h▸Yn
 Yp:=h▸Yp
 Yq:=h▸Yq
 Ys:=h▸Ys
 Yt:=h▸Yt
 Yx:=h▸Yx
 Yz:=h▸Yz
 YA:=h▸YA
 YC:=h▸YC
 YE:=h▸YE
 YF:=h▸YF
 YG:=h▸YG
 YH:=h▸YH
 YJ:=h▸YJ
 YL:=h▸YL
 YO:=h▸YO
 YP:=h▸YP
 YQ:=h▸YQ
 YR:=h▸YR
 YS:=h▸YS
 YT:=h▸YT
 YU:=h▸YU
 YW:=h▸YW
 YY:=h▸YY
 Y0:=h▸Y0
 ZI:=h▸ZI
 ZJ:=h▸ZJ
 Y1:=h▸Y1
 Y2:=h▸Y2
 Y4:=h▸Y4
 Y6:=h▸Y6
 Y8:=h▸Y8
 Xa:=h▸Xa
 Xc:=h▸Xc
 Xe:=h▸Xe
 Xh:=h▸Xh
 Xj:=h▸Xj
 Xk:=h▸Xk
 Xn:=h▸Xn
 Xo:=h▸Xo
 ZS:=h▸ZS
 Xs:=h▸Xs
 ZV:=h▸ZV
 Xt:=h▸Xt
 Xv:=h▸Xv
 Xx:=h▸Xx
 Xz:=h▸Xz
 XB:=h▸XB
 XD:=h▸XD
 XH:=h▸XH
 XJ:=h▸XJ
 XL:=h▸XL
 XN:=h▸XN
 XO:=h▸XO
 ZY:=h▸ZY
 XQ:=h▸XQ
 XR:=h▸XR
 XT:=h▸XT
 XV:=h▸XV
 XX:=h▸XX
 XZ:=h▸XZ
 X1:=h▸X1
 X3:=h▸X3
 X5:=h▸X5
 X6:=h▸X6
 X8:=h▸X8
 Wa:=h▸Wa
 Wc:=h▸Wc
end
end Go.Proofs.YtegdcbdicpfbpaaDoor
set_option linter.unusedSectionVars false
set_option linter.unusedSimpArgs false
namespace Go.AE
variable [Globs]
end Go.AE
open Go.RowKit
namespace Go.AE
variable [Globs]
variable {w':World}
theorem BR.same {aw:AW}{m:Map}{w:World}{b:Nat}{e:Emb}(h:w'.heap[e.c]? = w.heap[e.c]?):∀{x:Blk},BR aw m w b e x→BR aw m w' b e x:=by
 intro x hx;cases x with
 | cells l sh=>intro ha;obtain⟨cur,t,lo,hi,h1,h2⟩:=hx ha;exact⟨cur,t,lo,hi,h.trans h1,h2⟩
 | map es ck=>obtain⟨es',h1,h2⟩:=hx;exact⟨es',h.trans h1,h2⟩
 | mapIter x s q l=>obtain⟨h0,r,h1,h2⟩:=hx;exact⟨h0,r,h.trans h1,h2⟩
theorem R.below {aw:AW}{w:World}{m:Map}{base:Nat}(hR:R aw w m base)(h:Below w.heap.size w w'):R aw w' m base∧Goes aw aw w w' m m:=by
 have hb:∀b e,m b=some e→w'.heap[e.c]? = w.heap[e.c]?:=fun b e he=>h.block e.c (hR.lt b e he).2;refine⟨⟨hR.glob,hR.gblk,hR.famlt,Kj hR.size h.size,fun b e he=>⟨(hR.lt b e he).1,FK (hR.lt b e he).2 h.size⟩,hR.base,fun b e x he hx=>(hR.blk b e x he hx).same (hb b e he),hR.apart,hR.fam⟩,?_⟩;exact⟨.refl m,fun b e he=> .inl he,FH _,h.size,h.os,h.tape,h.output,fun b l hl _=>hl,fun b l hl _=>⟨l,hl⟩,fun c hc _=>h.block c hc,fun b _ hx=>hx,fun _ _ _=>rfl⟩
def BN:List Nat→List Nat→Int
 | [],[]=>0
 | [],_::_=>-1
 | _::_,[]=>1
 | a::ar,b::bs=>match Nat.blt a b with
  | true=>-1
  | false=>match Nat.blt b a with
   | true=>1
   | false=>BN ar bs
end Go.AE
open Go.RowKit Go.WideShapes Go.ChangeShapes
namespace Go.AE
variable [Globs]
theorem Goes.belowRo {aw aw':AW}{w w':World}{m m':Map}(h:Goes aw aw' w w' m m')(hm:∀b e x,m b=some e→aw.heap.get b=some x→∃l,x = .cells l .ro):Below w.heap.size w w':=
 ⟨h.os,h.tape,h.output,h.size,fun k hk=>h.frame k hk fun b e x hb hx hro=>by obtain⟨l,hl⟩:=hm b e x hb hx;exact absurd hl (hro l)⟩
section
variable {H:Type} {enc:TypeId×Value→H} {P:Program}
theorem Nc (hl:laidOutB P=true){W W':World}(hb:Below W.heap.size W W'):∀{ts:List TypeId} {vs:List Value} {ds:List (DataW H)} {ps:List MemPlace},(∀t∈ts,P.readableRec t=true∧t<P.types.size)→ DataW.TrodAll enc P W 0 (fun _=>true) true ts vs ds ps→(∀x∈ps,x.block<W.heap.size)→DataW.TrodAll enc P W' 0 (fun b=>decide (b<W.heap.size)) true ts vs ds ps
 | [],vs,ds,ps,_,h,_=>by
  obtain⟨rfl,rfl,rfl⟩:=trodAll_nil h;exact trodAll_mk0
 | t::ts,vs,ds,ps,hr,h,hlt=>by
  obtain⟨v,vs',d,ds',p,q,rfl,rfl,rfl,hd,hrest⟩:=trodAll_cons h;have h1:=hr t Fj;exact trodAll_cons_mk (Below.trod hl h1.1 h1.2 hd hb (fun x hx=>hlt x (by simp[hx]))) (Nc hl hb (fun t ht=>hr t (by simp[ht])) hrest (fun x hx=>hlt x (by simp[hx])))
theorem Jox {f:Func}{s:ChangeSpec}{apart fresh handsOn:Bool}{W W':World}{args:Array Value}{ds gs:List (DataW H)}{before:List MemPlace}{tb:TypeId}(hW:DataW.Whole enc P f.params.toList s.vars apart W args.toList ds gs before)(hl:laidOutB P=true)(hr:∀t∈f.params.toList,P.readableRec t=true∧t<P.types.size)(hb:Below W.heap.size W W')(hsv:s.vars=[])(hres:f.resultTypes = #[tb])(htb:P.underlying tb=some .bool)(hfn:(s.fn H (ds++gs)).results=[.lit (.bool true)])(hfa:(s.fn H (ds++gs)).args=ds)(hfv:(s.fn H (ds++gs)).vars=[]): s.post enc P f apart fresh handsOn false W args (.bool true) W':=by
 have hlt:∀x∈before,x.block<W.heap.size:=fun x hx=>hW.lt x hx;obtain⟨p,q,hA,hV,hbe,hfz,hnd⟩:=id hW;rw[hsv]at hV;obtain⟨rfl,rfl⟩:=trodVars_none hV;have hbe':before=p:=by simpa using hbe
 subst hbe';have hA':=Nc hl hb hr hA hlt;refine⟨ds,[],before,[],before,[],hW,?_,?_,?_,hb.frame _,fun h=>by cases h⟩
 ·rw[hfn,hres];exact trodAll_cons_mk (shut_bool htb _) trodAll_mk0
 ·rw[hfa];exact hA'
 ·rw[hfv,hsv];exact rfl
end
end Go.AE
