import Derived.Test.YtaadjlpfdajggaaGreatDoorFiAm24
namespace Go.Proofs.YtaadjlpfdajggaaGreatDoor.C
open Go Go.AM
def f12r0:List AOp:=[oQ 2 (.box 37 (oT 0)) 0,
 oQ 3 (.box 37 (oT 1)) 0,
 oQ 4 (.assign (.const (.bool false))) 4]
def f12r1:List AOp:=[oQ 14 (.load 37 (oT 2)) 37,
 oQ 15 (cF 18 #[(oT 14),(.const (.int .i64 60))] #[37,3]) 37,
 oN (.store 37 (oT 2) (oT 15)) 0]
def f12r2:List AOp:=[oQ 16 (.load 37 (oT 3)) 37,
 oQ 17 (cF 18 #[(oT 16),(.const (.int .i64 60))] #[37,3]) 37,
 oN (.store 37 (oT 3) (oT 17)) 0]
def f12r3:List AOp:=[oQ 19 (.load 37 (oT 2)) 37,
 oQ 20 (cF 26 #[(oT 19)] #[37]) 55,
 oM 18 20 55,
 oQ 21 (.extract (oT 18) 0) 54,
 oQ 22 (.extract (oT 18) 1) 28,
 oQ 5 (.alloc 54) 0,
 oN (.store 54 (oT 5) (oT 21)) 0,
 oA 6 22 28]
def f12r4:List AOp:=[oQ 24 (.load 37 (oT 3)) 37,
 oQ 25 (cF 26 #[(oT 24)] #[37]) 55,
 oM 23 25 55,
 oQ 26 (.extract (oT 23) 0) 54,
 oQ 27 (.extract (oT 23) 1) 28,
 oQ 7 (.alloc 54) 0,
 oN (.store 54 (oT 7) (oT 26)) 0,
 oA 8 27 28]
def f12r5p0:List AOp:=[oM 28 6 28,
 oQ 29 (.binOp .neq 28 (oT 28) (.const (.int .i64 0)) 28) 4,
 oM 30 29 4,
 oG 31 (.move (oT 8)) 28 30 false,
 oG 32 (.binOp .neq 28 (oT 31) (.const (.int .i64 0)) 28) 4 30 false,
 oQ 33 (.pick (oT 30) (.const (.bool true)) (oT 32)) 4]
def f12r5p1:List AOp:=[oM 34 33 4,
 oG 35 (.load 37 (oT 2)) 37 34 false,
 oG 36 (cF 36 #[(oT 35)] #[37]) 3 34 false,
 oG 37 (.load 37 (oT 3)) 37 34 false,
 oG 38 (cF 36 #[(oT 37)] #[37]) 3 34 false,
 oG 39 (.binOp .add 3 (oT 36) (oT 38) 3) 3 34 false,
 oG 40 (.binOp .gtr 3 (oT 39) (.const (.int .i64 0)) 3) 4 34 false,
 oQ 41 (.pick (oT 34) (.const (.bool true)) (oT 40)) 4]
def f12r5p2:List AOp:=[oM 42 41 4,
 oG 43 (.load 37 (oT 2)) 37 42 false,
 oG 44 (cF 32 #[(oT 43)] #[37]) 3 42 false,
 oG 45 (.load 37 (oT 3)) 37 42 false,
 oG 46 (cF 32 #[(oT 45)] #[37]) 3 42 false,
 oG 47 (cB .max #[(oT 44),(oT 46)] #[3,3]) 3 42 false,
 oG 48 (.binOp .geq 3 (oT 47) (.const (.int .i64 40)) 3) 4 42 false,
 oQ 49 (.pick (oT 42) (.const (.bool true)) (oT 48)) 4]
def f12r5:List AOp:=f12r5p0 ++ (f12r5p1 ++ f12r5p2)
def f12r6p0:List AOp:=[oM 50 6 28,
 oQ 51 (.binOp .eql 28 (oT 50) (.const (.int .i64 0)) 28) 4,
 oM 52 51 4,
 oG 53 (.load 54 (oT 5)) 54 52 false,
 oG 54 (.build 54 #[]) 54 52 false,
 oG 55 (.binOp .eql 54 (oT 53) (oT 54) 54) 4 52 false,
 oQ 56 (.pick (oT 52) (.const (.bool true)) (oT 55)) 4]
def f12r6p1:List AOp:=[oM 57 56 4,
 oG 58 (cF 29 #[] #[]) 4 57 true,
 oQ 59 (.pick (oT 57) (oT 58) (.const (.bool false))) 4]
def f12r6p2:List AOp:=[oA 4 59 4]
def f12r6:List AOp:=f12r6p0 ++ (f12r6p1 ++ f12r6p2)
def f12r7:List AOp:=[oQ 61 (.load 37 (oT 2)) 37,
 oQ 62 (.load 37 (oT 3)) 37,
 oQ 63 (cF 37 #[(oT 61),(oT 62),(.const (.int .i64 8))] #[37,37,3]) 37,
 oQ 64 (cF 26 #[(oT 63)] #[37]) 55,
 oM 60 64 55,
 oQ 65 (.extract (oT 60) 0) 54,
 oQ 66 (.extract (oT 60) 1) 28,
 oQ 9 (.alloc 54) 0,
 oN (.store 54 (oT 9) (oT 65)) 0,
 oA 10 66 28]
def f12r8:List AOp:=[oQ 68 (.load 37 (oT 2)) 37,
 oQ 69 (.load 37 (oT 3)) 37,
 oQ 70 (cF 37 #[(oT 68),(oT 69),(.const (.int .i64 9))] #[37,37,3]) 37,
 oQ 71 (cF 26 #[(oT 70)] #[37]) 55,
 oM 67 71 55,
 oQ 72 (.extract (oT 67) 0) 54,
 oQ 73 (.extract (oT 67) 1) 28,
 oQ 11 (.alloc 54) 0,
 oN (.store 54 (oT 11) (oT 72)) 0,
 oA 12 73 28]
def f12r9:List AOp:=[oQ 74 (.fieldAddr 54 (oT 5) 0) 0,
 oQ 75 (.load 25 (oT 74)) 25,
 oQ 13 (.alloc 25) 0,
 oN (.store 25 (oT 13) (oT 75)) 0]
def f12r10:List AOp:=[oQ 76 (.fieldAddr 54 (oT 5) 1) 0,
 oQ 77 (.load 4 (oT 76)) 4]
def f12r11:List AOp:=[oQ 78 (.load 25 (oT 13)) 25,
 oQ 79 (.fieldAddr 54 (oT 7) 0) 0,
 oQ 80 (.load 25 (oT 79)) 25,
 oQ 81 (cF 38 #[(oT 78),(oT 80)] #[25,25]) 25,
 oN (.store 25 (oT 13) (oT 81)) 0]
def f12r12p0:List AOp:=[oM 82 10 28,
 oQ 83 (.binOp .eql 28 (oT 82) (.const (.int .i64 0)) 28) 4,
 oM 84 83 4,
 oG 85 (.move (oT 12)) 28 84 true,
 oG 86 (.binOp .eql 28 (oT 85) (.const (.int .i64 0)) 28) 4 84 true,
 oQ 87 (.pick (oT 84) (oT 86) (.const (.bool false))) 4]
def f12r12p1:List AOp:=[oM 88 87 4,
 oG 89 (.fieldAddr 54 (oT 9) 0) 0 88 true,
 oG 90 (.load 25 (oT 89)) 25 88 true,
 oG 91 (.load 25 (oT 13)) 25 88 true,
 oG 92 (.binOp .eql 25 (oT 90) (oT 91) 25) 4 88 true,
 oQ 93 (.pick (oT 88) (oT 92) (.const (.bool false))) 4]
def f12r12p2:List AOp:=[oM 94 93 4,
 oG 95 (.fieldAddr 54 (oT 9) 1) 0 94 true,
 oG 96 (.load 4 (oT 95)) 4 94 true,
 oG 97 (.fieldAddr 54 (oT 5) 1) 0 94 true,
 oG 98 (.load 4 (oT 97)) 4 94 true,
 oG 99 (.move (oT 98)) 4 94 true,
 oG 100 (.fieldAddr 54 (oT 7) 1) 0 99 true,
 oG 101 (.load 4 (oT 100)) 4 99 true,
 oG 102 (.pick (oT 99) (oT 101) (.const (.bool false))) 4 94 true,
 oG 103 (.binOp .eql 4 (oT 96) (oT 102) 4) 4 94 true,
 oQ 104 (.pick (oT 94) (oT 103) (.const (.bool false))) 4]
def f12r12p3:List AOp:=[oM 105 104 4,
 oG 106 (.fieldAddr 54 (oT 11) 0) 0 105 true,
 oG 107 (.load 25 (oT 106)) 25 105 true,
 oG 108 (.fieldAddr 54 (oT 5) 0) 0 105 true,
 oG 109 (.load 25 (oT 108)) 25 105 true,
 oG 110 (.fieldAddr 54 (oT 7) 0) 0 105 true,
 oG 111 (.load 25 (oT 110)) 25 105 true,
 oG 112 (cF 38 #[(oT 109),(oT 111)] #[25,25]) 25 105 true,
 oG 113 (.binOp .eql 25 (oT 107) (oT 112) 25) 4 105 true,
 oQ 114 (.pick (oT 105) (oT 113) (.const (.bool false))) 4]
def f12r12p4:List AOp:=[oM 115 114 4,
 oG 116 (.fieldAddr 54 (oT 11) 1) 0 115 true,
 oG 117 (.load 4 (oT 116)) 4 115 true,
 oG 118 (.fieldAddr 54 (oT 5) 1) 0 115 true,
 oG 119 (.load 4 (oT 118)) 4 115 true,
 oG 120 (.move (oT 119)) 4 115 true,
 oG 121 (.fieldAddr 54 (oT 7) 1) 0 120 false,
 oG 122 (.load 4 (oT 121)) 4 120 false,
 oG 123 (.pick (oT 120) (.const (.bool true)) (oT 122)) 4 115 true,
 oG 124 (.binOp .eql 4 (oT 117) (oT 123) 4) 4 115 true,
 oQ 125 (.pick (oT 115) (oT 124) (.const (.bool false))) 4]
def f12r12p5:List AOp:=[oM 126 125 4,
 oG 127 (.fieldAddr 54 (oT 11) 3) 0 126 true,
 oG 128 (.load 9 (oT 127)) 9 126 true,
 oG 129 (.binOp .eql 9 (oT 128) (.const (.string { data:=#[] })) 9) 4 126 true,
 oQ 130 (.pick (oT 126) (oT 129) (.const (.bool false))) 4]
def f12r12p6:List AOp:=[oM 131 130 4,
 oG 132 (.fieldAddr 54 (oT 5) 2) 0 131 true,
 oG 133 (.load 4 (oT 132)) 4 131 true,
 oG 134 (.unOp .not 4 (oT 133)) 4 131 true,
 oG 135 (.move (oT 134)) 4 131 true,
 oG 136 (.fieldAddr 54 (oT 9) 2) 0 135 false,
 oG 137 (.load 4 (oT 136)) 4 135 false,
 oG 138 (.pick (oT 135) (.const (.bool true)) (oT 137)) 4 131 true,
 oQ 139 (.pick (oT 131) (oT 138) (.const (.bool false))) 4]
def f12r12p7:List AOp:=[oM 140 139 4,
 oG 141 (.fieldAddr 54 (oT 11) 2) 0 140 true,
 oG 142 (.load 4 (oT 141)) 4 140 true,
 oG 143 (.fieldAddr 54 (oT 5) 2) 0 140 true,
 oG 144 (.load 4 (oT 143)) 4 140 true,
 oG 145 (.move (oT 144)) 4 140 true,
 oG 146 (.fieldAddr 54 (oT 7) 2) 0 145 true,
 oG 147 (.load 4 (oT 146)) 4 145 true,
 oG 148 (.pick (oT 145) (oT 147) (.const (.bool false))) 4 140 true,
 oG 149 (.binOp .eql 4 (oT 142) (oT 148) 4) 4 140 true,
 oQ 150 (.pick (oT 140) (oT 149) (.const (.bool false))) 4]
def f12r12p8:List AOp:=[oM 151 150 4,
 oG 152 (cF 29 #[] #[]) 4 151 true,
 oQ 153 (.pick (oT 151) (oT 152) (.const (.bool false))) 4]
def f12r12p9:List AOp:=[oA 4 153 4]
def f12r12:List AOp:=f12r12p0 ++ (f12r12p1 ++ (f12r12p2 ++ (f12r12p3 ++ (f12r12p4 ++ (f12r12p5 ++ (f12r12p6 ++ (f12r12p7 ++ (f12r12p8 ++ f12r12p9))))))))
def f12:AFun:=⟨154,[(.tmp 4)],(.seq (.ops false f12r0) (.seq (.ops false f12r1) (.seq (.ops false f12r2) (.seq (.ops false f12r3) (.seq (.ops false f12r4) (.seq (.seq (.ops true f12r5) (.cond (.tmp 49) (.seq (.ops false f12r6) .ret) .skip)) (.seq (.ops false f12r7) (.seq (.ops false f12r8) (.seq (.ops false f12r9) (.seq (.seq (.ops false f12r10) (.cond (.tmp 77) (.ops false f12r11) .skip)) (.seq (.ops true f12r12) .ret)))))))))))⟩
def f16r0:List AOp:=[oQ 2 (.assign (.const (.slice none 0 0))) 27,
 oQ 3 (.assign (.const (.int .i64 0))) 28]
def f16r1:List AOp:=[oM 8 0 9,
 oQ 9 (cB .len #[(oT 8)] #[9]) 3,
 oQ 10 (.binOp .gtr 3 (oT 9) (.const (.int .i64 1000)) 3) 4]
def f16r2:List AOp:=[oQ 2 (.assign (.const (.slice none 0 0))) 27,
 oQ 3 (.assign (.const (.int .i64 4))) 28]
def f16r3:List AOp:=[oQ 4 (.assign (.const (.slice none 0 0))) 27]
def f16r4:List AOp:=[oM 11 0 9,
 oQ 12 (.binOp .neq 9 (oT 11) (.const (.string { data:=#[] })) 9) 4]
def f16r5:List AOp:=[oM 14 0 9,
 oQ 15 (cF 46 #[(oT 14)] #[9]) 91,
 oM 13 15 91,
 oQ 16 (.extract (oT 13) 0) 33,
 oQ 17 (.extract (oT 13) 1) 3,
 oQ 18 (.extract (oT 13) 2) 28,
 oQ 5 (.alloc 33) 0,
 oN (.store 33 (oT 5) (oT 16)) 0,
 oA 6 17 3,
 oA 7 18 28]
def f16r6:List AOp:=[oM 19 7 28,
 oQ 20 (.binOp .neq 28 (oT 19) (.const (.int .i64 0)) 28) 4]
def f16r7:List AOp:=[oM 21 7 28,
 oQ 2 (.assign (.const (.slice none 0 0))) 27,
 oA 3 21 28]
def f16r8:List AOp:=[oM 22 4 27,
 oQ 23 (.load 33 (oT 5)) 33,
 oQ 24 (.buildSlice 27 1 #[(0,(oT 23))]) 27,
 oQ 25 (cB .append #[(oT 22),(oT 24)] #[27,27]) 27,
 oM 26 0 9,
 oM 27 6 3,
 oQ 28 (.slice 9 (oT 26) (some (oT 27)) none none) 9,
 oA 4 25 27,
 oA 0 28 9]
def f16b0:AC:=(.seq (.seq (.ops false f16r4) (.cond (oT 12) .skip (.exit 0))) (.block 1 (.seq (.ops false f16r5) (.seq (.seq (.ops false f16r6) (.cond (oT 20) (.seq (.ops false f16r7) .ret) .skip)) (.ops false f16r8)))))
def f16r9:List AOp:=[oM 29 4 27,
 oA 2 29 27,
 oQ 3 (.assign (.const (.int .i64 0))) 28]
def f16:AFun:=⟨30,[(.tmp 2),(.tmp 3)],(.seq (.ops false f16r0) (.seq (.seq (.ops false f16r1) (.cond (.tmp 10) (.seq (.ops false f16r2) .ret) .skip)) (.seq (.ops false f16r3) (.seq (.block 0 (.loop [0,4] f16b0)) (.seq (.ops false f16r9) .ret)))))⟩
def f18r0:List AOp:=[oQ 2 (.box 37 (oT 0)) 0,
 oQ 4 (.alloc 37) 0]
def f18r1:List AOp:=[oQ 5 (.fieldAddr 37 (oT 2) 0) 0,
 oQ 6 (.load 35 (oT 5)) 35,
 oQ 7 (.fieldAddr 37 (oT 2) 0) 0,
 oQ 8 (.load 35 (oT 7)) 35,
 oQ 9 (cB .len #[(oT 8)] #[35]) 3,
 oM 10 1 3,
 oQ 11 (cB .min #[(oT 9),(oT 10)] #[3,3]) 3,
 oQ 12 (.slice 35 (oT 6) none (some (oT 11)) none) 35,
 oQ 13 (.build 37 #[(0,(oT 12))]) 37,
 oN (.store 37 (oT 4) (oT 13)) 0]
def f18:AFun:=⟨14,[(.cell 4 37)],(.seq (.ops false f18r0) (.seq (.ops false f18r1) .ret))⟩
def f26r0:List AOp:=[oQ 1 (.box 37 (oT 0)) 0,
 oQ 2 (.alloc 54) 0,
 oQ 3 (.assign (.const (.int .i64 0))) 28]
def f26r1:List AOp:=[oQ 5 (.load 37 (oT 1)) 37,
 oQ 6 (cF 40 #[(oT 5)] #[37]) 28,
 oA 4 6 28]
def f26r2:List AOp:=[oM 7 4 28,
 oQ 8 (.binOp .neq 28 (oT 7) (.const (.int .i64 0)) 28) 4]
def f26r3:List AOp:=[oQ 9 (.build 54 #[]) 54,
 oM 10 4 28,
 oN (.store 54 (oT 2) (oT 9)) 0,
 oA 3 10 28]
def f26r4:List AOp:=[oQ 11 (.load 37 (oT 1)) 37,
 oQ 12 (cF 57 #[(oT 11)] #[37]) 108,
 oQ 13 (.fieldAddr 37 (oT 1) 0) 0,
 oQ 14 (.load 35 (oT 13)) 35,
 oQ 15 (cB .len #[(oT 14)] #[35]) 3,
 oQ 16 (.binOp .sub 3 (oT 15) (.const (.int .i64 1)) 3) 3,
 oQ 17 (.indexAddr 108 (oT 12) (oT 16)) 0,
 oQ 18 (.fieldAddr 107 (oT 17) 0) 0,
 oQ 19 (.load 54 (oT 18)) 54,
 oN (.store 54 (oT 2) (oT 19)) 0,
 oQ 3 (.assign (.const (.int .i64 0))) 28]
def f26:AFun:=⟨20,[(.cell 2 54),(.tmp 3)],(.seq (.ops false f26r0) (.seq (.seq (.ops false f26r1) (.seq (.ops false f26r2) (.cond (.tmp 8) (.seq (.ops false f26r3) .ret) .skip))) (.seq (.ops true f26r4) .ret)))⟩
def f29r0:List AOp:=[oQ 0 (.assign (.const (.bool false))) 4]
def f29r1:List AOp:=[oQ 6 (.call { callee:=(.value (.func 60)),args:=#[(.const (.string { data:=#[97,98,124,97,99] }))],argTypes:=#[9] }) 54,
 oQ 7 (.call { callee:=(.value (.func 60)),args:=#[(.const (.string { data:=#[94,97,98] }))],argTypes:=#[9] }) 54,
 oQ 8 (.call { callee:=(.value (.func 60)),args:=#[(.const (.string { data:=#[97,63,98] }))],argTypes:=#[9] }) 54,
 oQ 1 (.alloc 54) 0,
 oQ 2 (.alloc 54) 0,
 oQ 3 (.alloc 54) 0,
 oN (.store 54 (oT 1) (oT 6)) 0,
 oN (.store 54 (oT 2) (oT 7)) 0,
 oN (.store 54 (oT 3) (oT 8)) 0]
def f29r2:List AOp:=[oQ 10 (.build 37 #[]) 37,
 oQ 11 (cF 26 #[(oT 10)] #[37]) 55,
 oM 9 11 55,
 oQ 12 (.extract (oT 9) 0) 54,
 oQ 13 (.extract (oT 9) 1) 28,
 oQ 4 (.alloc 54) 0,
 oN (.store 54 (oT 4) (oT 12)) 0,
 oA 5 13 28]
def f29r3:List AOp:=[oQ 14 (.load 54 (oT 1)) 54,
 oQ 15 (cF 49 #[(.const (.int .u8 97))] #[5]) 25,
 oQ 16 (.build 54 #[(0,(oT 15))]) 54,
 oQ 17 (.binOp .eql 54 (oT 14) (oT 16) 54) 4,
 oM 18 17 4,
 oG 19 (.load 54 (oT 2)) 54 18 true,
 oG 20 (cF 49 #[(.const (.int .u8 97))] #[5]) 25 18 true,
 oG 21 (.build 54 #[(0,(oT 20)),(2,(.const (.bool true))),(3,(.const (.string { data:=#[97,98] })))]) 54 18 true,
 oG 22 (.binOp .eql 54 (oT 19) (oT 21) 54) 4 18 true,
 oQ 23 (.pick (oT 18) (oT 22) (.const (.bool false))) 4,
 oM 24 23 4,
 oG 25 (.load 54 (oT 3)) 54 24 true,
 oG 26 (.call { callee:=(.value (.func 48)),args:=#[(.const (.string { data:=#[97,98] }))],argTypes:=#[9] }) 25 24 true,
 oG 27 (.build 54 #[(0,(oT 26))]) 54 24 true,
 oG 28 (.binOp .eql 54 (oT 25) (oT 27) 54) 4 24 true,
 oQ 29 (.pick (oT 24) (oT 28) (.const (.bool false))) 4,
 oM 30 29 4,
 oG 31 (.move (oT 5)) 28 30 true,
 oG 32 (.binOp .eql 28 (oT 31) (.const (.int .i64 3)) 28) 4 30 true,
 oQ 33 (.pick (oT 30) (oT 32) (.const (.bool false))) 4,
 oM 34 33 4,
 oG 35 (.load 54 (oT 1)) 54 34 true,
 oG 36 (.call { callee:=(.value (.func 30)),args:=#[(oT 35),(.const (.string { data:=#[120,97] })),(.const (.int .i64 0))],argTypes:=#[54,9,3] }) 4 34 true,
 oQ 37 (.pick (oT 34) (oT 36) (.const (.bool false))) 4,
 oM 38 37 4,
 oG 39 (.load 54 (oT 1)) 54 38 true,
 oG 40 (.call { callee:=(.value (.func 30)),args:=#[(oT 39),(.const (.string { data:=#[120,97] })),(.const (.int .i64 1))],argTypes:=#[54,9,3] }) 4 38 true,
 oG 41 (.unOp .not 4 (oT 40)) 4 38 true,
 oQ 42 (.pick (oT 38) (oT 41) (.const (.bool false))) 4,
 oM 43 42 4,
 oG 44 (.load 54 (oT 1)) 54 43 true,
 oG 45 (.call { callee:=(.value (.func 30)),args:=#[(oT 44),(.const (.string { data:=#[120,97] })),(.const (.int .i64 2))],argTypes:=#[54,9,3] }) 4 43 true,
 oQ 46 (.pick (oT 43) (oT 45) (.const (.bool false))) 4,
 oM 47 46 4,
 oG 48 (.load 54 (oT 1)) 54 47 true,
 oG 49 (.call { callee:=(.value (.func 30)),args:=#[(oT 48),(.const (.string { data:=#[120,97] })),(.const (.int .i64 3))],argTypes:=#[54,9,3] }) 4 47 true,
 oG 50 (.unOp .not 4 (oT 49)) 4 47 true,
 oQ 51 (.pick (oT 47) (oT 50) (.const (.bool false))) 4,
 oM 52 51 4,
 oG 53 (.load 54 (oT 2)) 54 52 true,
 oG 54 (.call { callee:=(.value (.func 30)),args:=#[(oT 53),(.const (.string { data:=#[97,98,97,98] })),(.const (.int .i64 2))],argTypes:=#[54,9,3] }) 4 52 true,
 oQ 55 (.pick (oT 52) (oT 54) (.const (.bool false))) 4,
 oM 56 55 4,
 oG 57 (.load 54 (oT 2)) 54 56 true,
 oG 58 (.call { callee:=(.value (.func 30)),args:=#[(oT 57),(.const (.string { data:=#[97,98,97,98] })),(.const (.int .i64 0))],argTypes:=#[54,9,3] }) 4 56 true,
 oG 59 (.unOp .not 4 (oT 58)) 4 56 true,
 oQ 60 (.pick (oT 56) (oT 59) (.const (.bool false))) 4,
 oM 61 60 4,
 oG 62 (.load 54 (oT 2)) 54 61 true,
 oG 63 (.call { callee:=(.value (.func 30)),args:=#[(oT 62),(.const (.string { data:=#[97,97,98] })),(.const (.int .i64 0))],argTypes:=#[54,9,3] }) 4 61 true,
 oQ 64 (.pick (oT 61) (oT 63) (.const (.bool false))) 4,
 oM 65 64 4,
 oG 66 (.call { callee:=(.value (.func 60)),args:=#[(.const (.string { data:=#[40,63,61,97,41,98,42] }))],argTypes:=#[9] }) 54 65 true,
 oG 67 (.field 54 (oT 66) 1) 4 65 true,
 oQ 68 (.pick (oT 65) (oT 67) (.const (.bool false))) 4,
 oM 69 68 4,
 oG 70 (.call { callee:=(.value (.func 60)),args:=#[(.const (.string { data:=#[40,63,58,97,98,41,123,50,125] }))],argTypes:=#[9] }) 54 69 true,
 oG 71 (.field 54 (oT 70) 3) 9 69 true,
 oG 72 (.binOp .eql 9 (oT 71) (.const (.string { data:=#[97,98] })) 9) 4 69 true,
 oQ 73 (.pick (oT 69) (oT 72) (.const (.bool false))) 4,
 oA 0 73 4]
def f29:AFun:=⟨74,[(.tmp 0)],(.seq (.ops false f29r0) (.seq (.ops false f29r1) (.seq (.ops false f29r2) (.seq (.ops true f29r3) .ret))))⟩
def f30r0:List AOp:=[oQ 3 (.box 54 (oT 0)) 0,
 oQ 6 (.assign (.const (.bool false))) 4]
def f30r1:List AOp:=[oM 7 2 3,
 oQ 8 (.binOp .lss 3 (oT 7) (.const (.int .i64 0)) 3) 4,
 oM 9 8 4,
 oG 10 (.move (oT 2)) 3 9 false,
 oG 11 (.move (oT 1)) 9 9 false,
 oG 12 (cB .len #[(oT 11)] #[9]) 3 9 false,
 oG 13 (.binOp .gtr 3 (oT 10) (oT 12) 3) 4 9 false,
 oQ 14 (.pick (oT 9) (.const (.bool true)) (oT 13)) 4,
 oM 15 14 4,
 oG 16 (.load 54 (oT 3)) 54 15 false,
 oG 17 (.build 54 #[(1,(.const (.bool true)))]) 54 15 false,
 oG 18 (.binOp .eql 54 (oT 16) (oT 17) 54) 4 15 false,
 oQ 19 (.pick (oT 15) (.const (.bool true)) (oT 18)) 4]
def f30r2:List AOp:=[oQ 6 (.assign (.const (.bool false))) 4]
def f30r3:List AOp:=[oQ 20 (.fieldAddr 54 (oT 3) 1) 0,
 oQ 21 (.load 4 (oT 20)) 4,
 oQ 22 (.unOp .not 4 (oT 21)) 4,
 oM 23 22 4,
 oG 24 (.move (oT 2)) 3 23 true,
 oG 25 (.move (oT 1)) 9 23 true,
 oG 26 (cB .len #[(oT 25)] #[9]) 3 23 true,
 oG 27 (.binOp .eql 3 (oT 24) (oT 26) 3) 4 23 true,
 oG 28 (.move (oT 27)) 4 23 true,
 oG 29 (.fieldAddr 54 (oT 3) 0) 0 28 false,
 oG 30 (.load 25 (oT 29)) 25 28 false,
 oG 31 (.move (oT 1)) 9 28 false,
 oG 32 (.move (oT 2)) 3 28 false,
 oG 33 (.index 9 (oT 31) (oT 32)) 5 28 false,
 oG 34 (cF 35 #[(oT 30),(oT 33)] #[25,5]) 4 28 false,
 oG 35 (.unOp .not 4 (oT 34)) 4 28 false,
 oG 36 (.pick (oT 28) (.const (.bool true)) (oT 35)) 4 23 true,
 oQ 37 (.pick (oT 23) (oT 36) (.const (.bool false))) 4]
def f30r4:List AOp:=[oQ 6 (.assign (.const (.bool true))) 4]
def f30r5:List AOp:=[oQ 38 (.fieldAddr 54 (oT 3) 2) 0,
 oQ 39 (.load 4 (oT 38)) 4,
 oM 40 39 4,
 oG 41 (.move (oT 2)) 3 40 true,
 oG 42 (.binOp .gtr 3 (oT 41) (.const (.int .i64 0)) 3) 4 40 true,
 oQ 43 (.pick (oT 40) (oT 42) (.const (.bool false))) 4,
 oM 44 43 4,
 oG 45 (.move (oT 1)) 9 44 false,
 oG 46 (.move (oT 2)) 3 44 false,
 oG 47 (.slice 9 (oT 45) (some (oT 46)) none none) 9 44 false,
 oG 48 (.fieldAddr 54 (oT 3) 3) 0 44 false,
 oG 49 (.load 9 (oT 48)) 9 44 false,
 oG 50 (cF 61 #[(oT 47),(oT 49)] #[9,9]) 4 44 false,
 oG 51 (.unOp .not 4 (oT 50)) 4 44 false,
 oQ 52 (.pick (oT 44) (.const (.bool true)) (oT 51)) 4,
 oA 6 52 4]
def f30:AFun:=⟨53,[(.tmp 6)],(.seq (.ops false f30r0) (.seq (.seq (.ops false f30r1) (.cond (.tmp 19) (.seq (.ops false f30r2) .ret) .skip)) (.seq (.seq (.ops false f30r3) (.cond (.tmp 37) (.seq (.ops false f30r4) .ret) .skip)) (.seq (.ops false f30r5) .ret))))⟩
def f32r0:List AOp:=[oQ 1 (.box 37 (oT 0)) 0,
 oQ 2 (.assign (.const (.int .i64 0))) 3]
def f32r1:List AOp:=[oQ 5 (.fieldAddr 37 (oT 1) 0) 0,
 oQ 6 (.load 35 (oT 5)) 35,
 oQ 7 (cB .len #[(oT 6)] #[35]) 3,
 oQ 8 (.binOp .gtr 3 (oT 7) (.const (.int .i64 500)) 3) 4]
def f32r2:List AOp:=[oQ 2 (.assign (.const (.int .i64 0))) 3]
def f32r3:List AOp:=[oQ 10 (.load 37 (oT 1)) 37,
 oQ 11 (cF 62 #[(oT 10)] #[37]) 115,
 oM 9 11 115,
 oQ 12 (.extract (oT 9) 0) 100,
 oQ 13 (.extract (oT 9) 1) 4,
 oA 3 12 100,
 oA 4 13 4]
def f32r4:List AOp:=[oM 14 4 4,
 oQ 15 (.unOp .not 4 (oT 14)) 4]
def f32r5:List AOp:=[oQ 2 (.assign (.const (.int .i64 0))) 3]
def f32r6:List AOp:=[oQ 16 (.load 37 (oT 1)) 37,
 oQ 17 (cF 63 #[(oT 16)] #[37]) 100,
 oQ 18 (.fieldAddr 37 (oT 1) 0) 0,
 oQ 19 (.load 35 (oT 18)) 35,
 oQ 20 (cB .len #[(oT 19)] #[35]) 3,
 oQ 21 (.binOp .sub 3 (oT 20) (.const (.int .i64 1)) 3) 3,
 oQ 22 (.indexAddr 100 (oT 17) (oT 21)) 0,
 oQ 23 (.load 3 (oT 22)) 3,
 oA 2 23 3]
def f32:AFun:=⟨24,[(.tmp 2)],(.seq (.ops false f32r0) (.seq (.seq (.ops false f32r1) (.cond (.tmp 8) (.seq (.ops false f32r2) .ret) .skip)) (.seq (.seq (.ops false f32r3) (.seq (.ops false f32r4) (.cond (.tmp 15) (.seq (.ops false f32r5) .ret) .skip))) (.seq (.ops true f32r6) .ret))))⟩
def f33r0:List AOp:=[oQ 2 (.box 37 (oT 0)) 0,
 oQ 3 (.box 72 (oT 1)) 0,
 oQ 4 (.alloc 37) 0]
def f33r1:List AOp:=[oQ 6 (.fieldAddr 37 (oT 2) 0) 0,
 oQ 7 (.load 35 (oT 6)) 35,
 oQ 8 (cB .len #[(oT 7)] #[35]) 3,
 oQ 9 (.fieldAddr 37 (oT 2) 0) 0,
 oQ 10 (.load 35 (oT 9)) 35,
 oQ 11 (cB .len #[(oT 10)] #[35]) 3,
 oQ 12 (.binOp .add 3 (oT 11) (.const (.int .i64 1)) 3) 3,
 oQ 13 (.makeSlice 35 (oT 8) (oT 12)) 35,
 oA 5 13 35]
def f33r2:List AOp:=[oM 14 5 35,
 oQ 15 (.fieldAddr 37 (oT 2) 0) 0,
 oQ 16 (.load 35 (oT 15)) 35,
 oQ 17 (cB .copy #[(oT 14),(oT 16)] #[35,35]) 3]
def f33r3:List AOp:=[oM 18 5 35,
 oQ 19 (cB .len #[(oT 18)] #[35]) 3,
 oQ 20 (.binOp .sub 3 (oT 19) (.const (.int .i64 1)) 3) 3,
 oQ 21 (.fieldAddr 72 (oT 3) 1) 0,
 oN (.store 3 (oT 21) (oT 20)) 0,
 oQ 22 (.fieldAddr 72 (oT 3) 2) 0,
 oN (.store 3 (oT 22) (.const (.int .i64 0))) 0]
def f33r4:List AOp:=[oM 23 5 35,
 oQ 24 (.load 72 (oT 3)) 72,
 oQ 25 (.buildSlice 35 1 #[(0,(oT 24))]) 35,
 oQ 26 (cB .append #[(oT 23),(oT 25)] #[35,35]) 35,
 oQ 27 (.build 37 #[(0,(oT 26))]) 37,
 oN (.store 37 (oT 4) (oT 27)) 0]
def f33:AFun:=⟨28,[(.cell 4 37)],(.seq (.ops false f33r0) (.seq (.ops false f33r1) (.seq (.ops false f33r2) (.seq (.ops false f33r3) (.seq (.ops false f33r4) .ret)))))⟩
def f35r0:List AOp:=[oQ 2 (.box 25 (oT 0)) 0,
 oQ 4 (.assign (.const (.bool false))) 4]
def f35r1:List AOp:=[oM 5 1 5,
 oQ 6 (.binOp .quo 5 (oT 5) (.const (.int .u8 64)) 5) 5,
 oQ 7 (.fieldAddr 25 (oT 2) 0) 0,
 oQ 8 (.indexAddr 23 (oT 7) (oT 6)) 0,
 oQ 9 (.load 22 (oT 8)) 22,
 oM 10 1 5,
 oQ 11 (.binOp .rem 5 (oT 10) (.const (.int .u8 64)) 5) 5,
 oQ 12 (.binOp .shr 22 (oT 9) (oT 11) 5) 22,
 oQ 13 (.binOp .and 22 (oT 12) (.const (.int .u64 1)) 22) 22,
 oQ 14 (.binOp .eql 22 (oT 13) (.const (.int .u64 1)) 22) 4,
 oA 4 14 4]
def f35:AFun:=⟨15,[(.tmp 4)],(.seq (.ops false f35r0) (.seq (.ops false f35r1) .ret))⟩
def f36r0:List AOp:=[oQ 1 (.box 37 (oT 0)) 0,
 oQ 2 (.assign (.const (.int .i64 0))) 3]
def f36r1:List AOp:=[oQ 3 (.assign (.const (.int .i64 0))) 3]
def f36r2:List AOp:=[oQ 6 (.fieldAddr 37 (oT 1) 0) 0,
 oQ 7 (.load 35 (oT 6)) 35,
 oQ 8 (cB .len #[(oT 7)] #[35]) 3,
 oQ 9 (.move (.const (.int .i64 0))) 3]
def f36r3:List AOp:=[oQ 10 (.binOp .lss 3 (oT 9) (oT 8) 3) 0]
def f36r4:List AOp:=[oQ 11 (.indexAddr 35 (oT 7) (oT 9)) 0,
 oQ 12 (.load 72 (oT 11)) 72,
 oQ 5 (.alloc 72) 0,
 oN (.store 72 (oT 5) (oT 12)) 0]
def f36r5:List AOp:=[oQ 13 (.fieldAddr 72 (oT 5) 0) 0,
 oQ 14 (.load 3 (oT 13)) 3,
 oQ 15 (.binOp .eql 3 (oT 14) (.const (.int .i64 11)) 3) 4]
def f36r6:List AOp:=[oM 16 3 3,
 oQ 17 (.binOp .add 3 (oT 16) (.const (.int .i64 1)) 3) 3,
 oA 3 17 3]
def f36r7:List AOp:=[oQ 18 (.binOp .add 3 (oT 9) (.const (.int .i64 1)) 3) 3,
 oM 9 18 3]
def f36b0:AC:=(.seq (.ops false f36r3) (.seq (.cond (oT 10) .skip (.exit 0)) (.seq (.block 1 (.seq (.ops false f36r4) (.seq (.ops false f36r5) (.cond (oT 15) (.ops false f36r6) .skip)))) (.ops false f36r7))))
def f36r8:List AOp:=[oM 19 3 3,
 oA 2 19 3]
def f36:AFun:=⟨20,[(.tmp 2)],(.seq (.ops false f36r0) (.seq (.ops false f36r1) (.seq (.seq (.ops false f36r2) (.block 0 (.loop [3,7,8,9] f36b0))) (.seq (.ops false f36r8) .ret))))⟩
def f37r0:List AOp:=[oQ 3 (.box 37 (oT 0)) 0,
 oQ 4 (.box 37 (oT 1)) 0,
 oQ 6 (.alloc 37) 0]
def f37r1:List AOp:=[oQ 11 (.fieldAddr 37 (oT 3) 0) 0,
 oQ 12 (.load 35 (oT 11)) 35,
 oQ 13 (cB .len #[(oT 12)] #[35]) 3,
 oA 7 13 3]
def f37r2:List AOp:=[oM 14 7 3,
 oQ 15 (.fieldAddr 37 (oT 4) 0) 0,
 oQ 16 (.load 35 (oT 15)) 35,
 oQ 17 (cB .len #[(oT 16)] #[35]) 3,
 oQ 18 (.binOp .add 3 (oT 14) (oT 17) 3) 3,
 oM 19 7 3,
 oQ 20 (.fieldAddr 37 (oT 4) 0) 0,
 oQ 21 (.load 35 (oT 20)) 35,
 oQ 22 (cB .len #[(oT 21)] #[35]) 3,
 oQ 23 (.binOp .add 3 (oT 19) (oT 22) 3) 3,
 oQ 24 (.binOp .add 3 (oT 23) (.const (.int .i64 1)) 3) 3,
 oQ 25 (.makeSlice 35 (oT 18) (oT 24)) 35,
 oA 8 25 35]
def f37r3:List AOp:=[oM 26 8 35,
 oQ 27 (.fieldAddr 37 (oT 3) 0) 0,
 oQ 28 (.load 35 (oT 27)) 35,
 oQ 29 (cB .copy #[(oT 26),(oT 28)] #[35,35]) 3]
def f37r4:List AOp:=[oQ 30 (.fieldAddr 37 (oT 4) 0) 0,
 oQ 31 (.load 35 (oT 30)) 35,
 oQ 32 (cB .len #[(oT 31)] #[35]) 3,
 oQ 33 (.move (.const (.int .i64 0))) 3]
def f37r5:List AOp:=[oQ 34 (.binOp .lss 3 (oT 33) (oT 32) 3) 0]
def f37r6:List AOp:=[oM 35 33 3,
 oQ 36 (.indexAddr 35 (oT 31) (oT 33)) 0,
 oQ 37 (.load 72 (oT 36)) 72,
 oQ 10 (.alloc 72) 0,
 oA 9 35 3,
 oN (.store 72 (oT 10) (oT 37)) 0]
def f37r7:List AOp:=[oQ 38 (.fieldAddr 72 (oT 10) 0) 0,
 oQ 39 (.load 3 (oT 38)) 3,
 oQ 40 (cF 66 #[(oT 39)] #[3]) 3,
 oQ 41 (.binOp .gtr 3 (oT 40) (.const (.int .i64 0)) 3) 4]
def f37r8:List AOp:=[oQ 42 (.fieldAddr 72 (oT 10) 1) 0,
 oQ 43 (.load 3 (oT 42)) 3,
 oM 44 7 3,
 oQ 45 (.binOp .add 3 (oT 43) (oT 44) 3) 3,
 oQ 46 (.fieldAddr 72 (oT 10) 1) 0,
 oN (.store 3 (oT 46) (oT 45)) 0]
def f37r9:List AOp:=[oQ 47 (.fieldAddr 72 (oT 10) 0) 0,
 oQ 48 (.load 3 (oT 47)) 3,
 oQ 49 (cF 66 #[(oT 48)] #[3]) 3,
 oQ 50 (.binOp .gtr 3 (oT 49) (.const (.int .i64 1)) 3) 4]
def f37r10:List AOp:=[oQ 51 (.fieldAddr 72 (oT 10) 2) 0,
 oQ 52 (.load 3 (oT 51)) 3,
 oM 53 7 3,
 oQ 54 (.binOp .add 3 (oT 52) (oT 53) 3) 3,
 oQ 55 (.fieldAddr 72 (oT 10) 2) 0,
 oN (.store 3 (oT 55) (oT 54)) 0]
def f37r11:List AOp:=[oM 56 8 35,
 oM 57 7 3,
 oM 58 9 3,
 oQ 59 (.binOp .add 3 (oT 57) (oT 58) 3) 3,
 oQ 60 (.load 72 (oT 10)) 72,
 oQ 61 (.indexAddr 35 (oT 56) (oT 59)) 0,
 oN (.store 72 (oT 61) (oT 60)) 0]
def f37r12:List AOp:=[oQ 62 (.binOp .add 3 (oT 33) (.const (.int .i64 1)) 3) 3,
 oM 33 62 3]
def f37b0:AC:=(.seq (.ops false f37r5) (.seq (.cond (oT 34) .skip (.exit 0)) (.seq (.block 1 (.seq (.ops false f37r6) (.seq (.seq (.ops false f37r7) (.cond (oT 41) (.ops false f37r8) .skip)) (.seq (.seq (.ops false f37r9) (.cond (oT 50) (.ops false f37r10) .skip)) (.ops false f37r11))))) (.ops false f37r12))))
def f37r13:List AOp:=[oM 63 8 35,
 oM 64 2 3,
 oM 65 7 3,
 oQ 66 (.binOp .sub 3 (oT 65) (.const (.int .i64 1)) 3) 3,
 oM 67 8 35,
 oQ 68 (cB .len #[(oT 67)] #[35]) 3,
 oQ 69 (.binOp .sub 3 (oT 68) (.const (.int .i64 1)) 3) 3,
 oQ 70 (.build 72 #[(0,(oT 64)),(1,(oT 66)),(2,(oT 69))]) 72,
 oQ 71 (.buildSlice 35 1 #[(0,(oT 70))]) 35,
 oQ 72 (cB .append #[(oT 63),(oT 71)] #[35,35]) 35,
 oQ 73 (.build 37 #[(0,(oT 72))]) 37,
 oN (.store 37 (oT 6) (oT 73)) 0]
def f37:AFun:=⟨74,[(.cell 6 37)],(.seq (.ops false f37r0) (.seq (.ops false f37r1) (.seq (.ops false f37r2) (.seq (.ops false f37r3) (.seq (.seq (.ops false f37r4) (.block 0 (.loop [2,6,7,8,31,32,33] f37b0))) (.seq (.ops false f37r13) .ret))))))⟩
def f38r0:List AOp:=[oQ 2 (.box 25 (oT 0)) 0,
 oQ 3 (.box 25 (oT 1)) 0,
 oQ 4 (.alloc 25) 0]
def f38r1:List AOp:=[oQ 6 (.move (.const (.int .i64 0))) 3]
def f38r2:List AOp:=[oQ 7 (.binOp .lss 3 (oT 6) (.const (.int .i64 4)) 3) 0]
def f38r3:List AOp:=[oM 8 6 3,
 oA 5 8 3]
def f38r4:List AOp:=[oM 9 5 3,
 oQ 10 (.fieldAddr 25 (oT 2) 0) 0,
 oQ 11 (.indexAddr 23 (oT 10) (oT 9)) 0,
 oQ 12 (.load 22 (oT 11)) 22,
 oM 13 5 3,
 oQ 14 (.fieldAddr 25 (oT 3) 0) 0,
 oQ 15 (.indexAddr 23 (oT 14) (oT 13)) 0,
 oQ 16 (.load 22 (oT 15)) 22,
 oQ 17 (.binOp .or 22 (oT 12) (oT 16) 22) 22,
 oQ 18 (.fieldAddr 25 (oT 2) 0) 0,
 oQ 19 (.indexAddr 23 (oT 18) (oT 9)) 0,
 oN (.store 22 (oT 19) (oT 17)) 0]
def f38r5:List AOp:=[oQ 20 (.binOp .add 3 (oT 6) (.const (.int .i64 1)) 3) 3,
 oM 6 20 3]
def f38b0:AC:=(.seq (.ops false f38r2) (.seq (.cond (oT 7) .skip (.exit 0)) (.seq (.block 1 (.seq (.ops false f38r3) (.ops true f38r4))) (.ops false f38r5))))
def f38r6:List AOp:=[oQ 21 (.load 25 (oT 2)) 25,
 oN (.store 25 (oT 4) (oT 21)) 0]
def f38:AFun:=⟨22,[(.cell 4 25)],(.seq (.ops false f38r0) (.seq (.seq (.ops false f38r1) (.block 0 (.loop [2,3,4,6] f38b0))) (.seq (.ops false f38r6) .ret)))⟩
def f40r0:List AOp:=[oQ 1 (.box 37 (oT 0)) 0,
 oQ 2 (.assign (.const (.int .i64 0))) 28]
def f40r1:List AOp:=[oQ 8 (.load 37 (oT 1)) 37,
 oQ 9 (cF 64 #[(oT 8)] #[37]) 28,
 oA 3 9 28]
def f40r2:List AOp:=[oM 10 3 28,
 oQ 11 (.binOp .neq 28 (oT 10) (.const (.int .i64 0)) 28) 4]
def f40r3:List AOp:=[oM 12 3 28,
 oA 2 12 28]
def f40r4:List AOp:=[oQ 13 (.load 37 (oT 1)) 37,
 oQ 14 (cF 68 #[(oT 13)] #[37]) 4,
 oQ 15 (.unOp .not 4 (oT 14)) 4]
def f40r5:List AOp:=[oQ 2 (.assign (.const (.int .i64 6))) 28]
def f40r6:List AOp:=[oQ 17 (.load 37 (oT 1)) 37,
 oQ 18 (cF 65 #[(oT 17)] #[37]) 118,
 oM 16 18 118,
 oQ 19 (.extract (oT 16) 0) 100,
 oQ 20 (.extract (oT 16) 1) 100,
 oA 4 19 100,
 oA 5 20 100]
def f40r7:List AOp:=[oQ 21 (.fieldAddr 37 (oT 1) 0) 0,
 oQ 22 (.load 35 (oT 21)) 35,
 oQ 23 (cB .len #[(oT 22)] #[35]) 3,
 oQ 24 (.move (.const (.int .i64 0))) 3]
def f40r8:List AOp:=[oQ 25 (.binOp .lss 3 (oT 24) (oT 23) 3) 0]
def f40r9:List AOp:=[oQ 26 (.indexAddr 35 (oT 22) (oT 24)) 0,
 oQ 27 (.load 72 (oT 26)) 72,
 oQ 7 (.alloc 72) 0,
 oN (.store 72 (oT 7) (oT 27)) 0]
def f40r10:List AOp:=[oQ 28 (.fieldAddr 72 (oT 7) 0) 0,
 oQ 29 (.load 3 (oT 28)) 3,
 oQ 30 (.binOp .neq 3 (oT 29) (.const (.int .i64 15)) 3) 4,
 oM 31 30 4,
 oG 32 (.fieldAddr 72 (oT 7) 0) 0 31 true,
 oG 33 (.load 3 (oT 32)) 3 31 true,
 oG 34 (.binOp .neq 3 (oT 33) (.const (.int .i64 16)) 3) 4 31 true,
 oQ 35 (.pick (oT 31) (oT 34) (.const (.bool false))) 4]
def f40r11:List AOp:=[oM 36 4 100,
 oQ 37 (.fieldAddr 72 (oT 7) 1) 0,
 oQ 38 (.load 3 (oT 37)) 3,
 oQ 39 (.indexAddr 100 (oT 36) (oT 38)) 0,
 oQ 40 (.load 3 (oT 39)) 3,
 oM 41 5 100,
 oQ 42 (.fieldAddr 72 (oT 7) 1) 0,
 oQ 43 (.load 3 (oT 42)) 3,
 oQ 44 (.indexAddr 100 (oT 41) (oT 43)) 0,
 oQ 45 (.load 3 (oT 44)) 3,
 oQ 46 (.binOp .neq 3 (oT 40) (oT 45) 3) 4,
 oM 47 46 4,
 oG 48 (.move (oT 4)) 100 47 false,
 oG 49 (.fieldAddr 72 (oT 7) 1) 0 47 false,
 oG 50 (.load 3 (oT 49)) 3 47 false,
 oG 51 (.indexAddr 100 (oT 48) (oT 50)) 0 47 false,
 oG 52 (.load 3 (oT 51)) 3 47 false,
 oG 53 (.binOp .gtr 3 (oT 52) (.const (.int .i64 255)) 3) 4 47 false,
 oQ 54 (.pick (oT 47) (.const (.bool true)) (oT 53)) 4]
def f40r12:List AOp:=[oQ 2 (.assign (.const (.int .i64 7))) 28]
def f40r13:List AOp:=[oQ 55 (.binOp .add 3 (oT 24) (.const (.int .i64 1)) 3) 3,
 oM 24 55 3]
def f40b0:AC:=(.seq (.ops false f40r8) (.seq (.cond (oT 25) .skip (.exit 0)) (.seq (.block 1 (.seq (.ops false f40r9) (.seq (.seq (.ops false f40r10) (.cond (oT 35) (.exit 1) .skip)) (.seq (.ops true f40r11) (.cond (oT 54) (.seq (.ops false f40r12) .ret) .skip))))) (.ops false f40r13))))
def f40r14:List AOp:=[oQ 2 (.assign (.const (.int .i64 0))) 28]
def f40:AFun:=⟨56,[(.tmp 2)],(.seq (.ops false f40r0) (.seq (.seq (.ops false f40r1) (.seq (.ops false f40r2) (.cond (.tmp 11) (.seq (.ops false f40r3) .ret) .skip))) (.seq (.seq (.ops false f40r4) (.cond (.tmp 15) (.seq (.ops false f40r5) .ret) .skip)) (.seq (.ops false f40r6) (.seq (.seq (.ops false f40r7) (.block 0 (.loop [4,5,22,23,24] f40b0))) (.seq (.ops false f40r14) .ret))))))⟩
def f41r0:List AOp:=[oQ 2 (.alloc 37) 0,
 oQ 3 (.assign (.const (.int .i64 0))) 28]
def f41r1:List AOp:=[oM 10 0 9,
 oQ 11 (cF 16 #[(oT 10)] #[9]) 29,
 oM 9 11 29,
 oQ 12 (.extract (oT 9) 0) 27,
 oQ 13 (.extract (oT 9) 1) 28,
 oA 4 12 27,
 oA 5 13 28]
def f41r2:List AOp:=[oM 14 5 28,
 oQ 15 (.binOp .neq 28 (oT 14) (.const (.int .i64 0)) 28) 4]
def f41r3:List AOp:=[oQ 16 (.build 37 #[]) 37,
 oM 17 5 28,
 oN (.store 37 (oT 2) (oT 16)) 0,
 oA 3 17 28]
def f41r4:List AOp:=[oM 19 4 27,
 oQ 20 (cF 69 #[(oT 19)] #[27]) 123,
 oM 18 20 123,
 oQ 21 (.extract (oT 18) 0) 37,
 oQ 22 (.extract (oT 18) 1) 4,
 oQ 6 (.alloc 37) 0,
 oN (.store 37 (oT 6) (oT 21)) 0,
 oA 7 22 4]
def f41r5:List AOp:=[oM 23 7 4,
 oQ 24 (.unOp .not 4 (oT 23)) 4]
def f41r6:List AOp:=[oQ 25 (.build 37 #[]) 37,
 oN (.store 37 (oT 2) (oT 25)) 0,
 oQ 3 (.assign (.const (.int .i64 3))) 28]
def f41r7:List AOp:=[oQ 26 (.load 37 (oT 6)) 37,
 oQ 27 (cF 40 #[(oT 26)] #[37]) 28,
 oA 8 27 28]
def f41r8:List AOp:=[oM 28 8 28,
 oQ 29 (.binOp .neq 28 (oT 28) (.const (.int .i64 0)) 28) 4]
def f41r9:List AOp:=[oQ 30 (.build 37 #[]) 37,
 oM 31 8 28,
 oN (.store 37 (oT 2) (oT 30)) 0,
 oA 3 31 28]
def f41r10:List AOp:=[oQ 32 (.load 37 (oT 6)) 37,
 oN (.store 37 (oT 2) (oT 32)) 0,
 oQ 3 (.assign (.const (.int .i64 0))) 28]
def f41:AFun:=⟨33,[(.cell 2 37),(.tmp 3)],(.seq (.ops false f41r0) (.seq (.ops false f41r1) (.seq (.seq (.ops false f41r2) (.cond (.tmp 15) (.seq (.ops false f41r3) .ret) .skip)) (.seq (.ops false f41r4) (.seq (.seq (.ops false f41r5) (.cond (.tmp 24) (.seq (.ops false f41r6) .ret) .skip)) (.seq (.seq (.ops false f41r7) (.seq (.ops false f41r8) (.cond (.tmp 29) (.seq (.ops false f41r9) .ret) .skip))) (.seq (.ops false f41r10) .ret)))))))⟩
def f44r0:List AOp:=[oQ 1 (.box 25 (oT 0)) 0,
 oQ 2 (.assign (.const (.int .i64 0))) 3]
def f44r1:List AOp:=[oQ 3 (.assign (.const (.int .i64 0))) 3]
def f44r2:List AOp:=[oQ 6 (.fieldAddr 25 (oT 1) 0) 0,
 oQ 7 (.load 23 (oT 6)) 23,
 oQ 8 (.move (.const (.int .i64 0))) 3]
def f44r3:List AOp:=[oQ 9 (.binOp .lss 3 (oT 8) (.const (.int .i64 4)) 3) 0]
def f44r4:List AOp:=[oQ 10 (.index 23 (oT 7) (oT 8)) 22,
 oA 5 10 22]
def f44r5:List AOp:=[oM 11 3 3,
 oM 12 5 22,
 oQ 13 (cF 72 #[(oT 12)] #[22]) 3,
 oQ 14 (.binOp .add 3 (oT 11) (oT 13) 3) 3,
 oA 3 14 3]
def f44r6:List AOp:=[oQ 15 (.binOp .add 3 (oT 8) (.const (.int .i64 1)) 3) 3,
 oM 8 15 3]
def f44b0:AC:=(.seq (.ops false f44r3) (.seq (.cond (oT 9) .skip (.exit 0)) (.seq (.block 1 (.seq (.ops false f44r4) (.ops false f44r5))) (.ops false f44r6))))
def f44r7:List AOp:=[oM 16 3 3,
 oA 2 16 3]
def f44:AFun:=⟨17,[(.tmp 2)],(.seq (.ops false f44r0) (.seq (.ops false f44r1) (.seq (.seq (.ops false f44r2) (.block 0 (.loop [3,7,8] f44b0))) (.seq (.ops false f44r7) .ret))))⟩
def f46r0:List AOp:=[oQ 2 (.alloc 33) 0,
 oQ 3 (.assign (.const (.int .i64 0))) 3,
 oQ 4 (.assign (.const (.int .i64 0))) 28]
def f46r1:List AOp:=[oM 11 0 9,
 oQ 12 (.index 9 (oT 11) (.const (.int .i64 0))) 5,
 oQ 13 (cF 73 #[(oT 12)] #[5]) 129,
 oM 10 13 129,
 oQ 14 (.extract (oT 10) 0) 3,
 oQ 15 (.extract (oT 10) 1) 4,
 oA 5 14 3,
 oA 6 15 4]
def f46r2:List AOp:=[oM 16 6 4]
def f46r3:List AOp:=[oM 17 5 3,
 oQ 18 (.build 33 #[(0,(oT 17))]) 33,
 oN (.store 33 (oT 2) (oT 18)) 0,
 oQ 3 (.assign (.const (.int .i64 1))) 3,
 oQ 4 (.assign (.const (.int .i64 0))) 28]
def f46r4:List AOp:=[oM 19 0 9,
 oQ 20 (.index 9 (oT 19) (.const (.int .i64 0))) 5]
def f46r5:List AOp:=[oQ 22 (.binOp .eql 5 (oT 20) (.const (.int .u8 40)) 5) 4,
 oA 21 22 4]
def f46r6:List AOp:=[oQ 24 (.binOp .eql 5 (oT 20) (.const (.int .u8 42)) 5) 4,
 oA 23 24 4]
def f46r7:List AOp:=[oQ 25 (.binOp .eql 5 (oT 20) (.const (.int .u8 43)) 5) 4,
 oA 23 25 4]
def f46r8:List AOp:=[oQ 26 (.binOp .eql 5 (oT 20) (.const (.int .u8 63)) 5) 4,
 oA 23 26 4]
def f46r9:List AOp:=[oQ 27 (.binOp .eql 5 (oT 20) (.const (.int .u8 123)) 5) 4,
 oA 23 27 4]
def f46r10:List AOp:=[oQ 29 (.binOp .eql 5 (oT 20) (.const (.int .u8 91)) 5) 4,
 oA 28 29 4]
def f46r11:List AOp:=[oQ 31 (.binOp .eql 5 (oT 20) (.const (.int .u8 92)) 5) 4,
 oA 30 31 4]
def f46r12:List AOp:=[oQ 33 (.binOp .eql 5 (oT 20) (.const (.int .u8 93)) 5) 4,
 oA 32 33 4]
def f46r13:List AOp:=[oQ 35 (.binOp .eql 5 (oT 20) (.const (.int .u8 125)) 5) 4,
 oA 34 35 4]
def f46r14:List AOp:=[oM 36 0 9,
 oQ 37 (cF 74 #[(oT 36)] #[9]) 91,
 oQ 38 (.extract (oT 37) 0) 33,
 oQ 39 (.extract (oT 37) 1) 3,
 oQ 40 (.extract (oT 37) 2) 28,
 oN (.store 33 (oT 2) (oT 38)) 0,
 oA 3 39 3,
 oA 4 40 28]
def f46r15:List AOp:=[oM 41 0 9,
 oQ 42 (cF 75 #[(oT 41)] #[9]) 91,
 oQ 43 (.extract (oT 42) 0) 33,
 oQ 44 (.extract (oT 42) 1) 3,
 oQ 45 (.extract (oT 42) 2) 28,
 oN (.store 33 (oT 2) (oT 43)) 0,
 oA 3 44 3,
 oA 4 45 28]
def f46r16:List AOp:=[oM 47 0 9,
 oQ 48 (cF 76 #[(oT 47),(.const (.int .i64 0))] #[9,3]) 131,
 oM 46 48 131,
 oQ 49 (.extract (oT 46) 0) 25,
 oQ 50 (.extract (oT 46) 1) 3,
 oQ 51 (.extract (oT 46) 2) 28,
 oQ 7 (.alloc 25) 0,
 oN (.store 25 (oT 7) (oT 49)) 0,
 oA 8 50 3,
 oA 9 51 28]
def f46r17:List AOp:=[oQ 52 (.load 25 (oT 7)) 25,
 oQ 53 (.build 33 #[(1,(oT 52))]) 33,
 oM 54 8 3,
 oM 55 9 28,
 oN (.store 33 (oT 2) (oT 53)) 0,
 oA 3 54 3,
 oA 4 55 28]
def f46r18:List AOp:=[oM 56 0 9,
 oQ 57 (cF 77 #[(oT 56)] #[9]) 91,
 oQ 58 (.extract (oT 57) 0) 33,
 oQ 59 (.extract (oT 57) 1) 3,
 oQ 60 (.extract (oT 57) 2) 28,
 oN (.store 33 (oT 2) (oT 58)) 0,
 oA 3 59 3,
 oA 4 60 28]
def f46r19:List AOp:=[oQ 61 (.build 33 #[]) 33,
 oN (.store 33 (oT 2) (oT 61)) 0,
 oQ 3 (.assign (.const (.int .i64 0))) 3,
 oQ 4 (.assign (.const (.int .i64 3))) 28]
def f46r20:List AOp:=[oM 62 0 9,
 oQ 63 (.index 9 (oT 62) (.const (.int .i64 0))) 5,
 oQ 64 (cF 49 #[(oT 63)] #[5]) 25,
 oQ 65 (.build 33 #[(1,(oT 64))]) 33,
 oN (.store 33 (oT 2) (oT 65)) 0,
 oQ 3 (.assign (.const (.int .i64 1))) 3,
 oQ 4 (.assign (.const (.int .i64 0))) 28]
def f46:AFun:=⟨66,[(.cell 2 33),(.tmp 3),(.tmp 4)],(.seq (.ops false f46r0) (.seq (.seq (.ops false f46r1) (.seq (.ops false f46r2) (.cond (.tmp 16) (.seq (.ops false f46r3) .ret) .skip))) (.seq (.seq (.ops false f46r4) (.block 0 (.seq (.block 6 (.block 5 (.seq (.block 4 (.seq (.block 3 (.seq (.block 2 (.seq (.block 1 (.seq (.seq (.seq (.ops false f46r5) (.cond (.tmp 21) (.exit 1) .skip)) (.seq (.seq (.seq (.ops false f46r6) (.cond (.tmp 23) .skip (.seq (.ops false f46r7) (.cond (.tmp 23) .skip (.seq (.ops false f46r8) (.cond (.tmp 23) .skip (.ops false f46r9))))))) (.cond (.tmp 23) (.exit 2) .skip)) (.seq (.seq (.ops false f46r10) (.cond (.tmp 28) (.exit 3) .skip)) (.seq (.seq (.ops false f46r11) (.cond (.tmp 30) (.exit 4) .skip)) (.seq (.seq (.ops false f46r12) (.cond (.tmp 32) (.exit 5) .skip)) (.seq (.ops false f46r13) (.cond (.tmp 34) (.exit 6) .skip))))))) (.exit 0))) (.seq (.seq (.ops false f46r14) .ret) (.exit 0)))) (.seq (.seq (.ops false f46r15) .ret) (.exit 0)))) (.seq (.seq (.ops false f46r16) (.seq (.ops false f46r17) .ret)) (.exit 0)))) (.seq (.seq (.ops false f46r18) .ret) (.exit 0))))) (.seq (.seq (.ops false f46r19) .ret) (.exit 0))))) (.seq (.ops false f46r20) .ret))))⟩
def f47r0:List AOp:=[oQ 1 (.box 72 (oT 0)) 0,
 oQ 2 (.alloc 37) 0]
def f47r1:List AOp:=[oQ 3 (.load 72 (oT 1)) 72,
 oQ 4 (.buildSlice 35 1 #[(0,(oT 3))]) 35,
 oQ 5 (.build 37 #[(0,(oT 4))]) 37,
 oN (.store 37 (oT 2) (oT 5)) 0]
def f47:AFun:=⟨6,[(.cell 2 37)],(.seq (.ops false f47r0) (.seq (.ops false f47r1) .ret))⟩
def f48r0:List AOp:=[oQ 2 (.alloc 25) 0]
def f48r1:List AOp:=[oQ 3 (.alloc 25) 0]
def f48r2:List AOp:=[oM 6 0 9,
 oQ 7 (.convert 9 128 (oT 6)) 128,
 oQ 8 (cB .len #[(oT 7)] #[128]) 3,
 oQ 9 (.move (.const (.int .i64 0))) 3]
def f48r3:List AOp:=[oQ 10 (.binOp .lss 3 (oT 9) (oT 8) 3) 0]
def f48r4:List AOp:=[oQ 11 (.indexAddr 128 (oT 7) (oT 9)) 0,
 oQ 12 (.load 5 (oT 11)) 5,
 oA 5 12 5]
def f48r5:List AOp:=[oM 13 5 5,
 oQ 14 (cF 78 #[(oT 3),(oT 13)] #[25,5]) 0]
def f48r6:List AOp:=[oQ 15 (.binOp .add 3 (oT 9) (.const (.int .i64 1)) 3) 3,
 oM 9 15 3]
def f48b0:AC:=(.seq (.ops false f48r3) (.seq (.cond (oT 10) .skip (.exit 0)) (.seq (.block 1 (.seq (.ops false f48r4) (.ops false f48r5))) (.ops false f48r6))))
def f48r7:List AOp:=[oQ 16 (.load 25 (oT 3)) 25,
 oN (.store 25 (oT 2) (oT 16)) 0]
def f48:AFun:=⟨17,[(.cell 2 25)],(.seq (.ops false f48r0) (.seq (.ops false f48r1) (.seq (.seq (.ops false f48r2) (.block 0 (.loop [2,3,7,8,9] f48b0))) (.seq (.ops false f48r7) .ret))))⟩
def f49r0:List AOp:=[oQ 2 (.alloc 25) 0]
def f49r1:List AOp:=[oQ 3 (.alloc 25) 0]
def f49r2:List AOp:=[oM 4 0 5,
 oQ 5 (cF 78 #[(oT 3),(oT 4)] #[25,5]) 0]
def f49r3:List AOp:=[oQ 6 (.load 25 (oT 3)) 25,
 oN (.store 25 (oT 2) (oT 6)) 0]
def f49:AFun:=⟨7,[(.cell 2 25)],(.seq (.ops false f49r0) (.seq (.ops false f49r1) (.seq (.ops false f49r2) (.seq (.ops false f49r3) .ret))))⟩
def f57r0:List AOp:=[oQ 1 (.box 37 (oT 0)) 0,
 oQ 2 (.assign (.const (.slice none 0 0))) 108]
def f57r1:List AOp:=[oQ 6 (.fieldAddr 37 (oT 1) 0) 0,
 oQ 7 (.load 35 (oT 6)) 35,
 oQ 8 (cB .len #[(oT 7)] #[35]) 3,
 oQ 9 (.makeSlice 108 (oT 8) (oT 8)) 108,
 oA 3 9 108]
def f57r2:List AOp:=[oQ 10 (.fieldAddr 37 (oT 1) 0) 0,
 oQ 11 (.load 35 (oT 10)) 35,
 oQ 12 (cB .len #[(oT 11)] #[35]) 3,
 oQ 13 (.move (.const (.int .i64 0))) 3]
def f57r3:List AOp:=[oQ 14 (.binOp .lss 3 (oT 13) (oT 12) 3) 0]
def f57r4:List AOp:=[oM 15 13 3,
 oQ 16 (.indexAddr 35 (oT 11) (oT 13)) 0,
 oQ 17 (.load 72 (oT 16)) 72,
 oQ 5 (.alloc 72) 0,
 oA 4 15 3,
 oN (.store 72 (oT 5) (oT 17)) 0]
def f57r5:List AOp:=[oQ 18 (.fieldAddr 72 (oT 5) 0) 0,
 oQ 19 (.load 3 (oT 18)) 3]
def f57r7:List AOp:=[oQ 25 (.binOp .eql 3 (oT 19) (.const (.int .i64 1)) 3) 4,
 oA 24 25 4]
def f57r8:List AOp:=[oM 26 3 108,
 oM 27 4 3,
 oQ 28 (.fieldAddr 72 (oT 5) 3) 0,
 oQ 29 (.load 25 (oT 28)) 25,
 oQ 30 (cF 86 #[(oT 29)] #[25]) 107,
 oQ 31 (.indexAddr 108 (oT 26) (oT 27)) 0,
 oN (.store 107 (oT 31) (oT 30)) 0]
def f57r9:List AOp:=[oQ 33 (.binOp .eql 3 (oT 19) (.const (.int .i64 2)) 3) 4,
 oA 32 33 4]
def f57r10:List AOp:=[oM 34 3 108,
 oM 35 4 3,
 oQ 36 (cF 87 #[] #[]) 107,
 oQ 37 (.indexAddr 108 (oT 34) (oT 35)) 0,
 oN (.store 107 (oT 37) (oT 36)) 0]
def f57r11:List AOp:=[oM 38 3 108,
 oM 39 4 3,
 oQ 40 (.indexAddr 108 (oT 38) (oT 39)) 0,
 oQ 41 (.fieldAddr 107 (oT 40) 0) 0,
 oQ 42 (.fieldAddr 54 (oT 41) 2) 0,
 oN (.store 4 (oT 42) (.const (.bool true))) 0]
def f57r12:List AOp:=[oQ 44 (.binOp .eql 3 (oT 19) (.const (.int .i64 12)) 3) 4,
 oA 43 44 4]
def f57r13:List AOp:=[oM 45 3 108,
 oM 46 4 3,
 oQ 47 (cF 88 #[] #[]) 25,
 oQ 48 (.build 54 #[(0,(oT 47)),(1,(.const (.bool true)))]) 54,
 oQ 49 (.build 107 #[(0,(oT 48))]) 107,
 oQ 50 (.indexAddr 108 (oT 45) (oT 46)) 0,
 oN (.store 107 (oT 50) (oT 49)) 0]
def f57r14:List AOp:=[oQ 52 (.binOp .eql 3 (oT 19) (.const (.int .i64 8)) 3) 4,
 oA 51 52 4]
def f57r15:List AOp:=[oM 53 3 108,
 oM 54 4 3,
 oM 55 3 108,
 oQ 56 (.fieldAddr 72 (oT 5) 1) 0,
 oQ 57 (.load 3 (oT 56)) 3,
 oQ 58 (.indexAddr 108 (oT 55) (oT 57)) 0,
 oQ 59 (.load 107 (oT 58)) 107,
 oM 60 3 108,
 oQ 61 (.fieldAddr 72 (oT 5) 2) 0,
 oQ 62 (.load 3 (oT 61)) 3,
 oQ 63 (.indexAddr 108 (oT 60) (oT 62)) 0,
 oQ 64 (.load 107 (oT 63)) 107,
 oQ 65 (cF 89 #[(oT 59),(oT 64)] #[107,107]) 107,
 oQ 66 (.indexAddr 108 (oT 53) (oT 54)) 0,
 oN (.store 107 (oT 66) (oT 65)) 0]
def f57r16:List AOp:=[oQ 68 (.binOp .eql 3 (oT 19) (.const (.int .i64 9)) 3) 4,
 oA 67 68 4]
def f57r17:List AOp:=[oM 69 3 108,
 oM 70 4 3,
 oM 71 3 108,
 oQ 72 (.fieldAddr 72 (oT 5) 1) 0,
 oQ 73 (.load 3 (oT 72)) 3,
 oQ 74 (.indexAddr 108 (oT 71) (oT 73)) 0,
 oQ 75 (.load 107 (oT 74)) 107,
 oM 76 3 108,
 oQ 77 (.fieldAddr 72 (oT 5) 2) 0,
 oQ 78 (.load 3 (oT 77)) 3,
 oQ 79 (.indexAddr 108 (oT 76) (oT 78)) 0,
 oQ 80 (.load 107 (oT 79)) 107,
 oQ 81 (cF 90 #[(oT 75),(oT 80)] #[107,107]) 107,
 oQ 82 (.indexAddr 108 (oT 69) (oT 70)) 0,
 oN (.store 107 (oT 82) (oT 81)) 0]
def f57r18:List AOp:=[oQ 84 (.binOp .eql 3 (oT 19) (.const (.int .i64 10)) 3) 4,
 oA 83 84 4]
def f57r19:List AOp:=[oM 85 3 108,
 oM 86 4 3,
 oQ 87 (.load 72 (oT 5)) 72,
 oM 88 3 108,
 oQ 89 (.fieldAddr 72 (oT 5) 1) 0,
 oQ 90 (.load 3 (oT 89)) 3,
 oQ 91 (.indexAddr 108 (oT 88) (oT 90)) 0,
 oQ 92 (.load 107 (oT 91)) 107,
 oQ 93 (cF 91 #[(oT 87),(oT 92)] #[72,107]) 107,
 oQ 94 (.indexAddr 108 (oT 85) (oT 86)) 0,
 oN (.store 107 (oT 94) (oT 93)) 0]
def f57r20:List AOp:=[oQ 96 (.binOp .eql 3 (oT 19) (.const (.int .i64 11)) 3) 4,
 oA 95 96 4]
def f57r21:List AOp:=[oQ 97 (.binOp .eql 3 (oT 19) (.const (.int .i64 17)) 3) 4,
 oA 95 97 4]
def f57r22:List AOp:=[oM 98 3 108,
 oM 99 4 3,
 oM 100 3 108,
 oQ 101 (.fieldAddr 72 (oT 5) 1) 0,
 oQ 102 (.load 3 (oT 101)) 3,
 oQ 103 (.indexAddr 108 (oT 100) (oT 102)) 0,
 oQ 104 (.load 107 (oT 103)) 107,
 oQ 105 (.indexAddr 108 (oT 98) (oT 99)) 0,
 oN (.store 107 (oT 105) (oT 104)) 0]
def f57r6:List AOp:=[oM 20 3 108,
 oM 21 4 3,
 oQ 22 (cF 87 #[] #[]) 107,
 oQ 23 (.indexAddr 108 (oT 20) (oT 21)) 0,
 oN (.store 107 (oT 23) (oT 22)) 0]
def f57r23:List AOp:=[oQ 106 (.binOp .add 3 (oT 13) (.const (.int .i64 1)) 3) 3,
 oM 13 106 3]
def f57b0:AC:=(.seq (.ops false f57r3) (.seq (.cond (oT 14) .skip (.exit 0)) (.seq (.block 1 (.seq (.ops false f57r4) (.seq (.ops false f57r5) (.block 2 (.seq (.ops false f57r7) (.cond (oT 24) (.ops false f57r8) (.seq (.ops false f57r9) (.cond (oT 32) (.seq (.ops false f57r10) (.ops false f57r11)) (.seq (.ops false f57r12) (.cond (oT 43) (.ops false f57r13) (.seq (.ops false f57r14) (.cond (oT 51) (.ops true f57r15) (.seq (.ops false f57r16) (.cond (oT 67) (.ops true f57r17) (.seq (.ops false f57r18) (.cond (oT 83) (.ops true f57r19) (.seq (.seq (.ops false f57r20) (.cond (oT 95) .skip (.ops false f57r21))) (.cond (oT 95) (.ops false f57r22) (.ops false f57r6))))))))))))))))))) (.ops false f57r23))))
def f57r24:List AOp:=[oM 107 3 108,
 oA 2 107 108]
def f57:AFun:=⟨108,[(.tmp 2)],(.seq (.ops false f57r0) (.seq (.ops false f57r1) (.seq (.seq (.ops false f57r2) (.block 0 (.loop [3,11,12,13] f57b0))) (.seq (.ops false f57r24) .ret))))⟩
def f60r0:List AOp:=[oQ 2 (.alloc 54) 0]
def f60r1:List AOp:=[oM 8 0 9,
 oQ 9 (cF 41 #[(oT 8)] #[9]) 83,
 oM 7 9 83,
 oQ 10 (.extract (oT 7) 0) 37,
 oQ 11 (.extract (oT 7) 1) 28,
 oQ 3 (.alloc 37) 0,
 oN (.store 37 (oT 3) (oT 10)) 0,
 oA 4 11 28]
def f60r2:List AOp:=[oQ 13 (.load 37 (oT 3)) 37,
 oQ 14 (cF 26 #[(oT 13)] #[37]) 55,
 oM 12 14 55,
 oQ 15 (.extract (oT 12) 0) 54,
 oQ 16 (.extract (oT 12) 1) 28,
 oQ 5 (.alloc 54) 0,
 oN (.store 54 (oT 5) (oT 15)) 0,
 oA 6 16 28]
def f60r3:List AOp:=[oQ 17 (.load 54 (oT 5)) 54,
 oN (.store 54 (oT 2) (oT 17)) 0]
def f60:AFun:=⟨18,[(.cell 2 54)],(.seq (.ops false f60r0) (.seq (.ops false f60r1) (.seq (.ops false f60r2) (.seq (.ops false f60r3) .ret))))⟩
def f61r0:List AOp:=[oQ 4 (.assign (.const (.bool false))) 4]
def f61r1:List AOp:=[oM 5 0 9,
 oM 6 1 9,
 oQ 7 (cF 96 #[(oT 5),(oT 6)] #[9,9]) 4,
 oA 4 7 4]
def f61:AFun:=⟨8,[(.tmp 4)],(.seq (.ops false f61r0) (.seq (.ops false f61r1) .ret))⟩
def f62r0:List AOp:=[oQ 1 (.box 37 (oT 0)) 0,
 oQ 2 (.assign (.const (.slice none 0 0))) 100,
 oQ 3 (.assign (.const (.bool false))) 4]
def f62r1:List AOp:=[oQ 11 (.fieldAddr 37 (oT 1) 0) 0,
 oQ 12 (.load 35 (oT 11)) 35,
 oQ 13 (cB .len #[(oT 12)] #[35]) 3,
 oQ 14 (.makeSlice 100 (oT 13) (oT 13)) 100,
 oA 4 14 100]
def f62r2:List AOp:=[oQ 15 (.fieldAddr 37 (oT 1) 0) 0,
 oQ 16 (.load 35 (oT 15)) 35,
 oQ 17 (cB .len #[(oT 16)] #[35]) 3,
 oQ 18 (.move (.const (.int .i64 0))) 3]
def f62r3:List AOp:=[oQ 19 (.binOp .lss 3 (oT 18) (oT 17) 3) 0]
def f62r4:List AOp:=[oM 20 18 3,
 oQ 21 (.indexAddr 35 (oT 16) (oT 18)) 0,
 oQ 22 (.load 72 (oT 21)) 72,
 oQ 6 (.alloc 72) 0,
 oA 5 20 3,
 oN (.store 72 (oT 6) (oT 22)) 0]
def f62r5:List AOp:=[oQ 7 (.assign (.const (.int .i64 0))) 3,
 oQ 8 (.assign (.const (.int .i64 0))) 3,
 oQ 9 (.assign (.const (.int .i64 1))) 3]
def f62r6:List AOp:=[oQ 23 (.fieldAddr 72 (oT 6) 0) 0,
 oQ 24 (.load 3 (oT 23)) 3,
 oQ 25 (cF 66 #[(oT 24)] #[3]) 3]
def f62r7:List AOp:=[oQ 27 (.binOp .eql 3 (oT 25) (.const (.int .i64 1)) 3) 4,
 oA 26 27 4]
def f62r8:List AOp:=[oM 28 5 3,
 oQ 29 (.binOp .sub 3 (oT 28) (.const (.int .i64 1)) 3) 3,
 oA 7 29 3]
def f62r9:List AOp:=[oM 30 7 3,
 oQ 31 (.binOp .lss 3 (oT 30) (.const (.int .i64 0)) 3) 4]
def f62r10:List AOp:=[oQ 2 (.assign (.const (.slice none 0 0))) 100,
 oQ 3 (.assign (.const (.bool false))) 4]
def f62r11:List AOp:=[oM 32 9 3,
 oM 33 4 100,
 oM 34 7 3,
 oQ 35 (.indexAddr 100 (oT 33) (oT 34)) 0,
 oQ 36 (.load 3 (oT 35)) 3,
 oQ 37 (.binOp .add 3 (oT 32) (oT 36) 3) 3,
 oA 9 37 3]
def f62r12:List AOp:=[oQ 39 (.binOp .eql 3 (oT 25) (.const (.int .i64 2)) 3) 4,
 oA 38 39 4]
def f62r13:List AOp:=[oM 40 5 3,
 oQ 41 (.binOp .sub 3 (oT 40) (.const (.int .i64 1)) 3) 3,
 oA 8 41 3]
def f62r14:List AOp:=[oM 42 8 3,
 oQ 43 (.binOp .lss 3 (oT 42) (.const (.int .i64 0)) 3) 4]
def f62r15:List AOp:=[oQ 2 (.assign (.const (.slice none 0 0))) 100,
 oQ 3 (.assign (.const (.bool false))) 4]
def f62r16:List AOp:=[oM 44 8 3,
 oM 45 4 100,
 oM 46 8 3,
 oQ 47 (.indexAddr 100 (oT 45) (oT 46)) 0,
 oQ 48 (.load 3 (oT 47)) 3,
 oQ 49 (.binOp .sub 3 (oT 44) (oT 48) 3) 3,
 oA 7 49 3]
def f62r17:List AOp:=[oM 50 7 3,
 oQ 51 (.binOp .lss 3 (oT 50) (.const (.int .i64 0)) 3) 4]
def f62r18:List AOp:=[oQ 2 (.assign (.const (.slice none 0 0))) 100,
 oQ 3 (.assign (.const (.bool false))) 4]
def f62r19:List AOp:=[oM 52 9 3,
 oM 53 4 100,
 oM 54 7 3,
 oQ 55 (.indexAddr 100 (oT 53) (oT 54)) 0,
 oQ 56 (.load 3 (oT 55)) 3,
 oM 57 4 100,
 oM 58 8 3,
 oQ 59 (.indexAddr 100 (oT 57) (oT 58)) 0,
 oQ 60 (.load 3 (oT 59)) 3,
 oQ 61 (.binOp .add 3 (oT 56) (oT 60) 3) 3,
 oQ 62 (.binOp .add 3 (oT 52) (oT 61) 3) 3,
 oA 9 62 3]
def f62r20p0:List AOp:=[oQ 63 (.load 72 (oT 6)) 72,
 oQ 64 (cF 97 #[(oT 63)] #[72]) 4,
 oQ 65 (.unOp .not 4 (oT 64)) 4,
 oM 66 65 4,
 oG 67 (.fieldAddr 72 (oT 6) 1) 0 66 false,
 oG 68 (.load 3 (oT 67)) 3 66 false,
 oG 69 (.move (oT 7)) 3 66 false,
 oG 70 (.binOp .neq 3 (oT 68) (oT 69) 3) 4 66 false,
 oQ 71 (.pick (oT 66) (.const (.bool true)) (oT 70)) 4]
def f62r20p1:List AOp:=[oM 72 71 4,
 oG 73 (.fieldAddr 72 (oT 6) 2) 0 72 false,
 oG 74 (.load 3 (oT 73)) 3 72 false,
 oG 75 (.move (oT 8)) 3 72 false,
 oG 76 (.binOp .neq 3 (oT 74) (oT 75) 3) 4 72 false,
 oQ 77 (.pick (oT 72) (.const (.bool true)) (oT 76)) 4]
def f62r20:List AOp:=f62r20p0 ++ f62r20p1
def f62r21:List AOp:=[oQ 2 (.assign (.const (.slice none 0 0))) 100,
 oQ 3 (.assign (.const (.bool false))) 4]
def f62r22:List AOp:=[oM 78 4 100,
 oM 79 5 3,
 oM 80 9 3,
 oQ 81 (.indexAddr 100 (oT 78) (oT 79)) 0,
 oN (.store 3 (oT 81) (oT 80)) 0]
def f62r23:List AOp:=[oQ 82 (.binOp .add 3 (oT 18) (.const (.int .i64 1)) 3) 3,
 oM 18 82 3]
def f62b0:AC:=(.seq (.ops false f62r3) (.seq (.cond (oT 19) .skip (.exit 0)) (.seq (.block 1 (.seq (.ops false f62r4) (.seq (.ops false f62r5) (.seq (.seq (.ops false f62r6) (.block 2 (.seq (.ops false f62r7) (.cond (oT 26) (.seq (.ops false f62r8) (.seq (.seq (.ops false f62r9) (.cond (oT 31) (.seq (.ops false f62r10) .ret) .skip)) (.ops false f62r11))) (.seq (.ops false f62r12) (.cond (oT 38) (.seq (.ops false f62r13) (.seq (.seq (.ops false f62r14) (.cond (oT 43) (.seq (.ops false f62r15) .ret) .skip)) (.seq (.ops false f62r16) (.seq (.seq (.ops false f62r17) (.cond (oT 51) (.seq (.ops false f62r18) .ret) .skip)) (.ops true f62r19))))) .skip)))))) (.seq (.seq (.ops false f62r20) (.cond (oT 77) (.seq (.ops false f62r21) .ret) .skip)) (.ops false f62r22)))))) (.ops false f62r23))))
def f62r24:List AOp:=[oQ 83 (.fieldAddr 37 (oT 1) 0) 0,
 oQ 84 (.load 35 (oT 83)) 35,
 oQ 85 (cB .len #[(oT 84)] #[35]) 3,
 oQ 86 (.binOp .sub 3 (oT 85) (.const (.int .i64 1)) 3) 3,
 oA 10 86 3]
def f62r25p0:List AOp:=[oM 87 4 100,
 oM 88 10 3,
 oQ 89 (.binOp .geq 3 (oT 88) (.const (.int .i64 0)) 3) 4,
 oM 90 89 4,
 oG 91 (.move (oT 4)) 100 90 true,
 oG 92 (.move (oT 10)) 3 90 true,
 oG 93 (.indexAddr 100 (oT 91) (oT 92)) 0 90 true,
 oG 94 (.load 3 (oT 93)) 3 90 true,
 oG 95 (.fieldAddr 37 (oT 1) 0) 0 90 true,
 oG 96 (.load 35 (oT 95)) 35 90 true,
 oG 97 (cB .len #[(oT 96)] #[35]) 3 90 true,
 oG 98 (.binOp .eql 3 (oT 94) (oT 97) 3) 4 90 true,
 oQ 99 (.pick (oT 90) (oT 98) (.const (.bool false))) 4]
def f62r25p1:List AOp:=[oA 2 87 100,
 oA 3 99 4]
def f62r25:List AOp:=f62r25p0 ++ f62r25p1
def f62:AFun:=⟨100,[(.tmp 2),(.tmp 3)],(.seq (.ops false f62r0) (.seq (.ops false f62r1) (.seq (.seq (.ops false f62r2) (.block 0 (.loop [1,4,16,17,18] f62b0))) (.seq (.ops false f62r24) (.seq (.ops true f62r25) .ret)))))⟩
def f63r0:List AOp:=[oQ 1 (.box 37 (oT 0)) 0,
 oQ 2 (.assign (.const (.slice none 0 0))) 100]
def f63r1:List AOp:=[oQ 6 (.fieldAddr 37 (oT 1) 0) 0,
 oQ 7 (.load 35 (oT 6)) 35,
 oQ 8 (cB .len #[(oT 7)] #[35]) 3,
 oQ 9 (.makeSlice 100 (oT 8) (oT 8)) 100,
 oA 3 9 100]
def f63r2:List AOp:=[oQ 10 (.fieldAddr 37 (oT 1) 0) 0,
 oQ 11 (.load 35 (oT 10)) 35,
 oQ 12 (cB .len #[(oT 11)] #[35]) 3,
 oQ 13 (.move (.const (.int .i64 0))) 3]
def f63r3:List AOp:=[oQ 14 (.binOp .lss 3 (oT 13) (oT 12) 3) 0]
def f63r4:List AOp:=[oM 15 13 3,
 oQ 16 (.indexAddr 35 (oT 11) (oT 13)) 0,
 oQ 17 (.load 72 (oT 16)) 72,
 oQ 5 (.alloc 72) 0,
 oA 4 15 3,
 oN (.store 72 (oT 5) (oT 17)) 0]
def f63r5:List AOp:=[oQ 18 (.fieldAddr 72 (oT 5) 0) 0,
 oQ 19 (.load 3 (oT 18)) 3,
 oQ 20 (cF 66 #[(oT 19)] #[3]) 3]
def f63r7:List AOp:=[oQ 37 (.binOp .eql 3 (oT 20) (.const (.int .i64 0)) 3) 4,
 oA 36 37 4]
def f63r8:List AOp:=[oM 38 3 100,
 oM 39 4 3,
 oQ 40 (.indexAddr 100 (oT 38) (oT 39)) 0,
 oN (.store 3 (oT 40) (.const (.int .i64 1))) 0]
def f63r9:List AOp:=[oQ 42 (.binOp .eql 3 (oT 20) (.const (.int .i64 1)) 3) 4,
 oA 41 42 4]
def f63r10:List AOp:=[oM 43 3 100,
 oM 44 4 3,
 oM 45 3 100,
 oQ 46 (.fieldAddr 72 (oT 5) 1) 0,
 oQ 47 (.load 3 (oT 46)) 3,
 oQ 48 (.indexAddr 100 (oT 45) (oT 47)) 0,
 oQ 49 (.load 3 (oT 48)) 3,
 oQ 50 (.binOp .add 3 (.const (.int .i64 1)) (oT 49) 3) 3,
 oQ 51 (.indexAddr 100 (oT 43) (oT 44)) 0,
 oN (.store 3 (oT 51) (oT 50)) 0]
def f63r6:List AOp:=[oM 21 3 100,
 oM 22 4 3,
 oM 23 3 100,
 oQ 24 (.fieldAddr 72 (oT 5) 1) 0,
 oQ 25 (.load 3 (oT 24)) 3,
 oQ 26 (.indexAddr 100 (oT 23) (oT 25)) 0,
 oQ 27 (.load 3 (oT 26)) 3,
 oM 28 3 100,
 oQ 29 (.fieldAddr 72 (oT 5) 2) 0,
 oQ 30 (.load 3 (oT 29)) 3,
 oQ 31 (.indexAddr 100 (oT 28) (oT 30)) 0,
 oQ 32 (.load 3 (oT 31)) 3,
 oQ 33 (cB .max #[(oT 27),(oT 32)] #[3,3]) 3,
 oQ 34 (.binOp .add 3 (.const (.int .i64 1)) (oT 33) 3) 3,
 oQ 35 (.indexAddr 100 (oT 21) (oT 22)) 0,
 oN (.store 3 (oT 35) (oT 34)) 0]
def f63r11:List AOp:=[oQ 52 (.binOp .add 3 (oT 13) (.const (.int .i64 1)) 3) 3,
 oM 13 52 3]
def f63b0:AC:=(.seq (.ops false f63r3) (.seq (.cond (oT 14) .skip (.exit 0)) (.seq (.block 1 (.seq (.ops false f63r4) (.seq (.ops false f63r5) (.block 2 (.seq (.ops false f63r7) (.cond (oT 36) (.ops false f63r8) (.seq (.ops false f63r9) (.cond (oT 41) (.ops false f63r10) (.ops true f63r6))))))))) (.ops false f63r11))))
def f63r12:List AOp:=[oM 53 3 100,
 oA 2 53 100]
def f63:AFun:=⟨54,[(.tmp 2)],(.seq (.ops false f63r0) (.seq (.ops false f63r1) (.seq (.seq (.ops false f63r2) (.block 0 (.loop [3,11,12,13] f63b0))) (.seq (.ops false f63r12) .ret))))⟩
def f64r0:List AOp:=[oQ 1 (.box 37 (oT 0)) 0,
 oQ 2 (.assign (.const (.int .i64 0))) 28]
def f64r1:List AOp:=[oQ 5 (.fieldAddr 37 (oT 1) 0) 0,
 oQ 6 (.load 35 (oT 5)) 35,
 oQ 7 (cB .len #[(oT 6)] #[35]) 3,
 oQ 8 (.binOp .gtr 3 (oT 7) (.const (.int .i64 500)) 3) 4]
def f64r2:List AOp:=[oQ 2 (.assign (.const (.int .i64 4))) 28]
def f64r3:List AOp:=[oQ 10 (.load 37 (oT 1)) 37,
 oQ 11 (cF 62 #[(oT 10)] #[37]) 115,
 oM 9 11 115,
 oQ 12 (.extract (oT 9) 0) 100,
 oQ 13 (.extract (oT 9) 1) 4,
 oA 3 12 100,
 oA 4 13 4]
def f64r4:List AOp:=[oM 14 4 4,
 oQ 15 (.unOp .not 4 (oT 14)) 4]
def f64r5:List AOp:=[oQ 2 (.assign (.const (.int .i64 3))) 28]
def f64r6:List AOp:=[oQ 16 (.load 37 (oT 1)) 37,
 oQ 17 (cF 63 #[(oT 16)] #[37]) 100,
 oQ 18 (cF 98 #[(oT 17)] #[100]) 3,
 oQ 19 (.binOp .gtr 3 (oT 18) (.const (.int .i64 40)) 3) 4]
def f64r7:List AOp:=[oQ 2 (.assign (.const (.int .i64 4))) 28]
def f64r8:List AOp:=[oQ 2 (.assign (.const (.int .i64 0))) 28]
def f64:AFun:=⟨20,[(.tmp 2)],(.seq (.ops false f64r0) (.seq (.seq (.ops false f64r1) (.cond (.tmp 8) (.seq (.ops false f64r2) .ret) .skip)) (.seq (.seq (.ops false f64r3) (.seq (.ops false f64r4) (.cond (.tmp 15) (.seq (.ops false f64r5) .ret) .skip))) (.seq (.seq (.ops false f64r6) (.cond (.tmp 19) (.seq (.ops false f64r7) .ret) .skip)) (.seq (.ops false f64r8) .ret)))))⟩
def f65r0:List AOp:=[oQ 1 (.box 37 (oT 0)) 0,
 oQ 2 (.assign (.const (.slice none 0 0))) 100,
 oQ 3 (.assign (.const (.slice none 0 0))) 100]
def f65r1:List AOp:=[oQ 8 (.fieldAddr 37 (oT 1) 0) 0,
 oQ 9 (.load 35 (oT 8)) 35,
 oQ 10 (cB .len #[(oT 9)] #[35]) 3,
 oQ 11 (.makeSlice 100 (oT 10) (oT 10)) 100,
 oQ 12 (.fieldAddr 37 (oT 1) 0) 0,
 oQ 13 (.load 35 (oT 12)) 35,
 oQ 14 (cB .len #[(oT 13)] #[35]) 3,
 oQ 15 (.makeSlice 100 (oT 14) (oT 14)) 100,
 oA 4 11 100,
 oA 5 15 100]
def f65r2:List AOp:=[oQ 16 (.fieldAddr 37 (oT 1) 0) 0,
 oQ 17 (.load 35 (oT 16)) 35,
 oQ 18 (cB .len #[(oT 17)] #[35]) 3,
 oQ 19 (.move (.const (.int .i64 0))) 3]
def f65r3:List AOp:=[oQ 20 (.binOp .lss 3 (oT 19) (oT 18) 3) 0]
def f65r4:List AOp:=[oM 21 19 3,
 oQ 22 (.indexAddr 35 (oT 17) (oT 19)) 0,
 oQ 23 (.load 72 (oT 22)) 72,
 oQ 7 (.alloc 72) 0,
 oA 6 21 3,
 oN (.store 72 (oT 7) (oT 23)) 0]
def f65r5:List AOp:=[oQ 24 (.fieldAddr 72 (oT 7) 0) 0,
 oQ 25 (.load 3 (oT 24)) 3]
def f65r6:List AOp:=[oQ 27 (.binOp .eql 3 (oT 25) (.const (.int .i64 1)) 3) 4,
 oA 26 27 4]
def f65r7:List AOp:=[oM 28 4 100,
 oM 29 6 3,
 oM 30 5 100,
 oM 31 6 3,
 oQ 32 (.indexAddr 100 (oT 28) (oT 29)) 0,
 oN (.store 3 (oT 32) (.const (.int .i64 1))) 0,
 oQ 33 (.indexAddr 100 (oT 30) (oT 31)) 0,
 oN (.store 3 (oT 33) (.const (.int .i64 1))) 0]
def f65r8:List AOp:=[oQ 35 (.binOp .eql 3 (oT 25) (.const (.int .i64 12)) 3) 4,
 oA 34 35 4]
def f65r9:List AOp:=[oM 36 5 100,
 oM 37 6 3,
 oQ 38 (.indexAddr 100 (oT 36) (oT 37)) 0,
 oN (.store 3 (oT 38) (.const (.int .i64 (-1)))) 0]
def f65r10:List AOp:=[oQ 40 (.binOp .eql 3 (oT 25) (.const (.int .i64 8)) 3) 4,
 oA 39 40 4]
def f65r11:List AOp:=[oM 41 4 100,
 oM 42 6 3,
 oM 43 5 100,
 oM 44 6 3,
 oM 45 4 100,
 oQ 46 (.fieldAddr 72 (oT 7) 1) 0,
 oQ 47 (.load 3 (oT 46)) 3,
 oQ 48 (.indexAddr 100 (oT 45) (oT 47)) 0,
 oQ 49 (.load 3 (oT 48)) 3,
 oM 50 4 100,
 oQ 51 (.fieldAddr 72 (oT 7) 2) 0,
 oQ 52 (.load 3 (oT 51)) 3,
 oQ 53 (.indexAddr 100 (oT 50) (oT 52)) 0,
 oQ 54 (.load 3 (oT 53)) 3,
 oQ 55 (cF 99 #[(oT 49),(oT 54)] #[3,3]) 3,
 oM 56 5 100,
 oQ 57 (.fieldAddr 72 (oT 7) 1) 0,
 oQ 58 (.load 3 (oT 57)) 3,
 oQ 59 (.indexAddr 100 (oT 56) (oT 58)) 0,
 oQ 60 (.load 3 (oT 59)) 3,
 oM 61 5 100,
 oQ 62 (.fieldAddr 72 (oT 7) 2) 0,
 oQ 63 (.load 3 (oT 62)) 3,
 oQ 64 (.indexAddr 100 (oT 61) (oT 63)) 0,
 oQ 65 (.load 3 (oT 64)) 3,
 oQ 66 (cF 99 #[(oT 60),(oT 65)] #[3,3]) 3,
 oQ 67 (.indexAddr 100 (oT 41) (oT 42)) 0,
 oN (.store 3 (oT 67) (oT 55)) 0,
 oQ 68 (.indexAddr 100 (oT 43) (oT 44)) 0,
 oN (.store 3 (oT 68) (oT 66)) 0]
def f65r12:List AOp:=[oQ 70 (.binOp .eql 3 (oT 25) (.const (.int .i64 9)) 3) 4,
 oA 69 70 4]
def f65r13:List AOp:=[oM 71 4 100,
 oM 72 6 3,
 oM 73 5 100,
 oM 74 6 3,
 oM 75 4 100,
 oQ 76 (.fieldAddr 72 (oT 7) 1) 0,
 oQ 77 (.load 3 (oT 76)) 3,
 oQ 78 (.indexAddr 100 (oT 75) (oT 77)) 0,
 oQ 79 (.load 3 (oT 78)) 3,
 oM 80 4 100,
 oQ 81 (.fieldAddr 72 (oT 7) 2) 0,
 oQ 82 (.load 3 (oT 81)) 3,
 oQ 83 (.indexAddr 100 (oT 80) (oT 82)) 0,
 oQ 84 (.load 3 (oT 83)) 3,
 oQ 85 (cB .min #[(oT 79),(oT 84)] #[3,3]) 3,
 oM 86 5 100,
 oQ 87 (.fieldAddr 72 (oT 7) 1) 0,
 oQ 88 (.load 3 (oT 87)) 3,
 oQ 89 (.indexAddr 100 (oT 86) (oT 88)) 0,
 oQ 90 (.load 3 (oT 89)) 3,
 oM 91 5 100,
 oQ 92 (.fieldAddr 72 (oT 7) 2) 0,
 oQ 93 (.load 3 (oT 92)) 3,
 oQ 94 (.indexAddr 100 (oT 91) (oT 93)) 0,
 oQ 95 (.load 3 (oT 94)) 3,
 oQ 96 (cB .max #[(oT 90),(oT 95)] #[3,3]) 3,
 oQ 97 (.indexAddr 100 (oT 71) (oT 72)) 0,
 oN (.store 3 (oT 97) (oT 85)) 0,
 oQ 98 (.indexAddr 100 (oT 73) (oT 74)) 0,
 oN (.store 3 (oT 98) (oT 96)) 0]
def f65r14:List AOp:=[oM 99 5 100,
 oQ 100 (.fieldAddr 72 (oT 7) 1) 0,
 oQ 101 (.load 3 (oT 100)) 3,
 oQ 102 (.indexAddr 100 (oT 99) (oT 101)) 0,
 oQ 103 (.load 3 (oT 102)) 3,
 oM 104 5 100,
 oQ 105 (.fieldAddr 72 (oT 7) 2) 0,
 oQ 106 (.load 3 (oT 105)) 3,
 oQ 107 (.indexAddr 100 (oT 104) (oT 106)) 0,
 oQ 108 (.load 3 (oT 107)) 3,
 oQ 109 (cB .min #[(oT 103),(oT 108)] #[3,3]) 3,
 oQ 110 (.binOp .eql 3 (oT 109) (.const (.int .i64 (-1))) 3) 4]
def f65r15:List AOp:=[oM 111 5 100,
 oM 112 6 3,
 oQ 113 (.indexAddr 100 (oT 111) (oT 112)) 0,
 oN (.store 3 (oT 113) (.const (.int .i64 (-1)))) 0]
def f65r16:List AOp:=[oQ 115 (.binOp .eql 3 (oT 25) (.const (.int .i64 10)) 3) 4,
 oA 114 115 4]
def f65r17:List AOp:=[oM 116 4 100,
 oM 117 6 3,
 oM 118 5 100,
 oM 119 6 3,
 oM 120 4 100,
 oQ 121 (.fieldAddr 72 (oT 7) 1) 0,
 oQ 122 (.load 3 (oT 121)) 3,
 oQ 123 (.indexAddr 100 (oT 120) (oT 122)) 0,
 oQ 124 (.load 3 (oT 123)) 3,
 oQ 125 (.fieldAddr 72 (oT 7) 4) 0,
 oQ 126 (.load 3 (oT 125)) 3,
 oQ 127 (cF 100 #[(oT 124),(oT 126)] #[3,3]) 3,
 oM 128 5 100,
 oQ 129 (.fieldAddr 72 (oT 7) 1) 0,
 oQ 130 (.load 3 (oT 129)) 3,
 oQ 131 (.indexAddr 100 (oT 128) (oT 130)) 0,
 oQ 132 (.load 3 (oT 131)) 3,
 oQ 133 (.fieldAddr 72 (oT 7) 5) 0,
 oQ 134 (.load 3 (oT 133)) 3,
 oQ 135 (cF 100 #[(oT 132),(oT 134)] #[3,3]) 3,
 oQ 136 (.indexAddr 100 (oT 116) (oT 117)) 0,
 oN (.store 3 (oT 136) (oT 127)) 0,
 oQ 137 (.indexAddr 100 (oT 118) (oT 119)) 0,
 oN (.store 3 (oT 137) (oT 135)) 0]
def f65r18:List AOp:=[oQ 139 (.binOp .eql 3 (oT 25) (.const (.int .i64 11)) 3) 4,
 oA 138 139 4]
def f65r19:List AOp:=[oQ 140 (.binOp .eql 3 (oT 25) (.const (.int .i64 17)) 3) 4,
 oA 138 140 4]
def f65r20:List AOp:=[oM 141 4 100,
 oM 142 6 3,
 oM 143 5 100,
 oM 144 6 3,
 oM 145 4 100,
 oQ 146 (.fieldAddr 72 (oT 7) 1) 0,
 oQ 147 (.load 3 (oT 146)) 3,
 oQ 148 (.indexAddr 100 (oT 145) (oT 147)) 0,
 oQ 149 (.load 3 (oT 148)) 3,
 oM 150 5 100,
 oQ 151 (.fieldAddr 72 (oT 7) 1) 0,
 oQ 152 (.load 3 (oT 151)) 3,
 oQ 153 (.indexAddr 100 (oT 150) (oT 152)) 0,
 oQ 154 (.load 3 (oT 153)) 3,
 oQ 155 (.indexAddr 100 (oT 141) (oT 142)) 0,
 oN (.store 3 (oT 155) (oT 149)) 0,
 oQ 156 (.indexAddr 100 (oT 143) (oT 144)) 0,
 oN (.store 3 (oT 156) (oT 154)) 0]
def f65r21:List AOp:=[oQ 157 (.binOp .add 3 (oT 19) (.const (.int .i64 1)) 3) 3,
 oM 19 157 3]
def f65b0:AC:=(.seq (.ops false f65r3) (.seq (.cond (oT 20) .skip (.exit 0)) (.seq (.block 1 (.seq (.ops false f65r4) (.seq (.ops false f65r5) (.block 2 (.seq (.ops false f65r6) (.cond (oT 26) (.ops false f65r7) (.seq (.ops false f65r8) (.cond (oT 34) (.ops false f65r9) (.seq (.ops false f65r10) (.cond (oT 39) (.ops true f65r11) (.seq (.ops false f65r12) (.cond (oT 69) (.seq (.ops true f65r13) (.seq (.ops true f65r14) (.cond (oT 110) (.ops false f65r15) .skip))) (.seq (.ops false f65r16) (.cond (oT 114) (.ops true f65r17) (.seq (.seq (.ops false f65r18) (.cond (oT 138) .skip (.ops false f65r19))) (.cond (oT 138) (.ops true f65r20) .skip)))))))))))))))) (.ops false f65r21))))
def f65r22:List AOp:=[oM 158 4 100,
 oM 159 5 100,
 oA 2 158 100,
 oA 3 159 100]
def f65:AFun:=⟨160,[(.tmp 2),(.tmp 3)],(.seq (.ops false f65r0) (.seq (.ops true f65r1) (.seq (.seq (.ops false f65r2) (.block 0 (.loop [4,5,17,18,19] f65b0))) (.seq (.ops false f65r22) .ret))))⟩
def f66r0:List AOp:=[oQ 2 (.assign (.const (.int .i64 0))) 3]
def f66r1:List AOp:=[oM 3 0 3]
def f66r2:List AOp:=[oQ 5 (.binOp .eql 3 (oT 3) (.const (.int .i64 8)) 3) 4,
 oA 4 5 4]
def f66r3:List AOp:=[oQ 6 (.binOp .eql 3 (oT 3) (.const (.int .i64 9)) 3) 4,
 oA 4 6 4]
def f66r4:List AOp:=[oQ 2 (.assign (.const (.int .i64 2))) 3]
def f66r5:List AOp:=[oQ 8 (.binOp .eql 3 (oT 3) (.const (.int .i64 10)) 3) 4,
 oA 7 8 4]
def f66r6:List AOp:=[oQ 9 (.binOp .eql 3 (oT 3) (.const (.int .i64 11)) 3) 4,
 oA 7 9 4]
def f66r7:List AOp:=[oQ 10 (.binOp .eql 3 (oT 3) (.const (.int .i64 13)) 3) 4,
 oA 7 10 4]
def f66r8:List AOp:=[oQ 11 (.binOp .eql 3 (oT 3) (.const (.int .i64 14)) 3) 4,
 oA 7 11 4]
def f66r9:List AOp:=[oQ 12 (.binOp .eql 3 (oT 3) (.const (.int .i64 15)) 3) 4,
 oA 7 12 4]
def f66r10:List AOp:=[oQ 13 (.binOp .eql 3 (oT 3) (.const (.int .i64 16)) 3) 4,
 oA 7 13 4]
def f66r11:List AOp:=[oQ 14 (.binOp .eql 3 (oT 3) (.const (.int .i64 17)) 3) 4,
 oA 7 14 4]
def f66r12:List AOp:=[oQ 2 (.assign (.const (.int .i64 1))) 3]
def f66r13:List AOp:=[oQ 2 (.assign (.const (.int .i64 0))) 3]
def f66:AFun:=⟨15,[(.tmp 2)],(.seq (.ops false f66r0) (.seq (.seq (.ops false f66r1) (.block 0 (.seq (.seq (.ops false f66r2) (.cond (.tmp 4) .skip (.ops false f66r3))) (.cond (.tmp 4) (.seq (.ops false f66r4) .ret) (.seq (.seq (.ops false f66r5) (.cond (.tmp 7) .skip (.seq (.ops false f66r6) (.cond (.tmp 7) .skip (.seq (.ops false f66r7) (.cond (.tmp 7) .skip (.seq (.ops false f66r8) (.cond (.tmp 7) .skip (.seq (.ops false f66r9) (.cond (.tmp 7) .skip (.seq (.ops false f66r10) (.cond (.tmp 7) .skip (.ops false f66r11))))))))))))) (.cond (.tmp 7) (.seq (.ops false f66r12) .ret) .skip)))))) (.seq (.ops false f66r13) .ret)))⟩
def f68r0:List AOp:=[oQ 1 (.box 37 (oT 0)) 0,
 oQ 2 (.assign (.const (.bool false))) 4]
def f68r1:List AOp:=[oQ 13 (.load 37 (oT 1)) 37,
 oQ 14 (cF 62 #[(oT 13)] #[37]) 115,
 oM 12 14 115,
 oQ 15 (.extract (oT 12) 0) 100,
 oQ 16 (.extract (oT 12) 1) 4,
 oQ 3 (.alloc 100) 0,
 oN (.store 100 (oT 3) (oT 15)) 0,
 oA 4 16 4]
def f68r2:List AOp:=[oQ 5 (.alloc 100) 0]
def f68r3:List AOp:=[oQ 17 (.fieldAddr 37 (oT 1) 0) 0,
 oQ 18 (.load 35 (oT 17)) 35,
 oQ 19 (cB .len #[(oT 18)] #[35]) 3,
 oQ 20 (.move (.const (.int .i64 0))) 3]
def f68r4:List AOp:=[oQ 21 (.binOp .lss 3 (oT 20) (oT 19) 3) 0]
def f68r5:List AOp:=[oM 22 20 3,
 oQ 23 (.indexAddr 35 (oT 18) (oT 20)) 0,
 oQ 24 (.load 72 (oT 23)) 72,
 oQ 7 (.alloc 72) 0,
 oA 6 22 3,
 oN (.store 72 (oT 7) (oT 24)) 0]
def f68r6:List AOp:=[oQ 25 (.fieldAddr 72 (oT 7) 0) 0,
 oQ 26 (.load 3 (oT 25)) 3,
 oQ 27 (.binOp .eql 3 (oT 26) (.const (.int .i64 11)) 3) 4]
def f68r7:List AOp:=[oQ 28 (.load 100 (oT 5)) 100,
 oM 29 6 3,
 oQ 30 (.buildSlice 100 1 #[(0,(oT 29))]) 100,
 oQ 31 (cB .append #[(oT 28),(oT 30)] #[100,100]) 100,
 oN (.store 100 (oT 5) (oT 31)) 0]
def f68r8:List AOp:=[oQ 32 (.binOp .add 3 (oT 20) (.const (.int .i64 1)) 3) 3,
 oM 20 32 3]
def f68b0:AC:=(.seq (.ops false f68r4) (.seq (.cond (oT 21) .skip (.exit 0)) (.seq (.block 1 (.seq (.ops false f68r5) (.seq (.ops false f68r6) (.cond (oT 27) (.ops false f68r7) .skip)))) (.ops false f68r8))))
def f68r9:List AOp:=[oQ 33 (.makeFunc (.func 102) #[] #[(oT 3)]) 99,
 oQ 8 (.alloc 99) 0,
 oN (.store 99 (oT 8) (oT 33)) 0]
def f68r10:List AOp:=[oQ 34 (.load 100 (oT 5)) 100,
 oQ 35 (.makeFunc (.func 104) #[] #[(oT 8),(oT 3)]) 151,
 oQ 36 (cF 103 #[(oT 34),(oT 35)] #[100,151]) 0]
def f68r11:List AOp:=[oQ 37 (.load 100 (oT 5)) 100,
 oQ 38 (cB .len #[(oT 37)] #[100]) 3,
 oQ 39 (.move (.const (.int .i64 0))) 3]
def f68r12:List AOp:=[oQ 40 (.binOp .lss 3 (oT 39) (oT 38) 3) 0]
def f68r13:List AOp:=[oM 41 39 3,
 oQ 42 (.indexAddr 100 (oT 37) (oT 39)) 0,
 oQ 43 (.load 3 (oT 42)) 3,
 oA 9 41 3,
 oA 10 43 3]
def f68r14:List AOp:=[oQ 44 (.fieldAddr 37 (oT 1) 0) 0,
 oQ 45 (.load 35 (oT 44)) 35,
 oM 46 10 3,
 oQ 47 (.indexAddr 35 (oT 45) (oT 46)) 0,
 oQ 48 (.fieldAddr 72 (oT 47) 7) 0,
 oQ 49 (.load 3 (oT 48)) 3,
 oM 50 9 3,
 oQ 51 (.binOp .add 3 (oT 50) (.const (.int .i64 1)) 3) 3,
 oQ 52 (.binOp .neq 3 (oT 49) (oT 51) 3) 4]
def f68r15:List AOp:=[oQ 2 (.assign (.const (.bool false))) 4]
def f68r16:List AOp:=[oQ 53 (.binOp .add 3 (oT 39) (.const (.int .i64 1)) 3) 3,
 oM 39 53 3]
def f68b1:AC:=(.seq (.ops false f68r12) (.seq (.cond (oT 40) .skip (.exit 2)) (.seq (.block 3 (.seq (.ops false f68r13) (.seq (.ops false f68r14) (.cond (oT 52) (.seq (.ops false f68r15) .ret) .skip)))) (.ops false f68r16))))
def f68r17:List AOp:=[oQ 54 (.makeFunc (.func 105) #[] #[(oT 5)]) 158,
 oA 11 54 158]
def f68r18p0:List AOp:=[oQ 55 (.load 100 (oT 5)) 100,
 oQ 56 (cB .len #[(oT 55)] #[100]) 3,
 oQ 57 (.binOp .leq 3 (oT 56) (.const (.int .i64 9)) 3) 4,
 oM 58 57 4,
 oG 59 (.fieldAddr 37 (oT 1) 0) 0 58 true,
 oG 60 (.load 35 (oT 59)) 35 58 true,
 oG 61 (.move (oT 11)) 158 58 true,
 oG 62 (cF 106 #[(oT 60),(oT 61)] #[35,158]) 4 58 true,
 oG 63 (.unOp .not 4 (oT 62)) 4 58 true,
 oQ 64 (.pick (oT 58) (oT 63) (.const (.bool false))) 4]
def f68r18p1:List AOp:=[oA 2 64 4]
def f68r18:List AOp:=f68r18p0 ++ f68r18p1
def f68:AFun:=⟨65,[(.tmp 2)],(.seq (.ops false f68r0) (.seq (.ops false f68r1) (.seq (.ops false f68r2) (.seq (.seq (.ops false f68r3) (.block 0 (.loop [1,3,5,18,19,20] f68b0))) (.seq (.ops false f68r9) (.seq (.ops false f68r10) (.seq (.seq (.ops false f68r11) (.block 2 (.loop [1,5,37,38,39] f68b1))) (.seq (.ops false f68r17) (.seq (.ops false f68r18) .ret)))))))))⟩
def f72r0:List AOp:=[oQ 2 (.assign (.const (.int .i64 0))) 3]
def f72r1:List AOp:=[oM 3 0 22,
 oQ 4 (.binOp .shr 22 (oT 3) (.const (.int .u64 1)) 167) 22,
 oQ 5 (.binOp .and 22 (oT 4) (.const (.int .u64 6148914691236517205)) 22) 22,
 oM 6 0 22,
 oQ 7 (.binOp .and 22 (oT 6) (.const (.int .u64 6148914691236517205)) 22) 22,
 oQ 8 (.binOp .add 22 (oT 5) (oT 7) 22) 22,
 oA 0 8 22]
def f72r2:List AOp:=[oM 9 0 22,
 oQ 10 (.binOp .shr 22 (oT 9) (.const (.int .u64 2)) 167) 22,
 oQ 11 (.binOp .and 22 (oT 10) (.const (.int .u64 3689348814741910323)) 22) 22,
 oM 12 0 22,
 oQ 13 (.binOp .and 22 (oT 12) (.const (.int .u64 3689348814741910323)) 22) 22,
 oQ 14 (.binOp .add 22 (oT 11) (oT 13) 22) 22,
 oA 0 14 22]
def f72r3:List AOp:=[oM 15 0 22,
 oQ 16 (.binOp .shr 22 (oT 15) (.const (.int .u64 4)) 167) 22,
 oM 17 0 22,
 oQ 18 (.binOp .add 22 (oT 16) (oT 17) 22) 22,
 oQ 19 (.binOp .and 22 (oT 18) (.const (.int .u64 1085102592571150095)) 22) 22,
 oA 0 19 22]
def f72r4:List AOp:=[oM 20 0 22,
 oM 21 0 22,
 oQ 22 (.binOp .shr 22 (oT 21) (.const (.int .u64 8)) 167) 22,
 oQ 23 (.binOp .add 22 (oT 20) (oT 22) 22) 22,
 oA 0 23 22]
def f72r5:List AOp:=[oM 24 0 22,
 oM 25 0 22,
 oQ 26 (.binOp .shr 22 (oT 25) (.const (.int .u64 16)) 167) 22,
 oQ 27 (.binOp .add 22 (oT 24) (oT 26) 22) 22,
 oA 0 27 22]
def f72r6:List AOp:=[oM 28 0 22,
 oM 29 0 22,
 oQ 30 (.binOp .shr 22 (oT 29) (.const (.int .u64 32)) 167) 22,
 oQ 31 (.binOp .add 22 (oT 28) (oT 30) 22) 22,
 oA 0 31 22]
def f72r7:List AOp:=[oM 32 0 22,
 oQ 33 (.convert 22 3 (oT 32)) 3,
 oQ 34 (.binOp .and 3 (oT 33) (.const (.int .i64 127)) 3) 3,
 oA 2 34 3]
def f72:AFun:=⟨35,[(.tmp 2)],(.seq (.ops false f72r0) (.seq (.ops false f72r1) (.seq (.ops false f72r2) (.seq (.ops false f72r3) (.seq (.ops false f72r4) (.seq (.ops false f72r5) (.seq (.ops false f72r6) (.seq (.ops false f72r7) .ret))))))))⟩
def f73r0:List AOp:=[oQ 2 (.assign (.const (.int .i64 0))) 3,
 oQ 3 (.assign (.const (.bool false))) 4]
def f73r1:List AOp:=[oM 6 0 5,
 oQ 7 (.call { callee:=(.value (.func 109)),args:=#[(.const (.string { data:=#[46,94,36,124,41] })),(oT 6)],argTypes:=#[9,5] }) 3,
 oA 4 7 3]
def f73r2:List AOp:=[oQ 8 (.build 169 #[(0,(.const (.int .i64 1))),(1,(.const (.int .i64 2))),(2,(.const (.int .i64 3))),(3,(.const (.int .i64 6))),(4,(.const (.int .i64 15)))]) 169,
 oQ 5 (.alloc 169) 0,
 oN (.store 169 (oT 5) (oT 8)) 0]
def f73r3:List AOp:=[oM 9 4 3,
 oQ 10 (.binOp .lss 3 (oT 9) (.const (.int .i64 0)) 3) 4]
def f73r4:List AOp:=[oQ 2 (.assign (.const (.int .i64 0))) 3,
 oQ 3 (.assign (.const (.bool false))) 4]
def f73r5:List AOp:=[oM 11 4 3,
 oQ 12 (.indexAddr 169 (oT 5) (oT 11)) 0,
 oQ 13 (.load 3 (oT 12)) 3,
 oA 2 13 3,
 oQ 3 (.assign (.const (.bool true))) 4]
def f73:AFun:=⟨14,[(.tmp 2),(.tmp 3)],(.seq (.ops false f73r0) (.seq (.ops false f73r1) (.seq (.ops false f73r2) (.seq (.seq (.ops false f73r3) (.cond (.tmp 10) (.seq (.ops false f73r4) .ret) .skip)) (.seq (.ops false f73r5) .ret)))))⟩
def f74r0:List AOp:=[oQ 2 (.alloc 33) 0,
 oQ 3 (.assign (.const (.int .i64 0))) 3,
 oQ 4 (.assign (.const (.int .i64 0))) 28]
def f74r1:List AOp:=[oM 10 0 9,
 oQ 11 (.call { callee:=(.value (.func 61)),args:=#[(oT 10),(.const (.string { data:=#[40,63] }))],argTypes:=#[9,9] }) 4,
 oQ 12 (.unOp .not 4 (oT 11)) 4]
def f74r2:List AOp:=[oQ 13 (.build 33 #[(0,(.const (.int .i64 7)))]) 33,
 oN (.store 33 (oT 2) (oT 13)) 0,
 oQ 3 (.assign (.const (.int .i64 1))) 3,
 oQ 4 (.assign (.const (.int .i64 0))) 28]
def f74r3:List AOp:=[oQ 14 (.build 170 #[(0,(.const (.string { data:=#[40,63,58] }))),(1,(.const (.string { data:=#[40,63,61] }))),(2,(.const (.string { data:=#[40,63,33] }))),(3,(.const (.string { data:=#[40,63,60,61] }))),(4,(.const (.string { data:=#[40,63,60,33] }))),(5,(.const (.string { data:=#[40,63,62] })))]) 170,
 oQ 15 (.move (.const (.int .i64 0))) 3]
def f74r4:List AOp:=[oQ 16 (.binOp .lss 3 (oT 15) (.const (.int .i64 6)) 3) 0]
def f74r5:List AOp:=[oM 17 15 3,
 oQ 18 (.index 170 (oT 14) (oT 15)) 9,
 oA 5 17 3,
 oA 6 18 9]
def f74r6:List AOp:=[oM 19 0 9,
 oM 20 6 9,
 oQ 21 (cF 61 #[(oT 19),(oT 20)] #[9,9]) 4]
def f74r7:List AOp:=[oM 22 5 3,
 oQ 23 (.binOp .add 3 (.const (.int .i64 8)) (oT 22) 3) 3,
 oQ 24 (.build 33 #[(0,(oT 23))]) 33,
 oM 25 6 9,
 oQ 26 (cB .len #[(oT 25)] #[9]) 3,
 oN (.store 33 (oT 2) (oT 24)) 0,
 oA 3 26 3,
 oQ 4 (.assign (.const (.int .i64 0))) 28]
def f74r8:List AOp:=[oQ 27 (.binOp .add 3 (oT 15) (.const (.int .i64 1)) 3) 3,
 oM 15 27 3]
def f74b0:AC:=(.seq (.ops false f74r4) (.seq (.cond (oT 16) .skip (.exit 0)) (.seq (.block 1 (.seq (.ops false f74r5) (.seq (.ops false f74r6) (.cond (oT 21) (.seq (.ops false f74r7) .ret) .skip)))) (.ops false f74r8))))
def f74r9:List AOp:=[oQ 7 (.assign (.const (.string { data:=#[] }))) 9]
def f74r10:List AOp:=[oM 28 0 9,
 oQ 29 (.slice 9 (oT 28) (some (.const (.int .i64 2))) none none) 9,
 oQ 30 (.range 9 (oT 29)) 0]
def f74r11:List AOp:=[oQ 31 (.next (oT 30) true) 0,
 oQ 32 (.extract (oT 31) 0) 4]
def f74r12:List AOp:=[oQ 33 (.extract (oT 31) 2) 21,
 oA 9 33 21]
def f74r13:List AOp:=[oM 35 9 21,
 oQ 36 (.binOp .eql 21 (oT 35) (.const (.int .i32 58)) 21) 4,
 oM 37 36 4,
 oG 38 (.move (oT 7)) 9 37 true,
 oG 39 (.binOp .neq 9 (oT 38) (.const (.string { data:=#[] })) 9) 4 37 true,
 oQ 40 (.pick (oT 37) (oT 39) (.const (.bool false))) 4,
 oA 34 40 4]
def f74r14:List AOp:=[oM 41 7 9,
 oQ 42 (.build 33 #[(0,(.const (.int .i64 14))),(6,(oT 41))]) 33,
 oM 43 7 9,
 oQ 44 (cB .len #[(oT 43)] #[9]) 3,
 oQ 45 (.binOp .add 3 (.const (.int .i64 3)) (oT 44) 3) 3,
 oN (.store 33 (oT 2) (oT 42)) 0,
 oA 3 45 3,
 oQ 4 (.assign (.const (.int .i64 0))) 28]
def f74r15:List AOp:=[oM 47 9 21,
 oQ 48 (.binOp .neq 21 (oT 47) (.const (.int .i32 105)) 21) 4,
 oM 49 48 4,
 oG 50 (.move (oT 9)) 21 49 true,
 oG 51 (.binOp .neq 21 (oT 50) (.const (.int .i32 109)) 21) 4 49 true,
 oQ 52 (.pick (oT 49) (oT 51) (.const (.bool false))) 4,
 oM 53 52 4,
 oG 54 (.move (oT 9)) 21 53 true,
 oG 55 (.binOp .neq 21 (oT 54) (.const (.int .i32 115)) 21) 4 53 true,
 oQ 56 (.pick (oT 53) (oT 55) (.const (.bool false))) 4,
 oM 57 56 4,
 oG 58 (.move (oT 7)) 9 57 false,
 oG 59 (.move (oT 9)) 21 57 false,
 oG 60 (cF 110 #[(oT 58),(oT 59)] #[9,21]) 4 57 false,
 oQ 61 (.pick (oT 57) (.const (.bool true)) (oT 60)) 4,
 oA 46 61 4]
def f74r16:List AOp:=[oQ 62 (.build 33 #[]) 33,
 oN (.store 33 (oT 2) (oT 62)) 0,
 oQ 3 (.assign (.const (.int .i64 0))) 3,
 oQ 4 (.assign (.const (.int .i64 3))) 28]
def f74r17:List AOp:=[oM 63 7 9,
 oM 64 9 21,
 oQ 65 (.convert 21 9 (oT 64)) 9,
 oQ 66 (.binOp .add 9 (oT 63) (oT 65) 9) 9,
 oA 7 66 9]
def f74b1:AC:=(.seq (.ops false f74r11) (.seq (.cond (oT 32) .skip (.exit 2)) (.block 3 (.seq (.ops false f74r12) (.seq (.block 4 (.seq (.ops false f74r13) (.cond (oT 34) (.seq (.ops false f74r14) .ret) (.seq (.ops false f74r15) (.cond (oT 46) (.seq (.ops false f74r16) .ret) .skip))))) (.ops false f74r17))))))
def f74r18:List AOp:=[oQ 67 (.build 33 #[]) 33,
 oN (.store 33 (oT 2) (oT 67)) 0,
 oQ 3 (.assign (.const (.int .i64 0))) 3,
 oQ 4 (.assign (.const (.int .i64 3))) 28]
def f74:AFun:=⟨68,[(.cell 2 33),(.tmp 3),(.tmp 4)],(.seq (.ops false f74r0) (.seq (.seq (.ops false f74r1) (.cond (.tmp 12) (.seq (.ops false f74r2) .ret) .skip)) (.seq (.seq (.ops false f74r3) (.block 0 (.loop [0,2,14,15] f74b0))) (.seq (.ops false f74r9) (.seq (.seq (.ops false f74r10) (.block 2 (.loop [2,7,30] f74b1))) (.seq (.ops false f74r18) .ret))))))⟩
def f75r0:List AOp:=[oQ 2 (.alloc 33) 0,
 oQ 3 (.assign (.const (.int .i64 0))) 3,
 oQ 4 (.assign (.const (.int .i64 0))) 28]
def f75r1:List AOp:=[oQ 7 (.build 33 #[(0,(.const (.int .i64 16))),(3,(.const (.int .i64 (-1))))]) 33,
 oQ 5 (.alloc 33) 0,
 oN (.store 33 (oT 5) (oT 7)) 0,
 oQ 6 (.assign (.const (.int .i64 1))) 3]
def f75r2:List AOp:=[oM 8 0 9,
 oQ 9 (.index 9 (oT 8) (.const (.int .i64 0))) 5]
def f75r3:List AOp:=[oQ 11 (.binOp .eql 5 (oT 9) (.const (.int .u8 43)) 5) 4,
 oA 10 11 4]
def f75r4:List AOp:=[oQ 12 (.fieldAddr 33 (oT 5) 2) 0,
 oN (.store 3 (oT 12) (.const (.int .i64 1))) 0]
def f75r5:List AOp:=[oQ 14 (.binOp .eql 5 (oT 9) (.const (.int .u8 63)) 5) 4,
 oA 13 14 4]
def f75r6:List AOp:=[oQ 15 (.fieldAddr 33 (oT 5) 3) 0,
 oN (.store 3 (oT 15) (.const (.int .i64 1))) 0]
def f75r7:List AOp:=[oQ 17 (.binOp .eql 5 (oT 9) (.const (.int .u8 123)) 5) 4,
 oA 16 17 4]
def f75r8:List AOp:=[oM 19 0 9,
 oQ 20 (cF 111 #[(oT 19)] #[9]) 172,
 oM 18 20 172,
 oQ 21 (.extract (oT 18) 0) 3,
 oQ 22 (.extract (oT 18) 1) 3,
 oQ 23 (.extract (oT 18) 2) 3,
 oQ 24 (.fieldAddr 33 (oT 5) 2) 0,
 oN (.store 3 (oT 24) (oT 21)) 0,
 oQ 25 (.fieldAddr 33 (oT 5) 3) 0,
 oN (.store 3 (oT 25) (oT 22)) 0,
 oA 6 23 3]
def f75r9:List AOp:=[oM 27 6 3,
 oQ 28 (.binOp .eql 3 (oT 27) (.const (.int .i64 0)) 3) 4,
 oA 26 28 4]
def f75r10:List AOp:=[oQ 29 (.build 33 #[]) 33,
 oN (.store 33 (oT 2) (oT 29)) 0,
 oQ 3 (.assign (.const (.int .i64 0))) 3,
 oQ 4 (.assign (.const (.int .i64 3))) 28]
def f75r11:List AOp:=[oQ 31 (.fieldAddr 33 (oT 5) 2) 0,
 oQ 32 (.load 3 (oT 31)) 3,
 oQ 33 (.fieldAddr 33 (oT 5) 3) 0,
 oQ 34 (.load 3 (oT 33)) 3,
 oQ 35 (cB .max #[(oT 32),(oT 34)] #[3,3]) 3,
 oQ 36 (.binOp .gtr 3 (oT 35) (.const (.int .i64 100)) 3) 4,
 oA 30 36 4]
def f75r12:List AOp:=[oQ 37 (.build 33 #[]) 33,
 oN (.store 33 (oT 2) (oT 37)) 0,
 oQ 3 (.assign (.const (.int .i64 0))) 3,
 oQ 4 (.assign (.const (.int .i64 4))) 28]
def f75r13:List AOp:=[oQ 39 (.fieldAddr 33 (oT 5) 3) 0,
 oQ 40 (.load 3 (oT 39)) 3,
 oQ 41 (.binOp .neq 3 (oT 40) (.const (.int .i64 (-1))) 3) 4,
 oM 42 41 4,
 oG 43 (.fieldAddr 33 (oT 5) 3) 0 42 true,
 oG 44 (.load 3 (oT 43)) 3 42 true,
 oG 45 (.fieldAddr 33 (oT 5) 2) 0 42 true,
 oG 46 (.load 3 (oT 45)) 3 42 true,
 oG 47 (.binOp .lss 3 (oT 44) (oT 46) 3) 4 42 true,
 oQ 48 (.pick (oT 42) (oT 47) (.const (.bool false))) 4,
 oA 38 48 4]
def f75r14:List AOp:=[oQ 49 (.build 33 #[]) 33,
 oN (.store 33 (oT 2) (oT 49)) 0,
 oQ 3 (.assign (.const (.int .i64 0))) 3,
 oQ 4 (.assign (.const (.int .i64 3))) 28]
def f75r15:List AOp:=[oM 51 0 9,
 oM 52 6 3,
 oQ 53 (.slice 9 (oT 51) (some (oT 52)) none none) 9,
 oQ 54 (.call { callee:=(.value (.func 61)),args:=#[(oT 53),(.const (.string { data:=#[63] }))],argTypes:=#[9,9] }) 4,
 oA 50 54 4]
def f75r16:List AOp:=[oQ 55 (.fieldAddr 33 (oT 5) 4) 0,
 oN (.store 3 (oT 55) (.const (.int .i64 1))) 0]
def f75r17:List AOp:=[oM 56 6 3,
 oQ 57 (.binOp .add 3 (oT 56) (.const (.int .i64 1)) 3) 3,
 oA 6 57 3]
def f75r18:List AOp:=[oM 59 0 9,
 oM 60 6 3,
 oQ 61 (.slice 9 (oT 59) (some (oT 60)) none none) 9,
 oQ 62 (.call { callee:=(.value (.func 61)),args:=#[(oT 61),(.const (.string { data:=#[43] }))],argTypes:=#[9,9] }) 4,
 oA 58 62 4]
def f75r19:List AOp:=[oQ 63 (.fieldAddr 33 (oT 5) 4) 0,
 oN (.store 3 (oT 63) (.const (.int .i64 2))) 0]
def f75r20:List AOp:=[oM 64 6 3,
 oQ 65 (.binOp .add 3 (oT 64) (.const (.int .i64 1)) 3) 3,
 oA 6 65 3]
def f75r21:List AOp:=[oQ 66 (.load 33 (oT 5)) 33,
 oM 67 6 3,
 oN (.store 33 (oT 2) (oT 66)) 0,
 oA 3 67 3,
 oQ 4 (.assign (.const (.int .i64 0))) 28]
def f75:AFun:=⟨68,[(.cell 2 33),(.tmp 3),(.tmp 4)],(.seq (.ops false f75r0) (.seq (.ops false f75r1) (.seq (.seq (.ops false f75r2) (.block 0 (.seq (.ops false f75r3) (.cond (.tmp 10) (.ops false f75r4) (.seq (.ops false f75r5) (.cond (.tmp 13) (.ops false f75r6) (.seq (.ops false f75r7) (.cond (.tmp 16) (.seq (.ops false f75r8) (.block 1 (.seq (.ops false f75r9) (.cond (.tmp 26) (.seq (.ops false f75r10) .ret) (.seq (.ops false f75r11) (.cond (.tmp 30) (.seq (.ops false f75r12) .ret) (.seq (.ops false f75r13) (.cond (.tmp 38) (.seq (.ops false f75r14) .ret) .skip)))))))) .skip)))))))) (.seq (.block 2 (.seq (.ops false f75r15) (.cond (.tmp 50) (.seq (.ops false f75r16) (.ops false f75r17)) (.seq (.ops false f75r18) (.cond (.tmp 58) (.seq (.ops false f75r19) (.ops false f75r20)) .skip))))) (.seq (.ops false f75r21) .ret)))))⟩
def f76r0:List AOp:=[oQ 4 (.alloc 25) 0,
 oQ 5 (.assign (.const (.int .i64 0))) 3,
 oQ 6 (.assign (.const (.int .i64 0))) 28]
def f76r1:List AOp:=[oM 13 1 3,
 oQ 14 (.binOp .lss 3 (oT 13) (.const (.int .i64 0)) 3) 4,
 oM 15 14 4,
 oG 16 (.move (oT 1)) 3 15 false,
 oG 17 (.move (oT 0)) 9 15 false,
 oG 18 (cB .len #[(oT 17)] #[9]) 3 15 false,
 oG 19 (.binOp .geq 3 (oT 16) (oT 18) 3) 4 15 false,
 oQ 20 (.pick (oT 15) (.const (.bool true)) (oT 19)) 4,
 oM 21 20 4,
 oG 22 (.move (oT 0)) 9 21 false,
 oG 23 (.move (oT 1)) 3 21 false,
 oG 24 (.index 9 (oT 22) (oT 23)) 5 21 false,
 oG 25 (.binOp .neq 5 (oT 24) (.const (.int .u8 91)) 5) 4 21 false,
 oQ 26 (.pick (oT 21) (.const (.bool true)) (oT 25)) 4]
def f76r2:List AOp:=[oQ 27 (.build 25 #[]) 25,
 oN (.store 25 (oT 4) (oT 27)) 0,
 oQ 5 (.assign (.const (.int .i64 0))) 3,
 oQ 6 (.assign (.const (.int .i64 1))) 28]
def f76r3:List AOp:=[oQ 7 (.alloc 25) 0]
def f76r4:List AOp:=[oM 28 1 3,
 oQ 29 (.binOp .add 3 (oT 28) (.const (.int .i64 1)) 3) 3,
 oA 8 29 3]
def f76r5:List AOp:=[oM 30 0 9,
 oM 31 8 3,
 oQ 32 (.slice 9 (oT 30) (some (oT 31)) none none) 9,
 oQ 33 (.call { callee:=(.value (.func 61)),args:=#[(oT 32),(.const (.string { data:=#[94] }))],argTypes:=#[9,9] }) 4,
 oA 9 33 4]
def f76r6:List AOp:=[oM 34 9 4]
def f76r7:List AOp:=[oM 35 8 3,
 oQ 36 (.binOp .add 3 (oT 35) (.const (.int .i64 1)) 3) 3,
 oA 8 36 3]
def f76r8:List AOp:=[oQ 10 (.assign (.const (.int .i64 0))) 3]
def f76r9:List AOp:=[oM 37 10 3,
 oQ 38 (.binOp .gtr 3 (oT 37) (.const (.int .i64 0)) 3) 4,
 oM 39 38 4,
 oG 40 (.move (oT 8)) 3 39 true,
 oG 41 (.move (oT 0)) 9 39 true,
 oG 42 (cB .len #[(oT 41)] #[9]) 3 39 true,
 oG 43 (.binOp .lss 3 (oT 40) (oT 42) 3) 4 39 true,
 oQ 44 (.pick (oT 39) (oT 43) (.const (.bool false))) 4,
 oM 45 44 4,
 oG 46 (.move (oT 0)) 9 45 true,
 oG 47 (.move (oT 8)) 3 45 true,
 oG 48 (.index 9 (oT 46) (oT 47)) 5 45 true,
 oG 49 (.binOp .eql 5 (oT 48) (.const (.int .u8 93)) 5) 4 45 true,
 oQ 50 (.pick (oT 45) (oT 49) (.const (.bool false))) 4]
def f76r10:List AOp:=[oM 52 0 9,
 oM 53 8 3,
 oQ 54 (.slice 9 (oT 52) (some (oT 53)) none none) 9,
 oQ 55 (cF 112 #[(oT 54)] #[9]) 174,
 oM 51 55 174,
 oQ 56 (.extract (oT 51) 0) 25,
 oQ 57 (.extract (oT 51) 1) 3,
 oQ 11 (.alloc 25) 0,
 oN (.store 25 (oT 11) (oT 56)) 0,
 oA 12 57 3]
def f76r11:List AOp:=[oM 58 12 3,
 oQ 59 (.binOp .eql 3 (oT 58) (.const (.int .i64 0)) 3) 4]
def f76r12:List AOp:=[oQ 60 (.build 25 #[]) 25,
 oN (.store 25 (oT 4) (oT 60)) 0,
 oQ 5 (.assign (.const (.int .i64 0))) 3,
 oQ 6 (.assign (.const (.int .i64 3))) 28]
def f76r13:List AOp:=[oQ 61 (.load 25 (oT 7)) 25,
 oQ 62 (.load 25 (oT 11)) 25,
 oQ 63 (cF 38 #[(oT 61),(oT 62)] #[25,25]) 25,
 oM 64 8 3,
 oM 65 12 3,
 oQ 66 (.binOp .add 3 (oT 64) (oT 65) 3) 3,
 oN (.store 25 (oT 7) (oT 63)) 0,
 oA 8 66 3]
def f76r14:List AOp:=[oM 67 10 3,
 oQ 68 (.binOp .add 3 (oT 67) (.const (.int .i64 1)) 3) 3,
 oA 10 68 3]
def f76b0:AC:=(.block 1 (.seq (.seq (.ops false f76r9) (.cond (oT 50) (.exit 0) .skip)) (.seq (.ops false f76r10) (.seq (.seq (.ops false f76r11) (.cond (oT 59) (.seq (.ops false f76r12) .ret) .skip)) (.seq (.ops false f76r13) (.ops false f76r14))))))
def f76r15:List AOp:=[oM 69 9 4]
def f76r16:List AOp:=[oQ 70 (.load 25 (oT 7)) 25,
 oQ 71 (cF 113 #[(oT 70)] #[25]) 25,
 oN (.store 25 (oT 7) (oT 71)) 0]
def f76r17:List AOp:=[oQ 72 (.load 25 (oT 7)) 25,
 oM 73 8 3,
 oQ 74 (.binOp .add 3 (oT 73) (.const (.int .i64 1)) 3) 3,
 oN (.store 25 (oT 4) (oT 72)) 0,
 oA 5 74 3,
 oQ 6 (.assign (.const (.int .i64 0))) 28]
def f76:AFun:=⟨75,[(.cell 4 25),(.tmp 5),(.tmp 6)],(.seq (.ops false f76r0) (.scope (.seq (.seq (.ops false f76r1) (.cond (.tmp 26) (.seq (.ops false f76r2) .ret) .skip)) (.seq (.ops false f76r3) (.seq (.ops false f76r4) (.seq (.ops false f76r5) (.seq (.seq (.ops false f76r6) (.cond (.tmp 34) (.ops false f76r7) .skip)) (.seq (.ops false f76r8) (.seq .skip (.seq (.block 0 (.loop [0,4,7,8,9,10] f76b0)) (.seq (.seq (.ops false f76r15) (.cond (.tmp 69) (.ops false f76r16) .skip)) (.seq (.ops false f76r17) .ret))))))))))))⟩
def f77r0:List AOp:=[oQ 2 (.alloc 33) 0,
 oQ 3 (.assign (.const (.int .i64 0))) 3,
 oQ 4 (.assign (.const (.int .i64 0))) 28]
def f77r1:List AOp:=[oM 8 0 9,
 oQ 9 (.slice 9 (oT 8) (some (.const (.int .i64 1))) none none) 9,
 oA 5 9 9]
def f77r2:List AOp:=[oM 11 5 9,
 oQ 12 (.call { callee:=(.value (.func 61)),args:=#[(oT 11),(.const (.string { data:=#[98] }))],argTypes:=#[9,9] }) 4,
 oA 10 12 4]
def f77r3:List AOp:=[oQ 13 (.build 33 #[(0,(.const (.int .i64 4)))]) 33,
 oN (.store 33 (oT 2) (oT 13)) 0,
 oQ 3 (.assign (.const (.int .i64 2))) 3,
 oQ 4 (.assign (.const (.int .i64 0))) 28]
def f77r4:List AOp:=[oM 15 5 9,
 oQ 16 (.call { callee:=(.value (.func 61)),args:=#[(oT 15),(.const (.string { data:=#[66] }))],argTypes:=#[9,9] }) 4,
 oA 14 16 4]
def f77r5:List AOp:=[oQ 17 (.build 33 #[(0,(.const (.int .i64 5)))]) 33,
 oN (.store 33 (oT 2) (oT 17)) 0,
 oQ 3 (.assign (.const (.int .i64 2))) 3,
 oQ 4 (.assign (.const (.int .i64 0))) 28]
def f77r6:List AOp:=[oM 19 5 9,
 oQ 20 (.binOp .neq 9 (oT 19) (.const (.string { data:=#[] })) 9) 4,
 oM 21 20 4,
 oG 22 (.move (oT 5)) 9 21 true,
 oG 23 (.index 9 (oT 22) (.const (.int .i64 0))) 5 21 true,
 oG 24 (cF 114 #[(oT 23),(.const (.int .i64 10))] #[5,3]) 3 21 true,
 oG 25 (.binOp .gtr 3 (oT 24) (.const (.int .i64 0)) 3) 4 21 true,
 oQ 26 (.pick (oT 21) (oT 25) (.const (.bool false))) 4,
 oA 18 26 4]
def f77r7:List AOp:=[oM 27 5 9,
 oQ 28 (.index 9 (oT 27) (.const (.int .i64 0))) 5,
 oQ 29 (cF 114 #[(oT 28),(.const (.int .i64 10))] #[5,3]) 3,
 oQ 30 (.build 33 #[(0,(.const (.int .i64 17))),(5,(oT 29))]) 33,
 oN (.store 33 (oT 2) (oT 30)) 0,
 oQ 3 (.assign (.const (.int .i64 2))) 3,
 oQ 4 (.assign (.const (.int .i64 0))) 28]
def f77r8:List AOp:=[oM 32 5 9,
 oQ 33 (cF 115 #[(oT 32)] #[9]) 174,
 oM 31 33 174,
 oQ 34 (.extract (oT 31) 0) 25,
 oQ 35 (.extract (oT 31) 1) 3,
 oQ 6 (.alloc 25) 0,
 oN (.store 25 (oT 6) (oT 34)) 0,
 oA 7 35 3]
def f77r9:List AOp:=[oM 36 7 3,
 oQ 37 (.binOp .eql 3 (oT 36) (.const (.int .i64 0)) 3) 4]
def f77r10:List AOp:=[oQ 38 (.build 33 #[]) 33,
 oN (.store 33 (oT 2) (oT 38)) 0,
 oQ 3 (.assign (.const (.int .i64 0))) 3,
 oQ 4 (.assign (.const (.int .i64 3))) 28]
def f77r11:List AOp:=[oQ 39 (.load 25 (oT 6)) 25,
 oQ 40 (.build 33 #[(1,(oT 39))]) 33,
 oM 41 7 3,
 oQ 42 (.binOp .add 3 (oT 41) (.const (.int .i64 1)) 3) 3,
 oN (.store 33 (oT 2) (oT 40)) 0,
 oA 3 42 3,
 oQ 4 (.assign (.const (.int .i64 0))) 28]
def f77:AFun:=⟨43,[(.cell 2 33),(.tmp 3),(.tmp 4)],(.seq (.ops false f77r0) (.seq (.ops false f77r1) (.seq (.block 0 (.seq (.ops false f77r2) (.cond (.tmp 10) (.seq (.ops false f77r3) .ret) (.seq (.ops false f77r4) (.cond (.tmp 14) (.seq (.ops false f77r5) .ret) (.seq (.ops false f77r6) (.cond (.tmp 18) (.seq (.ops false f77r7) .ret) .skip))))))) (.seq (.ops false f77r8) (.seq (.seq (.ops false f77r9) (.cond (.tmp 37) (.seq (.ops false f77r10) .ret) .skip)) (.seq (.ops false f77r11) .ret))))))⟩
def f78r0:List AOp:=[oM 4 0 177,
 oM 5 1 5,
 oQ 6 (.binOp .quo 5 (oT 5) (.const (.int .u8 64)) 5) 5,
 oQ 7 (.nilCheck (oT 4)) 0,
 oQ 8 (.fieldAddr 25 (oT 7) 0) 0,
 oQ 9 (.indexAddr 23 (oT 8) (oT 6)) 0,
 oQ 10 (.load 22 (oT 9)) 22,
 oM 11 1 5,
 oQ 12 (.binOp .rem 5 (oT 11) (.const (.int .u8 64)) 5) 5,
 oQ 13 (.binOp .shl 22 (.const (.int .u64 1)) (oT 12) 5) 22,
 oQ 14 (.binOp .or 22 (oT 10) (oT 13) 22) 22,
 oQ 15 (.nilCheck (oT 4)) 0,
 oQ 16 (.fieldAddr 25 (oT 15) 0) 0,
 oQ 17 (.indexAddr 23 (oT 16) (oT 6)) 0,
 oN (.store 22 (oT 17) (oT 14)) 0]
def f78:AFun:=⟨18,[],(.ops false f78r0)⟩
def f86r0:List AOp:=[oQ 1 (.box 25 (oT 0)) 0,
 oQ 2 (.alloc 107) 0]
def f86r1:List AOp:=[oQ 6 (.load 25 (oT 1)) 25,
 oQ 7 (.build 54 #[(0,(oT 6))]) 54,
 oQ 8 (.build 107 #[(0,(oT 7))]) 107,
 oQ 3 (.alloc 107) 0,
 oN (.store 107 (oT 3) (oT 8)) 0]
def f86r2:List AOp:=[oQ 10 (.load 25 (oT 1)) 25,
 oQ 11 (cF 120 #[(oT 10)] #[25]) 145,
 oM 9 11 145,
 oQ 12 (.extract (oT 9) 0) 5,
 oQ 13 (.extract (oT 9) 1) 4,
 oA 4 12 5,
 oA 5 13 4]
def f86r3:List AOp:=[oQ 14 (.load 25 (oT 1)) 25,
 oQ 15 (cF 44 #[(oT 14)] #[25]) 3,
 oQ 16 (.binOp .eql 3 (oT 15) (.const (.int .i64 1)) 3) 4]
def f86r4:List AOp:=[oM 17 4 5,
 oQ 18 (.buildSlice 128 1 #[(0,(oT 17))]) 128,
 oQ 19 (.convert 128 9 (oT 18)) 9,
 oQ 20 (.fieldAddr 107 (oT 3) 0) 0,
 oQ 21 (.fieldAddr 54 (oT 20) 3) 0,
 oN (.store 9 (oT 21) (oT 19)) 0,
 oQ 22 (.fieldAddr 107 (oT 3) 1) 0,
 oN (.store 4 (oT 22) (.const (.bool true))) 0]
def f86r5:List AOp:=[oQ 23 (.load 107 (oT 3)) 107,
 oN (.store 107 (oT 2) (oT 23)) 0]
def f86:AFun:=⟨24,[(.cell 2 107)],(.seq (.ops false f86r0) (.seq (.ops false f86r1) (.seq (.seq (.ops false f86r2) (.seq (.ops false f86r3) (.cond (.tmp 16) (.ops false f86r4) .skip))) (.seq (.ops false f86r5) .ret))))⟩
def f87r0:List AOp:=[oQ 0 (.alloc 107) 0]
def f87r1:List AOp:=[oQ 1 (.build 54 #[(1,(.const (.bool true)))]) 54,
 oQ 2 (.build 107 #[(0,(oT 1)),(1,(.const (.bool true))),(2,(.const (.bool true)))]) 107,
 oN (.store 107 (oT 0) (oT 2)) 0]
def f87:AFun:=⟨3,[(.cell 0 107)],(.seq (.ops false f87r0) (.seq (.ops false f87r1) .ret))⟩
def f88r0:List AOp:=[oQ 0 (.alloc 25) 0]
def f88r1:List AOp:=[oQ 1 (.build 25 #[]) 25,
 oQ 2 (cF 113 #[(oT 1)] #[25]) 25,
 oN (.store 25 (oT 0) (oT 2)) 0]
def f88:AFun:=⟨3,[(.cell 0 25)],(.seq (.ops false f88r0) (.seq (.ops false f88r1) .ret))⟩
def f89r0:List AOp:=[oQ 2 (.box 107 (oT 0)) 0,
 oQ 3 (.box 107 (oT 1)) 0,
 oQ 4 (.alloc 107) 0]
def f89r1p0:List AOp:=[oQ 6 (.fieldAddr 107 (oT 2) 0) 0,
 oQ 7 (.fieldAddr 54 (oT 6) 0) 0,
 oQ 8 (.load 25 (oT 7)) 25,
 oQ 9 (.fieldAddr 107 (oT 2) 0) 0,
 oQ 10 (.fieldAddr 54 (oT 9) 1) 0,
 oQ 11 (.load 4 (oT 10)) 4,
 oM 12 11 4,
 oG 13 (.fieldAddr 107 (oT 3) 0) 0 12 true,
 oG 14 (.fieldAddr 54 (oT 13) 1) 0 12 true,
 oG 15 (.load 4 (oT 14)) 4 12 true,
 oQ 16 (.pick (oT 12) (oT 15) (.const (.bool false))) 4]
def f89r1p1:List AOp:=[oQ 17 (.fieldAddr 107 (oT 2) 0) 0,
 oQ 18 (.fieldAddr 54 (oT 17) 2) 0,
 oQ 19 (.load 4 (oT 18)) 4,
 oM 20 19 4,
 oG 21 (.fieldAddr 107 (oT 3) 0) 0 20 false,
 oG 22 (.fieldAddr 54 (oT 21) 2) 0 20 false,
 oG 23 (.load 4 (oT 22)) 4 20 false,
 oG 24 (.move (oT 23)) 4 20 false,
 oG 25 (.fieldAddr 107 (oT 2) 2) 0 24 true,
 oG 26 (.load 4 (oT 25)) 4 24 true,
 oG 27 (.pick (oT 24) (oT 26) (.const (.bool false))) 4 20 false,
 oQ 28 (.pick (oT 20) (.const (.bool true)) (oT 27)) 4]
def f89r1p2:List AOp:=[oQ 29 (.fieldAddr 107 (oT 2) 0) 0,
 oQ 30 (.fieldAddr 54 (oT 29) 3) 0,
 oQ 31 (.load 9 (oT 30)) 9,
 oQ 32 (.build 54 #[(0,(oT 8)),(1,(oT 16)),(2,(oT 28)),(3,(oT 31))]) 54,
 oQ 33 (.fieldAddr 107 (oT 2) 1) 0,
 oQ 34 (.load 4 (oT 33)) 4,
 oM 35 34 4,
 oG 36 (.fieldAddr 107 (oT 3) 1) 0 35 true,
 oG 37 (.load 4 (oT 36)) 4 35 true,
 oQ 38 (.pick (oT 35) (oT 37) (.const (.bool false))) 4]
def f89r1p3:List AOp:=[oQ 39 (.fieldAddr 107 (oT 2) 2) 0,
 oQ 40 (.load 4 (oT 39)) 4,
 oM 41 40 4,
 oG 42 (.fieldAddr 107 (oT 3) 2) 0 41 true,
 oG 43 (.load 4 (oT 42)) 4 41 true,
 oQ 44 (.pick (oT 41) (oT 43) (.const (.bool false))) 4]
def f89r1p4:List AOp:=[oQ 45 (.build 107 #[(0,(oT 32)),(1,(oT 38)),(2,(oT 44))]) 107,
 oQ 5 (.alloc 107) 0,
 oN (.store 107 (oT 5) (oT 45)) 0]
def f89r1:List AOp:=f89r1p0 ++ (f89r1p1 ++ (f89r1p2 ++ (f89r1p3 ++ f89r1p4)))
def f89r2:List AOp:=[oQ 46 (.fieldAddr 107 (oT 2) 0) 0,
 oQ 47 (.fieldAddr 54 (oT 46) 1) 0,
 oQ 48 (.load 4 (oT 47)) 4]
def f89r3:List AOp:=[oQ 49 (.fieldAddr 107 (oT 5) 0) 0,
 oQ 50 (.fieldAddr 54 (oT 49) 0) 0,
 oQ 51 (.load 25 (oT 50)) 25,
 oQ 52 (.fieldAddr 107 (oT 3) 0) 0,
 oQ 53 (.fieldAddr 54 (oT 52) 0) 0,
 oQ 54 (.load 25 (oT 53)) 25,
 oQ 55 (cF 38 #[(oT 51),(oT 54)] #[25,25]) 25,
 oQ 56 (.fieldAddr 107 (oT 5) 0) 0,
 oQ 57 (.fieldAddr 54 (oT 56) 0) 0,
 oN (.store 25 (oT 57) (oT 55)) 0]
def f89r4:List AOp:=[oQ 58 (.fieldAddr 107 (oT 2) 1) 0,
 oQ 59 (.load 4 (oT 58)) 4]
def f89r5:List AOp:=[oQ 60 (.fieldAddr 107 (oT 5) 0) 0,
 oQ 61 (.fieldAddr 54 (oT 60) 3) 0,
 oQ 62 (.load 9 (oT 61)) 9,
 oQ 63 (.fieldAddr 107 (oT 3) 0) 0,
 oQ 64 (.fieldAddr 54 (oT 63) 3) 0,
 oQ 65 (.load 9 (oT 64)) 9,
 oQ 66 (.binOp .add 9 (oT 62) (oT 65) 9) 9,
 oQ 67 (.fieldAddr 107 (oT 5) 0) 0,
 oQ 68 (.fieldAddr 54 (oT 67) 3) 0,
 oN (.store 9 (oT 68) (oT 66)) 0]
def f89r6:List AOp:=[oQ 69 (.load 107 (oT 5)) 107,
 oQ 70 (cF 121 #[(oT 69)] #[107]) 107,
 oN (.store 107 (oT 4) (oT 70)) 0]
def f89:AFun:=⟨71,[(.cell 4 107)],(.seq (.ops false f89r0) (.seq (.ops false f89r1) (.seq (.seq (.ops false f89r2) (.cond (.tmp 48) (.ops false f89r3) .skip)) (.seq (.seq (.ops false f89r4) (.cond (.tmp 59) (.ops false f89r5) .skip)) (.seq (.ops false f89r6) .ret)))))⟩
def f90r0:List AOp:=[oQ 2 (.box 107 (oT 0)) 0,
 oQ 3 (.box 107 (oT 1)) 0,
 oQ 4 (.alloc 107) 0]
def f90r1p0:List AOp:=[oQ 5 (.fieldAddr 107 (oT 2) 0) 0,
 oQ 6 (.fieldAddr 54 (oT 5) 0) 0,
 oQ 7 (.load 25 (oT 6)) 25,
 oQ 8 (.fieldAddr 107 (oT 3) 0) 0,
 oQ 9 (.fieldAddr 54 (oT 8) 0) 0,
 oQ 10 (.load 25 (oT 9)) 25,
 oQ 11 (cF 38 #[(oT 7),(oT 10)] #[25,25]) 25,
 oQ 12 (.fieldAddr 107 (oT 2) 0) 0,
 oQ 13 (.fieldAddr 54 (oT 12) 1) 0,
 oQ 14 (.load 4 (oT 13)) 4,
 oM 15 14 4,
 oG 16 (.fieldAddr 107 (oT 3) 0) 0 15 false,
 oG 17 (.fieldAddr 54 (oT 16) 1) 0 15 false,
 oG 18 (.load 4 (oT 17)) 4 15 false,
 oQ 19 (.pick (oT 15) (.const (.bool true)) (oT 18)) 4]
def f90r1p1:List AOp:=[oQ 20 (.fieldAddr 107 (oT 2) 0) 0,
 oQ 21 (.fieldAddr 54 (oT 20) 2) 0,
 oQ 22 (.load 4 (oT 21)) 4,
 oM 23 22 4,
 oG 24 (.fieldAddr 107 (oT 3) 0) 0 23 true,
 oG 25 (.fieldAddr 54 (oT 24) 2) 0 23 true,
 oG 26 (.load 4 (oT 25)) 4 23 true,
 oQ 27 (.pick (oT 23) (oT 26) (.const (.bool false))) 4]
def f90r1p2:List AOp:=[oQ 28 (.build 54 #[(0,(oT 11)),(1,(oT 19)),(2,(oT 27)),(3,(.const (.string { data:=#[] })))]) 54,
 oQ 29 (.fieldAddr 107 (oT 2) 2) 0,
 oQ 30 (.load 4 (oT 29)) 4,
 oM 31 30 4,
 oG 32 (.fieldAddr 107 (oT 3) 2) 0 31 true,
 oG 33 (.load 4 (oT 32)) 4 31 true,
 oQ 34 (.pick (oT 31) (oT 33) (.const (.bool false))) 4]
def f90r1p3:List AOp:=[oQ 35 (.build 107 #[(0,(oT 28)),(1,(.const (.bool false))),(2,(oT 34))]) 107,
 oN (.store 107 (oT 4) (oT 35)) 0]
def f90r1:List AOp:=f90r1p0 ++ (f90r1p1 ++ (f90r1p2 ++ f90r1p3))
def f90:AFun:=⟨36,[(.cell 4 107)],(.seq (.ops false f90r0) (.seq (.ops true f90r1) .ret))⟩
def f91r0:List AOp:=[oQ 2 (.box 72 (oT 0)) 0,
 oQ 3 (.box 107 (oT 1)) 0,
 oQ 4 (.alloc 107) 0]
def f91r1:List AOp:=[oQ 6 (cF 87 #[] #[]) 107,
 oQ 5 (.alloc 107) 0,
 oN (.store 107 (oT 5) (oT 6)) 0]
def f91r2:List AOp:=[oQ 7 (.fieldAddr 72 (oT 2) 5) 0,
 oQ 8 (.load 3 (oT 7)) 3,
 oQ 9 (.binOp .eql 3 (oT 8) (.const (.int .i64 0)) 3) 4]
def f91r3p0:List AOp:=[oQ 10 (.fieldAddr 107 (oT 3) 0) 0,
 oQ 11 (.fieldAddr 54 (oT 10) 0) 0,
 oQ 12 (.load 25 (oT 11)) 25,
 oQ 13 (.fieldAddr 107 (oT 3) 0) 0,
 oQ 14 (.fieldAddr 54 (oT 13) 1) 0,
 oQ 15 (.load 4 (oT 14)) 4,
 oM 16 15 4,
 oG 17 (.fieldAddr 72 (oT 2) 4) 0 16 false,
 oG 18 (.load 3 (oT 17)) 3 16 false,
 oG 19 (.binOp .eql 3 (oT 18) (.const (.int .i64 0)) 3) 4 16 false,
 oQ 20 (.pick (oT 16) (.const (.bool true)) (oT 19)) 4]
def f91r3p1:List AOp:=[oQ 21 (.fieldAddr 107 (oT 3) 0) 0,
 oQ 22 (.fieldAddr 54 (oT 21) 2) 0,
 oQ 23 (.load 4 (oT 22)) 4,
 oM 24 23 4,
 oG 25 (.fieldAddr 72 (oT 2) 4) 0 24 true,
 oG 26 (.load 3 (oT 25)) 3 24 true,
 oG 27 (.binOp .gtr 3 (oT 26) (.const (.int .i64 0)) 3) 4 24 true,
 oQ 28 (.pick (oT 24) (oT 27) (.const (.bool false))) 4]
def f91r3p2:List AOp:=[oQ 29 (.build 54 #[(0,(oT 12)),(1,(oT 20)),(2,(oT 28)),(3,(.const (.string { data:=#[] })))]) 54,
 oQ 30 (.fieldAddr 107 (oT 3) 1) 0,
 oQ 31 (.load 4 (oT 30)) 4,
 oM 32 31 4,
 oG 33 (.fieldAddr 72 (oT 2) 4) 0 32 true,
 oG 34 (.load 3 (oT 33)) 3 32 true,
 oG 35 (.binOp .eql 3 (oT 34) (.const (.int .i64 1)) 3) 4 32 true,
 oQ 36 (.pick (oT 32) (oT 35) (.const (.bool false))) 4]
def f91r3p3:List AOp:=[oM 37 36 4,
 oG 38 (.fieldAddr 72 (oT 2) 5) 0 37 true,
 oG 39 (.load 3 (oT 38)) 3 37 true,
 oG 40 (.binOp .eql 3 (oT 39) (.const (.int .i64 1)) 3) 4 37 true,
 oQ 41 (.pick (oT 37) (oT 40) (.const (.bool false))) 4]
def f91r3p4:List AOp:=[oQ 42 (.fieldAddr 107 (oT 3) 2) 0,
 oQ 43 (.load 4 (oT 42)) 4,
 oQ 44 (.build 107 #[(0,(oT 29)),(1,(oT 41)),(2,(oT 43))]) 107,
 oN (.store 107 (oT 5) (oT 44)) 0]
def f91r3:List AOp:=f91r3p0 ++ (f91r3p1 ++ (f91r3p2 ++ (f91r3p3 ++ f91r3p4)))
def f91r4:List AOp:=[oQ 45 (.fieldAddr 72 (oT 2) 4) 0,
 oQ 46 (.load 3 (oT 45)) 3,
 oQ 47 (.binOp .gtr 3 (oT 46) (.const (.int .i64 0)) 3) 4]
def f91r5:List AOp:=[oQ 48 (.fieldAddr 107 (oT 3) 0) 0,
 oQ 49 (.fieldAddr 54 (oT 48) 3) 0,
 oQ 50 (.load 9 (oT 49)) 9,
 oQ 51 (.fieldAddr 107 (oT 5) 0) 0,
 oQ 52 (.fieldAddr 54 (oT 51) 3) 0,
 oN (.store 9 (oT 52) (oT 50)) 0]
def f91r6:List AOp:=[oQ 53 (.load 107 (oT 5)) 107,
 oN (.store 107 (oT 4) (oT 53)) 0]
def f91:AFun:=⟨54,[(.cell 4 107)],(.seq (.ops false f91r0) (.scopeJ 0 (.seq (.ops false f91r1) (.seq (.seq (.ops false f91r2) (.cond (.tmp 9) (.goto 0) .skip)) (.seq (.ops false f91r3) (.seq (.seq (.ops false f91r4) (.cond (.tmp 47) (.ops false f91r5) .skip)) (.seq .skip (.seq (.ops false f91r6) .ret)))))) (.seq .skip (.seq (.ops false f91r6) .ret))))⟩
def f96r0:List AOp:=[oQ 4 (.assign (.const (.bool false))) 4]
def f96r1:List AOp:=[oM 5 0 9,
 oQ 6 (cB .len #[(oT 5)] #[9]) 3,
 oM 7 1 9,
 oQ 8 (cB .len #[(oT 7)] #[9]) 3,
 oQ 9 (.binOp .geq 3 (oT 6) (oT 8) 3) 4,
 oM 10 9 4,
 oG 11 (.move (oT 0)) 9 10 true,
 oG 12 (.move (oT 1)) 9 10 true,
 oG 13 (cB .len #[(oT 12)] #[9]) 3 10 true,
 oG 14 (.slice 9 (oT 11) none (some (oT 13)) none) 9 10 true,
 oG 15 (.move (oT 1)) 9 10 true,
 oG 16 (.binOp .eql 9 (oT 14) (oT 15) 9) 4 10 true,
 oQ 17 (.pick (oT 10) (oT 16) (.const (.bool false))) 4,
 oA 4 17 4]
def f96:AFun:=⟨18,[(.tmp 4)],(.seq (.ops false f96r0) (.seq (.ops false f96r1) .ret))⟩
def f97r0:List AOp:=[oQ 1 (.box 72 (oT 0)) 0,
 oQ 2 (.assign (.const (.bool false))) 4]
def f97r1p0:List AOp:=[oQ 3 (.fieldAddr 72 (oT 1) 0) 0,
 oQ 4 (.load 3 (oT 3)) 3,
 oQ 5 (.binOp .lss 3 (oT 4) (.const (.int .i64 0)) 3) 4,
 oM 6 5 4,
 oG 7 (.fieldAddr 72 (oT 1) 0) 0 6 false,
 oG 8 (.load 3 (oT 7)) 3 6 false,
 oG 9 (.binOp .geq 3 (oT 8) (.const (.int .i64 18)) 3) 4 6 false,
 oQ 10 (.pick (oT 6) (.const (.bool true)) (oT 9)) 4]
def f97r1p1:List AOp:=[oM 11 10 4,
 oG 12 (.load 72 (oT 1)) 72 11 false,
 oG 13 (cF 124 #[(oT 12)] #[72]) 72 11 false,
 oG 14 (.load 72 (oT 1)) 72 11 false,
 oG 15 (cF 125 #[(oT 14)] #[72]) 72 11 false,
 oG 16 (cF 124 #[(oT 15)] #[72]) 72 11 false,
 oG 17 (.binOp .neq 72 (oT 13) (oT 16) 72) 4 11 false,
 oQ 18 (.pick (oT 11) (.const (.bool true)) (oT 17)) 4]
def f97r1:List AOp:=f97r1p0 ++ f97r1p1
def f97r2:List AOp:=[oQ 2 (.assign (.const (.bool false))) 4]
def f97r3:List AOp:=[oQ 19 (.fieldAddr 72 (oT 1) 0) 0,
 oQ 20 (.load 3 (oT 19)) 3,
 oQ 21 (.binOp .neq 3 (oT 20) (.const (.int .i64 10)) 3) 4]
def f97r4:List AOp:=[oQ 2 (.assign (.const (.bool true))) 4]
def f97r5p0:List AOp:=[oQ 22 (.fieldAddr 72 (oT 1) 4) 0,
 oQ 23 (.load 3 (oT 22)) 3,
 oQ 24 (.binOp .geq 3 (oT 23) (.const (.int .i64 0)) 3) 4,
 oM 25 24 4,
 oG 26 (.fieldAddr 72 (oT 1) 4) 0 25 true,
 oG 27 (.load 3 (oT 26)) 3 25 true,
 oG 28 (.binOp .leq 3 (oT 27) (.const (.int .i64 100)) 3) 4 25 true,
 oQ 29 (.pick (oT 25) (oT 28) (.const (.bool false))) 4]
def f97r5p1:List AOp:=[oM 30 29 4,
 oG 31 (.fieldAddr 72 (oT 1) 5) 0 30 true,
 oG 32 (.load 3 (oT 31)) 3 30 true,
 oG 33 (.binOp .eql 3 (oT 32) (.const (.int .i64 (-1))) 3) 4 30 true,
 oG 34 (.move (oT 33)) 4 30 true,
 oG 35 (.fieldAddr 72 (oT 1) 5) 0 34 false,
 oG 36 (.load 3 (oT 35)) 3 34 false,
 oG 37 (.fieldAddr 72 (oT 1) 4) 0 34 false,
 oG 38 (.load 3 (oT 37)) 3 34 false,
 oG 39 (.binOp .geq 3 (oT 36) (oT 38) 3) 4 34 false,
 oG 40 (.move (oT 39)) 4 34 false,
 oG 41 (.fieldAddr 72 (oT 1) 5) 0 40 true,
 oG 42 (.load 3 (oT 41)) 3 40 true,
 oG 43 (.binOp .leq 3 (oT 42) (.const (.int .i64 100)) 3) 4 40 true,
 oG 44 (.pick (oT 40) (oT 43) (.const (.bool false))) 4 34 false,
 oG 45 (.pick (oT 34) (.const (.bool true)) (oT 44)) 4 30 true,
 oQ 46 (.pick (oT 30) (oT 45) (.const (.bool false))) 4]
def f97r5p2:List AOp:=[oM 47 46 4,
 oG 48 (.fieldAddr 72 (oT 1) 6) 0 47 true,
 oG 49 (.load 3 (oT 48)) 3 47 true,
 oG 50 (.binOp .geq 3 (oT 49) (.const (.int .i64 0)) 3) 4 47 true,
 oQ 51 (.pick (oT 47) (oT 50) (.const (.bool false))) 4]
def f97r5p3:List AOp:=[oM 52 51 4,
 oG 53 (.fieldAddr 72 (oT 1) 6) 0 52 true,
 oG 54 (.load 3 (oT 53)) 3 52 true,
 oG 55 (.binOp .leq 3 (oT 54) (.const (.int .i64 2)) 3) 4 52 true,
 oQ 56 (.pick (oT 52) (oT 55) (.const (.bool false))) 4]
def f97r5p4:List AOp:=[oA 2 56 4]
def f97r5:List AOp:=f97r5p0 ++ (f97r5p1 ++ (f97r5p2 ++ (f97r5p3 ++ f97r5p4)))
def f97:AFun:=⟨57,[(.tmp 2)],(.seq (.ops false f97r0) (.seq (.seq (.ops true f97r1) (.cond (.tmp 18) (.seq (.ops false f97r2) .ret) .skip)) (.seq (.seq (.ops false f97r3) (.cond (.tmp 21) (.seq (.ops false f97r4) .ret) .skip)) (.seq (.ops false f97r5) .ret))))⟩
def f98r0:List AOp:=[oQ 2 (.assign (.const (.int .i64 0))) 3]
def f98r1:List AOp:=[oM 5 0 100,
 oQ 6 (cB .len #[(oT 5)] #[100]) 3,
 oQ 7 (.binOp .lss 3 (oT 6) (.const (.int .i64 1)) 3) 4]
def f98r2:List AOp:=[oQ 8 (.makeInterface 9 (.const (.string { data:=#[115,108,105,99,101,115,46,77,97,120,58,32,101,109,112,116,121,32,108,105,115,116] }))) 20,
 oN (.panic (oT 8)) 0]
def f98r3:List AOp:=[oM 9 0 100,
 oQ 10 (.indexAddr 100 (oT 9) (.const (.int .i64 0))) 0,
 oQ 11 (.load 3 (oT 10)) 3,
 oA 3 11 3]
def f98r4:List AOp:=[oQ 4 (.assign (.const (.int .i64 1))) 3]
def f98r5:List AOp:=[oM 12 4 3,
 oM 13 0 100,
 oQ 14 (cB .len #[(oT 13)] #[100]) 3,
 oQ 15 (.binOp .lss 3 (oT 12) (oT 14) 3) 4]
def f98r7:List AOp:=[oM 18 3 3,
 oM 19 0 100,
 oM 20 4 3,
 oQ 21 (.indexAddr 100 (oT 19) (oT 20)) 0,
 oQ 22 (.load 3 (oT 21)) 3,
 oQ 23 (cB .max #[(oT 18),(oT 22)] #[3,3]) 3,
 oA 3 23 3]
def f98r6:List AOp:=[oM 16 4 3,
 oQ 17 (.binOp .add 3 (oT 16) (.const (.int .i64 1)) 3) 3,
 oA 4 17 3]
def f98b0:AC:=(.seq (.seq (.ops false f98r5) (.cond (oT 15) .skip (.exit 0))) (.seq (.block 1 (.ops false f98r7)) (.ops false f98r6)))
def f98r8:List AOp:=[oM 24 3 3,
 oA 2 24 3]
def f98:AFun:=⟨25,[(.tmp 2)],(.seq (.ops false f98r0) (.seq (.seq (.ops false f98r1) (.cond (.tmp 7) (.ops false f98r2) .skip)) (.seq (.ops false f98r3) (.seq (.seq (.ops false f98r4) (.block 0 (.loop [0,3,4] f98b0))) (.seq (.ops false f98r8) .ret)))))⟩
def f99r0:List AOp:=[oQ 4 (.assign (.const (.int .i64 0))) 3]
def f99r1:List AOp:=[oM 5 0 3,
 oQ 6 (.binOp .eql 3 (oT 5) (.const (.int .i64 (-1))) 3) 4,
 oM 7 6 4,
 oG 8 (.move (oT 1)) 3 7 false,
 oG 9 (.binOp .eql 3 (oT 8) (.const (.int .i64 (-1))) 3) 4 7 false,
 oQ 10 (.pick (oT 7) (.const (.bool true)) (oT 9)) 4]
def f99r2:List AOp:=[oQ 4 (.assign (.const (.int .i64 (-1)))) 3]
def f99r3:List AOp:=[oM 11 0 3,
 oM 12 1 3,
 oQ 13 (.binOp .add 3 (oT 11) (oT 12) 3) 3,
 oQ 14 (cB .min #[(oT 13),(.const (.int .i64 1048576))] #[3,3]) 3,
 oA 4 14 3]
def f99:AFun:=⟨15,[(.tmp 4)],(.seq (.ops false f99r0) (.seq (.seq (.ops false f99r1) (.cond (.tmp 10) (.seq (.ops false f99r2) .ret) .skip)) (.seq (.ops false f99r3) .ret)))⟩
def f100r0:List AOp:=[oQ 4 (.assign (.const (.int .i64 0))) 3]
def f100r1p0:List AOp:=[oM 6 0 3,
 oQ 7 (.binOp .eql 3 (oT 6) (.const (.int .i64 0)) 3) 4,
 oM 8 7 4,
 oG 9 (.move (oT 1)) 3 8 false,
 oG 10 (.binOp .eql 3 (oT 9) (.const (.int .i64 0)) 3) 4 8 false,
 oQ 11 (.pick (oT 8) (.const (.bool true)) (oT 10)) 4]
def f100r1p1:List AOp:=[oA 5 11 4]
def f100r1:List AOp:=f100r1p0 ++ f100r1p1
def f100r2:List AOp:=[oQ 4 (.assign (.const (.int .i64 0))) 3]
def f100r3p0:List AOp:=[oM 13 0 3,
 oQ 14 (.binOp .eql 3 (oT 13) (.const (.int .i64 (-1))) 3) 4,
 oM 15 14 4,
 oG 16 (.move (oT 1)) 3 15 false,
 oG 17 (.binOp .eql 3 (oT 16) (.const (.int .i64 (-1))) 3) 4 15 false,
 oQ 18 (.pick (oT 15) (.const (.bool true)) (oT 17)) 4]
def f100r3p1:List AOp:=[oA 12 18 4]
def f100r3:List AOp:=f100r3p0 ++ f100r3p1
def f100r4:List AOp:=[oQ 4 (.assign (.const (.int .i64 (-1)))) 3]
def f100r5:List AOp:=[oM 19 0 3,
 oM 20 1 3,
 oQ 21 (.binOp .mul 3 (oT 19) (oT 20) 3) 3,
 oQ 22 (cB .min #[(oT 21),(.const (.int .i64 1048576))] #[3,3]) 3,
 oA 4 22 3]
def f100:AFun:=⟨23,[(.tmp 4)],(.seq (.ops false f100r0) (.seq (.block 0 (.seq (.ops false f100r1) (.cond (.tmp 5) (.seq (.ops false f100r2) .ret) (.seq (.ops false f100r3) (.cond (.tmp 12) (.seq (.ops false f100r4) .ret) .skip))))) (.seq (.ops false f100r5) .ret)))⟩
def f102r0:List AOp:=[oQ 3 (.assign (.const (.int .i64 0))) 3]
def f102r1:List AOp:=[oM 4 0 3,
 oQ 5 (.load 100 (oT 1)) 100,
 oM 6 0 3,
 oQ 7 (.indexAddr 100 (oT 5) (oT 6)) 0,
 oQ 8 (.load 3 (oT 7)) 3,
 oQ 9 (.binOp .sub 3 (oT 4) (oT 8) 3) 3,
 oQ 10 (.binOp .add 3 (oT 9) (.const (.int .i64 1)) 3) 3,
 oA 3 10 3]
def f102:AFun:=⟨11,[(.tmp 3)],(.seq (.ops false f102r0) (.seq (.ops false f102r1) .ret))⟩
def f103r0:List AOp:=[oM 5 0 100,
 oQ 6 (cB .len #[(oT 5)] #[100]) 3,
 oA 4 6 3]
def f103r1:List AOp:=[oM 7 0 100,
 oM 8 4 3,
 oM 9 4 3,
 oQ 10 (.convert 3 167 (oT 9)) 167,
 oQ 11 (cF 137 #[(oT 10)] #[167]) 3,
 oM 12 1 151,
 oQ 13 (cF 136 #[(oT 7),(.const (.int .i64 0)),(oT 8),(oT 11),(oT 12)] #[100,3,3,3,151]) 0]
def f103:AFun:=⟨14,[],(.seq (.ops false f103r0) (.ops false f103r1))⟩
def f104r0:List AOp:=[oQ 6 (.assign (.const (.int .i64 0))) 3]
def f104r1:List AOp:=[oQ 8 (.load 99 (oT 2)) 99,
 oM 9 0 3,
 oQ 10 (.call { callee:=(.value (oT 8)),args:=#[(oT 9)],argTypes:=#[3] }) 3,
 oQ 11 (.load 99 (oT 2)) 99,
 oM 12 1 3,
 oQ 13 (.call { callee:=(.value (oT 11)),args:=#[(oT 12)],argTypes:=#[3] }) 3,
 oQ 14 (.binOp .sub 3 (oT 10) (oT 13) 3) 3,
 oA 7 14 3]
def f104r2:List AOp:=[oM 15 7 3,
 oQ 16 (.binOp .neq 3 (oT 15) (.const (.int .i64 0)) 3) 4]
def f104r3:List AOp:=[oM 17 7 3,
 oA 6 17 3]
def f104r4:List AOp:=[oQ 18 (.load 100 (oT 3)) 100,
 oM 19 1 3,
 oQ 20 (.indexAddr 100 (oT 18) (oT 19)) 0,
 oQ 21 (.load 3 (oT 20)) 3,
 oQ 22 (.load 100 (oT 3)) 100,
 oM 23 0 3,
 oQ 24 (.indexAddr 100 (oT 22) (oT 23)) 0,
 oQ 25 (.load 3 (oT 24)) 3,
 oQ 26 (.binOp .sub 3 (oT 21) (oT 25) 3) 3,
 oA 6 26 3]
def f104:AFun:=⟨27,[(.tmp 6)],(.seq (.ops false f104r0) (.seq (.seq (.ops true f104r1) (.seq (.ops false f104r2) (.cond (.tmp 16) (.seq (.ops false f104r3) .ret) .skip))) (.seq (.ops true f104r4) .ret)))⟩
def f105r0:List AOp:=[oQ 2 (.box 72 (oT 0)) 0,
 oQ 3 (.assign (.const (.bool false))) 4]
def f105r1p0:List AOp:=[oQ 4 (.fieldAddr 72 (oT 2) 0) 0,
 oQ 5 (.load 3 (oT 4)) 3,
 oQ 6 (.binOp .eql 3 (oT 5) (.const (.int .i64 12)) 3) 4,
 oM 7 6 4,
 oG 8 (.fieldAddr 72 (oT 2) 7) 0 7 true,
 oG 9 (.load 3 (oT 8)) 3 7 true,
 oG 10 (.binOp .lss 3 (oT 9) (.const (.int .i64 1)) 3) 4 7 true,
 oG 11 (.move (oT 10)) 4 7 true,
 oG 12 (.fieldAddr 72 (oT 2) 7) 0 11 false,
 oG 13 (.load 3 (oT 12)) 3 11 false,
 oG 14 (.load 100 (oT 1)) 100 11 false,
 oG 15 (cB .len #[(oT 14)] #[100]) 3 11 false,
 oG 16 (.binOp .gtr 3 (oT 13) (oT 15) 3) 4 11 false,
 oG 17 (.pick (oT 11) (.const (.bool true)) (oT 16)) 4 7 true,
 oQ 18 (.pick (oT 7) (oT 17) (.const (.bool false))) 4]
def f105r1p1:List AOp:=[oA 3 18 4]
def f105r1:List AOp:=f105r1p0 ++ f105r1p1
def f105:AFun:=⟨19,[(.tmp 3)],(.seq (.ops false f105r0) (.seq (.ops false f105r1) .ret))⟩
def f106r0:List AOp:=[oQ 4 (.assign (.const (.bool false))) 4]
def f106r1:List AOp:=[oM 5 0 35,
 oM 6 1 158,
 oQ 7 (cF 138 #[(oT 5),(oT 6)] #[35,158]) 3,
 oQ 8 (.binOp .geq 3 (oT 7) (.const (.int .i64 0)) 3) 4,
 oA 4 8 4]
def f106:AFun:=⟨9,[(.tmp 4)],(.seq (.ops false f106r0) (.seq (.ops false f106r1) .ret))⟩
def f108r0:List AOp:=[oQ 2 (.alloc 37) 0]
def f108r1:List AOp:=[oM 3 0 163,
 oM 4 0 163,
 oQ 5 (.makeFunc (.func 140) #[(oT 4)] #[]) 31,
 oM 6 0 163,
 oQ 7 (.makeFunc (.func 141) #[(oT 6)] #[]) 166,
 oQ 8 (cF 139 #[(oT 3),(.const (.int .i64 9)),(oT 5),(oT 7)] #[163,3,31,166]) 37,
 oN (.store 37 (oT 2) (oT 8)) 0]
def f108:AFun:=⟨9,[(.cell 2 37)],(.seq (.ops false f108r0) (.seq (.ops false f108r1) .ret))⟩
def f109r0:List AOp:=[oQ 4 (.assign (.const (.int .i64 0))) 3]
def f109r1:List AOp:=[oM 5 0 9,
 oM 6 1 5,
 oQ 7 (cF 142 #[(oT 5),(oT 6)] #[9,5]) 3,
 oA 4 7 3]
def f109:AFun:=⟨8,[(.tmp 4)],(.seq (.ops false f109r0) (.seq (.ops false f109r1) .ret))⟩
def f110r0:List AOp:=[oQ 4 (.assign (.const (.bool false))) 4]
def f110r1:List AOp:=[oM 7 0 9,
 oQ 8 (.range 9 (oT 7)) 0]
def f110r2:List AOp:=[oQ 9 (.next (oT 8) true) 0,
 oQ 10 (.extract (oT 9) 0) 4]
def f110r3:List AOp:=[oQ 11 (.extract (oT 9) 2) 21,
 oA 6 11 21]
def f110r4:List AOp:=[oM 12 6 21,
 oM 13 1 21,
 oQ 14 (.binOp .eql 21 (oT 12) (oT 13) 21) 4]
def f110r5:List AOp:=[oQ 4 (.assign (.const (.bool true))) 4]
def f110b0:AC:=(.seq (.ops false f110r2) (.seq (.cond (oT 10) .skip (.exit 0)) (.block 1 (.seq (.ops false f110r3) (.seq (.ops false f110r4) (.cond (oT 14) (.seq (.ops false f110r5) .ret) .skip))))))
def f110r6:List AOp:=[oQ 4 (.assign (.const (.bool false))) 4]
def f110:AFun:=⟨15,[(.tmp 4)],(.seq (.ops false f110r0) (.seq (.seq (.ops false f110r1) (.block 0 (.loop [1,8] f110b0))) (.seq (.ops false f110r6) .ret)))⟩
def f111r0:List AOp:=[oQ 2 (.assign (.const (.int .i64 0))) 3,
 oQ 3 (.assign (.const (.int .i64 0))) 3,
 oQ 4 (.assign (.const (.int .i64 0))) 3]
def f111r1:List AOp:=[oM 11 0 9,
 oQ 12 (.slice 9 (oT 11) (some (.const (.int .i64 1))) none none) 9,
 oQ 13 (cF 143 #[(oT 12)] #[9]) 136,
 oM 10 13 136,
 oQ 14 (.extract (oT 10) 0) 3,
 oQ 15 (.extract (oT 10) 1) 3,
 oA 5 14 3,
 oA 6 15 3]
def f111r2:List AOp:=[oM 16 6 3,
 oQ 17 (.binOp .add 3 (.const (.int .i64 1)) (oT 16) 3) 3,
 oA 7 17 3]
def f111r3:List AOp:=[oM 18 5 3,
 oA 8 18 3]
def f111r4:List AOp:=[oM 19 6 3,
 oQ 20 (.binOp .gtr 3 (oT 19) (.const (.int .i64 0)) 3) 4,
 oM 21 20 4,
 oG 22 (.move (oT 7)) 3 21 true,
 oG 23 (.move (oT 0)) 9 21 true,
 oG 24 (cB .len #[(oT 23)] #[9]) 3 21 true,
 oG 25 (.binOp .lss 3 (oT 22) (oT 24) 3) 4 21 true,
 oQ 26 (.pick (oT 21) (oT 25) (.const (.bool false))) 4,
 oM 27 26 4,
 oG 28 (.move (oT 0)) 9 27 true,
 oG 29 (.move (oT 7)) 3 27 true,
 oG 30 (.index 9 (oT 28) (oT 29)) 5 27 true,
 oG 31 (.binOp .eql 5 (oT 30) (.const (.int .u8 44)) 5) 4 27 true,
 oQ 32 (.pick (oT 27) (oT 31) (.const (.bool false))) 4]
def f111r5:List AOp:=[oM 33 7 3,
 oQ 34 (.binOp .add 3 (oT 33) (.const (.int .i64 1)) 3) 3,
 oA 7 34 3]
def f111r6:List AOp:=[oQ 9 (.assign (.const (.int .i64 0))) 3]
def f111r7:List AOp:=[oM 36 0 9,
 oM 37 7 3,
 oQ 38 (.slice 9 (oT 36) (some (oT 37)) none none) 9,
 oQ 39 (cF 143 #[(oT 38)] #[9]) 136,
 oM 35 39 136,
 oQ 40 (.extract (oT 35) 0) 3,
 oQ 41 (.extract (oT 35) 1) 3,
 oA 8 40 3,
 oA 9 41 3]
def f111r8:List AOp:=[oM 42 7 3,
 oM 43 9 3,
 oQ 44 (.binOp .add 3 (oT 42) (oT 43) 3) 3,
 oA 7 44 3]
def f111r9:List AOp:=[oM 45 9 3,
 oQ 46 (.binOp .eql 3 (oT 45) (.const (.int .i64 0)) 3) 4]
def f111r10:List AOp:=[oQ 8 (.assign (.const (.int .i64 (-1)))) 3]
def f111r11:List AOp:=[oM 47 6 3,
 oQ 48 (.binOp .eql 3 (oT 47) (.const (.int .i64 0)) 3) 4,
 oM 49 48 4,
 oG 50 (.move (oT 7)) 3 49 false,
 oG 51 (.move (oT 0)) 9 49 false,
 oG 52 (cB .len #[(oT 51)] #[9]) 3 49 false,
 oG 53 (.binOp .geq 3 (oT 50) (oT 52) 3) 4 49 false,
 oQ 54 (.pick (oT 49) (.const (.bool true)) (oT 53)) 4,
 oM 55 54 4,
 oG 56 (.move (oT 0)) 9 55 false,
 oG 57 (.move (oT 7)) 3 55 false,
 oG 58 (.index 9 (oT 56) (oT 57)) 5 55 false,
 oG 59 (.binOp .neq 5 (oT 58) (.const (.int .u8 125)) 5) 4 55 false,
 oQ 60 (.pick (oT 55) (.const (.bool true)) (oT 59)) 4]
def f111r12:List AOp:=[oQ 2 (.assign (.const (.int .i64 0))) 3,
 oQ 3 (.assign (.const (.int .i64 0))) 3,
 oQ 4 (.assign (.const (.int .i64 0))) 3]
def f111r13:List AOp:=[oM 61 5 3,
 oM 62 8 3,
 oM 63 7 3,
 oQ 64 (.binOp .add 3 (oT 63) (.const (.int .i64 1)) 3) 3,
 oA 2 61 3,
 oA 3 62 3,
 oA 4 64 3]
def f111:AFun:=⟨65,[(.tmp 2),(.tmp 3),(.tmp 4)],(.seq (.ops false f111r0) (.seq (.ops false f111r1) (.seq (.ops false f111r2) (.seq (.ops false f111r3) (.seq (.seq (.ops false f111r4) (.cond (.tmp 32) (.seq (.ops false f111r5) (.seq (.ops false f111r6) (.seq (.ops false f111r7) (.seq (.ops false f111r8) (.seq (.ops false f111r9) (.cond (.tmp 46) (.ops false f111r10) .skip)))))) .skip)) (.seq (.seq (.ops false f111r11) (.cond (.tmp 60) (.seq (.ops false f111r12) .ret) .skip)) (.seq (.ops false f111r13) .ret)))))))⟩
def f112r0:List AOp:=[oQ 2 (.alloc 25) 0,
 oQ 3 (.assign (.const (.int .i64 0))) 3]
def f112r1:List AOp:=[oM 13 0 9,
 oQ 14 (cF 144 #[(oT 13)] #[9]) 174,
 oM 12 14 174,
 oQ 15 (.extract (oT 12) 0) 25,
 oQ 16 (.extract (oT 12) 1) 3,
 oQ 4 (.alloc 25) 0,
 oN (.store 25 (oT 4) (oT 15)) 0,
 oA 5 16 3]
def f112r2:List AOp:=[oM 17 5 3,
 oQ 18 (.binOp .eql 3 (oT 17) (.const (.int .i64 0)) 3) 4,
 oM 19 18 4,
 oG 20 (.move (oT 5)) 3 19 false,
 oG 21 (.move (oT 0)) 9 19 false,
 oG 22 (cB .len #[(oT 21)] #[9]) 3 19 false,
 oG 23 (.binOp .geq 3 (oT 20) (oT 22) 3) 4 19 false,
 oQ 24 (.pick (oT 19) (.const (.bool true)) (oT 23)) 4,
 oM 25 24 4,
 oG 26 (.move (oT 0)) 9 25 false,
 oG 27 (.move (oT 5)) 3 25 false,
 oG 28 (.index 9 (oT 26) (oT 27)) 5 25 false,
 oG 29 (.binOp .neq 5 (oT 28) (.const (.int .u8 45)) 5) 4 25 false,
 oQ 30 (.pick (oT 25) (.const (.bool true)) (oT 29)) 4]
def f112r3:List AOp:=[oQ 31 (.load 25 (oT 4)) 25,
 oM 32 5 3,
 oN (.store 25 (oT 2) (oT 31)) 0,
 oA 3 32 3]
def f112r4:List AOp:=[oM 34 0 9,
 oM 35 5 3,
 oQ 36 (.binOp .add 3 (oT 35) (.const (.int .i64 1)) 3) 3,
 oQ 37 (.slice 9 (oT 34) (some (oT 36)) none none) 9,
 oQ 38 (cF 144 #[(oT 37)] #[9]) 174,
 oM 33 38 174,
 oQ 39 (.extract (oT 33) 0) 25,
 oQ 40 (.extract (oT 33) 1) 3,
 oQ 6 (.alloc 25) 0,
 oN (.store 25 (oT 6) (oT 39)) 0,
 oA 7 40 3]
def f112r5:List AOp:=[oQ 42 (.load 25 (oT 4)) 25,
 oQ 43 (cF 120 #[(oT 42)] #[25]) 145,
 oM 41 43 145,
 oQ 44 (.extract (oT 41) 0) 5,
 oQ 45 (.extract (oT 41) 1) 4,
 oA 8 44 5,
 oA 9 45 4]
def f112r6:List AOp:=[oQ 47 (.load 25 (oT 6)) 25,
 oQ 48 (cF 120 #[(oT 47)] #[25]) 145,
 oM 46 48 145,
 oQ 49 (.extract (oT 46) 0) 5,
 oQ 50 (.extract (oT 46) 1) 4,
 oA 10 49 5,
 oA 11 50 4]
def f112r7:List AOp:=[oM 51 7 3,
 oQ 52 (.binOp .eql 3 (oT 51) (.const (.int .i64 0)) 3) 4,
 oM 53 52 4,
 oG 54 (.load 25 (oT 4)) 25 53 false,
 oG 55 (cF 44 #[(oT 54)] #[25]) 3 53 false,
 oG 56 (.binOp .neq 3 (oT 55) (.const (.int .i64 1)) 3) 4 53 false,
 oQ 57 (.pick (oT 53) (.const (.bool true)) (oT 56)) 4,
 oM 58 57 4,
 oG 59 (.load 25 (oT 6)) 25 58 false,
 oG 60 (cF 44 #[(oT 59)] #[25]) 3 58 false,
 oG 61 (.binOp .neq 3 (oT 60) (.const (.int .i64 1)) 3) 4 58 false,
 oQ 62 (.pick (oT 58) (.const (.bool true)) (oT 61)) 4,
 oM 63 62 4,
 oG 64 (.move (oT 10)) 5 63 false,
 oG 65 (.move (oT 8)) 5 63 false,
 oG 66 (.binOp .lss 5 (oT 64) (oT 65) 5) 4 63 false,
 oQ 67 (.pick (oT 63) (.const (.bool true)) (oT 66)) 4]
def f112r8:List AOp:=[oQ 68 (.build 25 #[]) 25,
 oN (.store 25 (oT 2) (oT 68)) 0,
 oQ 3 (.assign (.const (.int .i64 0))) 3]
def f112r9:List AOp:=[oM 69 8 5,
 oM 70 10 5,
 oQ 71 (cF 145 #[(oT 69),(oT 70)] #[5,5]) 25,
 oM 72 5 3,
 oQ 73 (.binOp .add 3 (oT 72) (.const (.int .i64 1)) 3) 3,
 oM 74 7 3,
 oQ 75 (.binOp .add 3 (oT 73) (oT 74) 3) 3,
 oN (.store 25 (oT 2) (oT 71)) 0,
 oA 3 75 3]
def f112:AFun:=⟨76,[(.cell 2 25),(.tmp 3)],(.seq (.ops false f112r0) (.seq (.ops false f112r1) (.seq (.seq (.ops false f112r2) (.cond (.tmp 30) (.seq (.ops false f112r3) .ret) .skip)) (.seq (.ops false f112r4) (.seq (.ops false f112r5) (.seq (.ops false f112r6) (.seq (.seq (.ops false f112r7) (.cond (.tmp 67) (.seq (.ops false f112r8) .ret) .skip)) (.seq (.ops false f112r9) .ret))))))))⟩
def f113r0:List AOp:=[oQ 1 (.box 25 (oT 0)) 0,
 oQ 2 (.alloc 25) 0]
def f113r1:List AOp:=[oQ 4 (.move (.const (.int .i64 0))) 3]
def f113r2:List AOp:=[oQ 5 (.binOp .lss 3 (oT 4) (.const (.int .i64 4)) 3) 0]
def f113r3:List AOp:=[oM 6 4 3,
 oA 3 6 3]
def f113r4:List AOp:=[oM 7 3 3,
 oM 8 3 3,
 oQ 9 (.fieldAddr 25 (oT 1) 0) 0,
 oQ 10 (.indexAddr 23 (oT 9) (oT 8)) 0,
 oQ 11 (.load 22 (oT 10)) 22,
 oQ 12 (.unOp .xor 22 (oT 11)) 22,
 oQ 13 (.fieldAddr 25 (oT 1) 0) 0,
 oQ 14 (.indexAddr 23 (oT 13) (oT 7)) 0,
 oN (.store 22 (oT 14) (oT 12)) 0]
def f113r5:List AOp:=[oQ 15 (.binOp .add 3 (oT 4) (.const (.int .i64 1)) 3) 3,
 oM 4 15 3]
def f113b0:AC:=(.seq (.ops false f113r2) (.seq (.cond (oT 5) .skip (.exit 0)) (.seq (.block 1 (.seq (.ops false f113r3) (.ops false f113r4))) (.ops false f113r5))))
def f113r6:List AOp:=[oQ 16 (.load 25 (oT 1)) 25,
 oN (.store 25 (oT 2) (oT 16)) 0]
def f113:AFun:=⟨17,[(.cell 2 25)],(.seq (.ops false f113r0) (.seq (.seq (.ops false f113r1) (.block 0 (.loop [1,2,4] f113b0))) (.seq (.ops false f113r6) .ret)))⟩
def f114r0:List AOp:=[oQ 4 (.assign (.const (.int .i64 0))) 3]
def f114r1:List AOp:=[oQ 5 (.assign (.const (.int .i64 (-1)))) 3]
def f114r2:List AOp:=[oM 7 0 5,
 oQ 8 (.binOp .geq 5 (oT 7) (.const (.int .u8 48)) 5) 4,
 oM 9 8 4,
 oG 10 (.move (oT 0)) 5 9 true,
 oG 11 (.binOp .leq 5 (oT 10) (.const (.int .u8 57)) 5) 4 9 true,
 oQ 12 (.pick (oT 9) (oT 11) (.const (.bool false))) 4,
 oA 6 12 4]
def f114r3:List AOp:=[oM 13 0 5,
 oQ 14 (.binOp .sub 5 (oT 13) (.const (.int .u8 48)) 5) 5,
 oQ 15 (.convert 5 3 (oT 14)) 3,
 oA 5 15 3]
def f114r4:List AOp:=[oM 17 0 5,
 oQ 18 (.binOp .geq 5 (oT 17) (.const (.int .u8 97)) 5) 4,
 oM 19 18 4,
 oG 20 (.move (oT 0)) 5 19 true,
 oG 21 (.binOp .leq 5 (oT 20) (.const (.int .u8 102)) 5) 4 19 true,
 oQ 22 (.pick (oT 19) (oT 21) (.const (.bool false))) 4,
 oA 16 22 4]
def f114r5:List AOp:=[oM 23 0 5,
 oQ 24 (.binOp .sub 5 (oT 23) (.const (.int .u8 97)) 5) 5,
 oQ 25 (.convert 5 3 (oT 24)) 3,
 oQ 26 (.binOp .add 3 (oT 25) (.const (.int .i64 10)) 3) 3,
 oA 5 26 3]
def f114r6:List AOp:=[oM 28 0 5,
 oQ 29 (.binOp .geq 5 (oT 28) (.const (.int .u8 65)) 5) 4,
 oM 30 29 4,
 oG 31 (.move (oT 0)) 5 30 true,
 oG 32 (.binOp .leq 5 (oT 31) (.const (.int .u8 70)) 5) 4 30 true,
 oQ 33 (.pick (oT 30) (oT 32) (.const (.bool false))) 4,
 oA 27 33 4]
def f114r7:List AOp:=[oM 34 0 5,
 oQ 35 (.binOp .sub 5 (oT 34) (.const (.int .u8 65)) 5) 5,
 oQ 36 (.convert 5 3 (oT 35)) 3,
 oQ 37 (.binOp .add 3 (oT 36) (.const (.int .i64 10)) 3) 3,
 oA 5 37 3]
def f114r8:List AOp:=[oM 38 5 3,
 oM 39 1 3,
 oQ 40 (.binOp .geq 3 (oT 38) (oT 39) 3) 4]
def f114r9:List AOp:=[oQ 4 (.assign (.const (.int .i64 (-1)))) 3]
def f114r10:List AOp:=[oM 41 5 3,
 oA 4 41 3]
def f114:AFun:=⟨42,[(.tmp 4)],(.seq (.ops false f114r0) (.seq (.ops false f114r1) (.seq (.block 0 (.seq (.ops false f114r2) (.cond (.tmp 6) (.ops false f114r3) (.seq (.ops false f114r4) (.cond (.tmp 16) (.ops false f114r5) (.seq (.ops false f114r6) (.cond (.tmp 27) (.ops false f114r7) .skip))))))) (.seq (.seq (.ops false f114r8) (.cond (.tmp 40) (.seq (.ops false f114r9) .ret) .skip)) (.seq (.ops false f114r10) .ret)))))⟩
def f115r0:List AOp:=[oQ 2 (.alloc 25) 0,
 oQ 3 (.assign (.const (.int .i64 0))) 3]
def f115r1:List AOp:=[oM 6 0 9,
 oQ 7 (.binOp .eql 9 (oT 6) (.const (.string { data:=#[] })) 9) 4]
def f115r2:List AOp:=[oQ 8 (.build 25 #[]) 25,
 oN (.store 25 (oT 2) (oT 8)) 0,
 oQ 3 (.assign (.const (.int .i64 0))) 3]
def f115r3:List AOp:=[oM 9 0 9,
 oQ 10 (.index 9 (oT 9) (.const (.int .i64 0))) 5,
 oA 4 10 5]
def f115r4:List AOp:=[oM 11 4 5]
def f115r11:List AOp:=[oQ 25 (.binOp .eql 5 (oT 11) (.const (.int .u8 100)) 5) 4,
 oA 24 25 4]
def f115r12:List AOp:=[oQ 26 (cF 146 #[] #[]) 25,
 oN (.store 25 (oT 2) (oT 26)) 0,
 oQ 3 (.assign (.const (.int .i64 1))) 3]
def f115r13:List AOp:=[oQ 28 (.binOp .eql 5 (oT 11) (.const (.int .u8 68)) 5) 4,
 oA 27 28 4]
def f115r14:List AOp:=[oQ 29 (cF 146 #[] #[]) 25,
 oQ 30 (cF 113 #[(oT 29)] #[25]) 25,
 oN (.store 25 (oT 2) (oT 30)) 0,
 oQ 3 (.assign (.const (.int .i64 1))) 3]
def f115r15:List AOp:=[oQ 32 (.binOp .eql 5 (oT 11) (.const (.int .u8 119)) 5) 4,
 oA 31 32 4]
def f115r16:List AOp:=[oQ 33 (cF 147 #[] #[]) 25,
 oN (.store 25 (oT 2) (oT 33)) 0,
 oQ 3 (.assign (.const (.int .i64 1))) 3]
def f115r17:List AOp:=[oQ 35 (.binOp .eql 5 (oT 11) (.const (.int .u8 87)) 5) 4,
 oA 34 35 4]
def f115r18:List AOp:=[oQ 36 (cF 147 #[] #[]) 25,
 oQ 37 (cF 113 #[(oT 36)] #[25]) 25,
 oN (.store 25 (oT 2) (oT 37)) 0,
 oQ 3 (.assign (.const (.int .i64 1))) 3]
def f115r19:List AOp:=[oQ 39 (.binOp .eql 5 (oT 11) (.const (.int .u8 115)) 5) 4,
 oA 38 39 4]
def f115r20:List AOp:=[oQ 40 (cF 148 #[] #[]) 25,
 oN (.store 25 (oT 2) (oT 40)) 0,
 oQ 3 (.assign (.const (.int .i64 1))) 3]
def f115r21:List AOp:=[oQ 42 (.binOp .eql 5 (oT 11) (.const (.int .u8 83)) 5) 4,
 oA 41 42 4]
def f115r22:List AOp:=[oQ 43 (cF 148 #[] #[]) 25,
 oQ 44 (cF 113 #[(oT 43)] #[25]) 25,
 oN (.store 25 (oT 2) (oT 44)) 0,
 oQ 3 (.assign (.const (.int .i64 1))) 3]
def f115r23:List AOp:=[oQ 46 (.binOp .eql 5 (oT 11) (.const (.int .u8 120)) 5) 4,
 oA 45 46 4]
def f115r24:List AOp:=[oM 47 0 9,
 oQ 48 (cB .len #[(oT 47)] #[9]) 3,
 oQ 49 (.binOp .lss 3 (oT 48) (.const (.int .i64 3)) 3) 4,
 oM 50 49 4,
 oG 51 (.move (oT 0)) 9 50 false,
 oG 52 (.index 9 (oT 51) (.const (.int .i64 1))) 5 50 false,
 oG 53 (cF 114 #[(oT 52),(.const (.int .i64 16))] #[5,3]) 3 50 false,
 oG 54 (.binOp .lss 3 (oT 53) (.const (.int .i64 0)) 3) 4 50 false,
 oQ 55 (.pick (oT 50) (.const (.bool true)) (oT 54)) 4,
 oM 56 55 4,
 oG 57 (.move (oT 0)) 9 56 false,
 oG 58 (.index 9 (oT 57) (.const (.int .i64 2))) 5 56 false,
 oG 59 (cF 114 #[(oT 58),(.const (.int .i64 16))] #[5,3]) 3 56 false,
 oG 60 (.binOp .lss 3 (oT 59) (.const (.int .i64 0)) 3) 4 56 false,
 oQ 61 (.pick (oT 56) (.const (.bool true)) (oT 60)) 4]
def f115r25:List AOp:=[oQ 62 (.build 25 #[]) 25,
 oN (.store 25 (oT 2) (oT 62)) 0,
 oQ 3 (.assign (.const (.int .i64 0))) 3]
def f115r26:List AOp:=[oM 63 0 9,
 oQ 64 (.index 9 (oT 63) (.const (.int .i64 1))) 5,
 oQ 65 (cF 114 #[(oT 64),(.const (.int .i64 16))] #[5,3]) 3,
 oQ 66 (.binOp .mul 3 (oT 65) (.const (.int .i64 16)) 3) 3,
 oM 67 0 9,
 oQ 68 (.index 9 (oT 67) (.const (.int .i64 2))) 5,
 oQ 69 (cF 114 #[(oT 68),(.const (.int .i64 16))] #[5,3]) 3,
 oQ 70 (.binOp .add 3 (oT 66) (oT 69) 3) 3,
 oQ 71 (.convert 3 5 (oT 70)) 5,
 oQ 72 (cF 49 #[(oT 71)] #[5]) 25,
 oN (.store 25 (oT 2) (oT 72)) 0,
 oQ 3 (.assign (.const (.int .i64 3))) 3]
def f115r5:List AOp:=[oM 12 4 5,
 oQ 13 (.call { callee:=(.value (.func 109)),args:=#[(.const (.string { data:=#[110,116,114,102,118] })),(oT 12)],argTypes:=#[9,5] }) 3,
 oA 5 13 3]
def f115r6:List AOp:=[oM 14 5 3,
 oQ 15 (.binOp .geq 3 (oT 14) (.const (.int .i64 0)) 3) 4]
def f115r7:List AOp:=[oM 16 5 3,
 oQ 17 (.index 9 (.const (.string { data:=#[10,9,13,12,11] })) (oT 16)) 5,
 oQ 18 (cF 49 #[(oT 17)] #[5]) 25,
 oN (.store 25 (oT 2) (oT 18)) 0,
 oQ 3 (.assign (.const (.int .i64 1))) 3]
def f115r8:List AOp:=[oM 19 4 5,
 oQ 20 (cF 149 #[(oT 19)] #[5]) 4]
def f115r9:List AOp:=[oQ 21 (.build 25 #[]) 25,
 oN (.store 25 (oT 2) (oT 21)) 0,
 oQ 3 (.assign (.const (.int .i64 0))) 3]
def f115r10:List AOp:=[oM 22 4 5,
 oQ 23 (cF 49 #[(oT 22)] #[5]) 25,
 oN (.store 25 (oT 2) (oT 23)) 0,
 oQ 3 (.assign (.const (.int .i64 1))) 3]
def f115:AFun:=⟨73,[(.cell 2 25),(.tmp 3)],(.seq (.ops false f115r0) (.seq (.seq (.ops false f115r1) (.cond (.tmp 7) (.seq (.ops false f115r2) .ret) .skip)) (.seq (.ops false f115r3) (.seq (.ops false f115r4) (.block 0 (.seq (.ops false f115r11) (.cond (.tmp 24) (.seq (.ops false f115r12) .ret) (.seq (.ops false f115r13) (.cond (.tmp 27) (.seq (.ops false f115r14) .ret) (.seq (.ops false f115r15) (.cond (.tmp 31) (.seq (.ops false f115r16) .ret) (.seq (.ops false f115r17) (.cond (.tmp 34) (.seq (.ops false f115r18) .ret) (.seq (.ops false f115r19) (.cond (.tmp 38) (.seq (.ops false f115r20) .ret) (.seq (.ops false f115r21) (.cond (.tmp 41) (.seq (.ops false f115r22) .ret) (.seq (.ops false f115r23) (.cond (.tmp 45) (.seq (.seq (.ops false f115r24) (.cond (.tmp 61) (.seq (.ops false f115r25) .ret) .skip)) (.seq (.ops false f115r26) .ret)) (.seq (.seq (.ops false f115r5) (.seq (.ops false f115r6) (.cond (.tmp 15) (.seq (.ops false f115r7) .ret) .skip))) (.seq (.seq (.ops false f115r8) (.cond (.tmp 20) (.seq (.ops false f115r9) .ret) .skip)) (.seq (.ops false f115r10) .ret))))))))))))))))))))))⟩
def f120r0:List AOp:=[oQ 1 (.box 25 (oT 0)) 0,
 oQ 2 (.assign (.const (.int .u8 0))) 5,
 oQ 3 (.assign (.const (.bool false))) 4]
def f120r1:List AOp:=[oQ 6 (.fieldAddr 25 (oT 1) 0) 0,
 oQ 7 (.load 23 (oT 6)) 23,
 oQ 8 (.move (.const (.int .i64 0))) 3]
def f120r2:List AOp:=[oQ 9 (.binOp .lss 3 (oT 8) (.const (.int .i64 4)) 3) 0]
def f120r3:List AOp:=[oM 10 8 3,
 oQ 11 (.index 23 (oT 7) (oT 8)) 22,
 oA 4 10 3,
 oA 5 11 22]
def f120r4:List AOp:=[oM 12 5 22,
 oQ 13 (.binOp .neq 22 (oT 12) (.const (.int .u64 0)) 22) 4]
def f120r5:List AOp:=[oM 14 4 3,
 oQ 15 (.binOp .mul 3 (oT 14) (.const (.int .i64 64)) 3) 3,
 oM 16 5 22,
 oQ 17 (cF 152 #[(oT 16)] #[22]) 3,
 oQ 18 (.binOp .add 3 (oT 15) (oT 17) 3) 3,
 oQ 19 (.convert 3 5 (oT 18)) 5,
 oA 2 19 5,
 oQ 3 (.assign (.const (.bool true))) 4]
def f120r6:List AOp:=[oQ 20 (.binOp .add 3 (oT 8) (.const (.int .i64 1)) 3) 3,
 oM 8 20 3]
def f120b0:AC:=(.seq (.ops false f120r2) (.seq (.cond (oT 9) .skip (.exit 0)) (.seq (.block 1 (.seq (.ops false f120r3) (.seq (.ops false f120r4) (.cond (oT 13) (.seq (.ops false f120r5) .ret) .skip)))) (.ops false f120r6))))
def f120r7:List AOp:=[oQ 2 (.assign (.const (.int .u8 0))) 5,
 oQ 3 (.assign (.const (.bool false))) 4]
def f120:AFun:=⟨21,[(.tmp 2),(.tmp 3)],(.seq (.ops false f120r0) (.seq (.seq (.ops false f120r1) (.block 0 (.loop [7,8] f120b0))) (.seq (.ops false f120r7) .ret)))⟩
def f121r0:List AOp:=[oQ 1 (.box 107 (oT 0)) 0,
 oQ 2 (.alloc 107) 0]
def f121r1:List AOp:=[oQ 3 (.fieldAddr 107 (oT 1) 0) 0,
 oQ 4 (.fieldAddr 54 (oT 3) 3) 0,
 oQ 5 (.load 9 (oT 4)) 9,
 oQ 6 (cB .len #[(oT 5)] #[9]) 3,
 oQ 7 (.binOp .gtr 3 (oT 6) (.const (.int .i64 100)) 3) 4]
def f121r2:List AOp:=[oQ 8 (.fieldAddr 107 (oT 1) 0) 0,
 oQ 9 (.fieldAddr 54 (oT 8) 3) 0,
 oQ 10 (.load 9 (oT 9)) 9,
 oQ 11 (.slice 9 (oT 10) none (some (.const (.int .i64 100))) none) 9,
 oQ 12 (.fieldAddr 107 (oT 1) 0) 0,
 oQ 13 (.fieldAddr 54 (oT 12) 3) 0,
 oN (.store 9 (oT 13) (oT 11)) 0,
 oQ 14 (.fieldAddr 107 (oT 1) 1) 0,
 oN (.store 4 (oT 14) (.const (.bool false))) 0]
def f121r3:List AOp:=[oQ 15 (.load 107 (oT 1)) 107,
 oN (.store 107 (oT 2) (oT 15)) 0]
def f121:AFun:=⟨16,[(.cell 2 107)],(.seq (.ops false f121r0) (.seq (.seq (.ops false f121r1) (.cond (.tmp 7) (.ops false f121r2) .skip)) (.seq (.ops false f121r3) .ret)))⟩
def f124r0:List AOp:=[oQ 1 (.box 72 (oT 0)) 0,
 oQ 2 (.alloc 72) 0]
def f124r1:List AOp:=[oQ 3 (.fieldAddr 72 (oT 1) 0) 0,
 oN (.store 3 (oT 3) (.const (.int .i64 0))) 0,
 oQ 4 (.fieldAddr 72 (oT 1) 1) 0,
 oN (.store 3 (oT 4) (.const (.int .i64 0))) 0,
 oQ 5 (.fieldAddr 72 (oT 1) 2) 0,
 oN (.store 3 (oT 5) (.const (.int .i64 0))) 0]
def f124r2:List AOp:=[oQ 6 (.load 72 (oT 1)) 72,
 oN (.store 72 (oT 2) (oT 6)) 0]
def f124:AFun:=⟨7,[(.cell 2 72)],(.seq (.ops false f124r0) (.seq (.ops false f124r1) (.seq (.ops false f124r2) .ret)))⟩
def f125r0:List AOp:=[oQ 1 (.box 72 (oT 0)) 0,
 oQ 2 (.alloc 72) 0]
def f125r1:List AOp:=[oQ 4 (.fieldAddr 72 (oT 1) 0) 0,
 oQ 5 (.load 3 (oT 4)) 3,
 oQ 6 (.build 72 #[(0,(oT 5))]) 72,
 oQ 3 (.alloc 72) 0,
 oN (.store 72 (oT 3) (oT 6)) 0]
def f125r2:List AOp:=[oQ 7 (.fieldAddr 72 (oT 1) 0) 0,
 oQ 8 (.load 3 (oT 7)) 3]
def f125r3:List AOp:=[oQ 10 (.binOp .eql 3 (oT 8) (.const (.int .i64 1)) 3) 4,
 oA 9 10 4]
def f125r4:List AOp:=[oQ 11 (.fieldAddr 72 (oT 1) 3) 0,
 oQ 12 (.load 25 (oT 11)) 25,
 oQ 13 (.fieldAddr 72 (oT 3) 3) 0,
 oN (.store 25 (oT 13) (oT 12)) 0]
def f125r5:List AOp:=[oQ 15 (.binOp .eql 3 (oT 8) (.const (.int .i64 10)) 3) 4,
 oA 14 15 4]
def f125r6:List AOp:=[oQ 16 (.fieldAddr 72 (oT 1) 4) 0,
 oQ 17 (.load 3 (oT 16)) 3,
 oQ 18 (.fieldAddr 72 (oT 1) 5) 0,
 oQ 19 (.load 3 (oT 18)) 3,
 oQ 20 (.fieldAddr 72 (oT 1) 6) 0,
 oQ 21 (.load 3 (oT 20)) 3,
 oQ 22 (.fieldAddr 72 (oT 3) 4) 0,
 oN (.store 3 (oT 22) (oT 17)) 0,
 oQ 23 (.fieldAddr 72 (oT 3) 5) 0,
 oN (.store 3 (oT 23) (oT 19)) 0,
 oQ 24 (.fieldAddr 72 (oT 3) 6) 0,
 oN (.store 3 (oT 24) (oT 21)) 0]
def f125r7:List AOp:=[oQ 26 (.binOp .eql 3 (oT 8) (.const (.int .i64 11)) 3) 4,
 oA 25 26 4]
def f125r8:List AOp:=[oQ 27 (.fieldAddr 72 (oT 1) 7) 0,
 oQ 28 (.load 3 (oT 27)) 3,
 oQ 29 (.fieldAddr 72 (oT 3) 7) 0,
 oN (.store 3 (oT 29) (oT 28)) 0]
def f125r9:List AOp:=[oQ 31 (.binOp .eql 3 (oT 8) (.const (.int .i64 12)) 3) 4,
 oA 30 31 4]
def f125r10:List AOp:=[oQ 32 (.fieldAddr 72 (oT 1) 7) 0,
 oQ 33 (.load 3 (oT 32)) 3,
 oQ 34 (.fieldAddr 72 (oT 1) 8) 0,
 oQ 35 (.load 4 (oT 34)) 4,
 oQ 36 (.fieldAddr 72 (oT 3) 7) 0,
 oN (.store 3 (oT 36) (oT 33)) 0,
 oQ 37 (.fieldAddr 72 (oT 3) 8) 0,
 oN (.store 4 (oT 37) (oT 35)) 0]
def f125r11:List AOp:=[oQ 38 (.load 72 (oT 3)) 72,
 oN (.store 72 (oT 2) (oT 38)) 0]
def f125:AFun:=⟨39,[(.cell 2 72)],(.seq (.ops false f125r0) (.seq (.ops false f125r1) (.seq (.seq (.ops false f125r2) (.block 0 (.seq (.ops false f125r3) (.cond (.tmp 9) (.ops false f125r4) (.seq (.ops false f125r5) (.cond (.tmp 14) (.opsL [18,20] 11 false f125r6) (.seq (.ops false f125r7) (.cond (.tmp 25) (.ops false f125r8) (.seq (.ops false f125r9) (.cond (.tmp 30) (.opsL [34] 7 false f125r10) .skip)))))))))) (.seq (.ops false f125r11) .ret))))⟩
def f136r0:List AOp:=[oQ 10 (.assign (.const (.bool true))) 4]
def f136r1:List AOp:=[oQ 11 (.assign (.const (.bool true))) 4]
def f136r2:List AOp:=[oM 21 2 3,
 oM 22 1 3,
 oQ 23 (.binOp .sub 3 (oT 21) (oT 22) 3) 3,
 oA 12 23 3]
def f136r3:List AOp:=[oM 24 12 3,
 oQ 25 (.binOp .leq 3 (oT 24) (.const (.int .i64 12)) 3) 4]
def f136r4:List AOp:=[oM 26 0 100,
 oM 27 1 3,
 oM 28 2 3,
 oM 29 4 151,
 oQ 30 (cF 154 #[(oT 26),(oT 27),(oT 28),(oT 29)] #[100,3,3,151]) 0]
def f136r5:List AOp:=[oM 31 3 3,
 oQ 32 (.binOp .eql 3 (oT 31) (.const (.int .i64 0)) 3) 4]
def f136r6:List AOp:=[oM 33 0 100,
 oM 34 1 3,
 oM 35 2 3,
 oM 36 4 151,
 oQ 37 (cF 155 #[(oT 33),(oT 34),(oT 35),(oT 36)] #[100,3,3,151]) 0]
def f136r7:List AOp:=[oM 38 10 4,
 oQ 39 (.unOp .not 4 (oT 38)) 4]
def f136r8:List AOp:=[oM 40 0 100,
 oM 41 1 3,
 oM 42 2 3,
 oM 43 4 151,
 oQ 44 (cF 156 #[(oT 40),(oT 41),(oT 42),(oT 43)] #[100,3,3,151]) 0]
def f136r9:List AOp:=[oM 45 3 3,
 oQ 46 (.binOp .sub 3 (oT 45) (.const (.int .i64 1)) 3) 3,
 oA 3 46 3]
def f136r10:List AOp:=[oM 48 0 100,
 oM 49 1 3,
 oM 50 2 3,
 oM 51 4 151,
 oQ 52 (cF 157 #[(oT 48),(oT 49),(oT 50),(oT 51)] #[100,3,3,151]) 197,
 oM 47 52 197,
 oQ 53 (.extract (oT 47) 0) 3,
 oQ 54 (.extract (oT 47) 1) 196,
 oA 13 53 3,
 oA 14 54 196]
def f136r11:List AOp:=[oM 55 14 196,
 oQ 56 (.binOp .eql 196 (oT 55) (.const (.int .i64 2)) 196) 4]
def f136r12:List AOp:=[oM 57 0 100,
 oM 58 1 3,
 oM 59 2 3,
 oM 60 4 151,
 oQ 61 (cF 158 #[(oT 57),(oT 58),(oT 59),(oT 60)] #[100,3,3,151]) 0]
def f136r13:List AOp:=[oM 62 2 3,
 oQ 63 (.binOp .sub 3 (oT 62) (.const (.int .i64 1)) 3) 3,
 oM 64 13 3,
 oM 65 1 3,
 oQ 66 (.binOp .sub 3 (oT 64) (oT 65) 3) 3,
 oQ 67 (.binOp .sub 3 (oT 63) (oT 66) 3) 3,
 oA 13 67 3]
def f136r14:List AOp:=[oQ 14 (.assign (.const (.int .i64 1))) 196]
def f136r15:List AOp:=[oM 68 10 4,
 oM 69 68 4,
 oG 70 (.move (oT 11)) 4 69 true,
 oQ 71 (.pick (oT 69) (oT 70) (.const (.bool false))) 4,
 oM 72 71 4,
 oG 73 (.move (oT 14)) 196 72 true,
 oG 74 (.binOp .eql 196 (oT 73) (.const (.int .i64 1)) 196) 4 72 true,
 oQ 75 (.pick (oT 72) (oT 74) (.const (.bool false))) 4]
def f136r16:List AOp:=[oM 76 0 100,
 oM 77 1 3,
 oM 78 2 3,
 oM 79 4 151,
 oQ 80 (cF 159 #[(oT 76),(oT 77),(oT 78),(oT 79)] #[100,3,3,151]) 4]
def f136r17:List AOp:=[oM 81 1 3,
 oQ 82 (.binOp .gtr 3 (oT 81) (.const (.int .i64 0)) 3) 4,
 oM 83 82 4,
 oG 84 (.move (oT 4)) 151 83 true,
 oG 85 (.move (oT 0)) 100 83 true,
 oG 86 (.move (oT 1)) 3 83 true,
 oG 87 (.binOp .sub 3 (oT 86) (.const (.int .i64 1)) 3) 3 83 true,
 oG 88 (.indexAddr 100 (oT 85) (oT 87)) 0 83 true,
 oG 89 (.load 3 (oT 88)) 3 83 true,
 oG 90 (.move (oT 0)) 100 83 true,
 oG 91 (.move (oT 13)) 3 83 true,
 oG 92 (.indexAddr 100 (oT 90) (oT 91)) 0 83 true,
 oG 93 (.load 3 (oT 92)) 3 83 true,
 oG 94 (.call { callee:=(.value (oT 84)),args:=#[(oT 89),(oT 93)],argTypes:=#[3,3] }) 3 83 true,
 oG 95 (.binOp .lss 3 (oT 94) (.const (.int .i64 0)) 3) 4 83 true,
 oG 96 (.unOp .not 4 (oT 95)) 4 83 true,
 oQ 97 (.pick (oT 83) (oT 96) (.const (.bool false))) 4]
def f136r18:List AOp:=[oM 98 0 100,
 oM 99 1 3,
 oM 100 2 3,
 oM 101 13 3,
 oM 102 4 151,
 oQ 103 (cF 160 #[(oT 98),(oT 99),(oT 100),(oT 101),(oT 102)] #[100,3,3,3,151]) 3,
 oA 15 103 3]
def f136r19:List AOp:=[oM 104 15 3,
 oA 1 104 3]
def f136r20:List AOp:=[oM 106 0 100,
 oM 107 1 3,
 oM 108 2 3,
 oM 109 13 3,
 oM 110 4 151,
 oQ 111 (cF 161 #[(oT 106),(oT 107),(oT 108),(oT 109),(oT 110)] #[100,3,3,3,151]) 129,
 oM 105 111 129,
 oQ 112 (.extract (oT 105) 0) 3,
 oQ 113 (.extract (oT 105) 1) 4,
 oA 16 112 3,
 oA 17 113 4]
def f136r21:List AOp:=[oM 114 17 4,
 oA 11 114 4]
def f136r22:List AOp:=[oM 115 16 3,
 oM 116 1 3,
 oQ 117 (.binOp .sub 3 (oT 115) (oT 116) 3) 3,
 oM 118 2 3,
 oM 119 16 3,
 oQ 120 (.binOp .sub 3 (oT 118) (oT 119) 3) 3,
 oA 18 117 3,
 oA 19 120 3]
def f136r23:List AOp:=[oM 121 12 3,
 oQ 122 (.binOp .quo 3 (oT 121) (.const (.int .i64 8)) 3) 3,
 oA 20 122 3]
def f136r24:List AOp:=[oM 123 18 3,
 oM 124 19 3,
 oQ 125 (.binOp .lss 3 (oT 123) (oT 124) 3) 4]
def f136r25:List AOp:=[oM 126 18 3,
 oM 127 20 3,
 oQ 128 (.binOp .geq 3 (oT 126) (oT 127) 3) 4,
 oA 10 128 4]
def f136r26:List AOp:=[oM 129 0 100,
 oM 130 1 3,
 oM 131 16 3,
 oM 132 3 3,
 oM 133 4 151,
 oQ 134 (cF 136 #[(oT 129),(oT 130),(oT 131),(oT 132),(oT 133)] #[100,3,3,3,151]) 0]
def f136r27:List AOp:=[oM 135 16 3,
 oQ 136 (.binOp .add 3 (oT 135) (.const (.int .i64 1)) 3) 3,
 oA 1 136 3]
def f136r28:List AOp:=[oM 137 19 3,
 oM 138 20 3,
 oQ 139 (.binOp .geq 3 (oT 137) (oT 138) 3) 4,
 oA 10 139 4]
def f136r29:List AOp:=[oM 140 0 100,
 oM 141 16 3,
 oQ 142 (.binOp .add 3 (oT 141) (.const (.int .i64 1)) 3) 3,
 oM 143 2 3,
 oM 144 3 3,
 oM 145 4 151,
 oQ 146 (cF 136 #[(oT 140),(oT 142),(oT 143),(oT 144),(oT 145)] #[100,3,3,3,151]) 0]
def f136r30:List AOp:=[oM 147 16 3,
 oA 2 147 3]
def f136b0:AC:=(.block 1 (.seq (.ops false f136r2) (.seq (.seq (.ops false f136r3) (.cond (oT 25) (.seq (.ops false f136r4) .ret) .skip)) (.seq (.seq (.ops false f136r5) (.cond (oT 32) (.seq (.ops false f136r6) .ret) .skip)) (.seq (.seq (.ops false f136r7) (.cond (oT 39) (.seq (.ops false f136r8) (.ops false f136r9)) .skip)) (.seq (.ops false f136r10) (.seq (.seq (.ops false f136r11) (.cond (oT 56) (.seq (.ops false f136r12) (.seq (.ops false f136r13) (.ops false f136r14))) .skip)) (.seq (.seq (.ops false f136r15) (.cond (oT 75) (.seq (.ops false f136r16) (.cond (oT 80) .ret .skip)) .skip)) (.seq (.seq (.ops true f136r17) (.cond (oT 97) (.seq (.ops false f136r18) (.seq (.ops false f136r19) (.exit 1))) .skip)) (.seq (.ops false f136r20) (.seq (.ops false f136r21) (.seq (.ops false f136r22) (.seq (.ops false f136r23) (.seq (.ops false f136r24) (.cond (oT 125) (.seq (.ops false f136r25) (.seq (.ops false f136r26) (.ops false f136r27))) (.seq (.ops false f136r28) (.seq (.ops false f136r29) (.ops false f136r30))))))))))))))))))
def f136:AFun:=⟨148,[],(.seq (.ops false f136r0) (.seq (.ops false f136r1) (.block 0 (.loop [0,1,2,3,4,10,11] f136b0))))⟩
def f137r0:List AOp:=[oQ 2 (.assign (.const (.int .i64 0))) 3]
def f137r1:List AOp:=[oM 3 0 167,
 oQ 4 (.convert 167 203 (oT 3)) 203,
 oQ 5 (cF 162 #[(oT 4)] #[203]) 3,
 oA 2 5 3]
def f137r2:List AOp:=[oM 6 0 167,
 oQ 7 (cF 163 #[(oT 6)] #[22]) 3,
 oA 2 7 3]
def f137:AFun:=⟨8,[(.tmp 2)],(.seq (.ops false f137r0) (.seq (.cond (.const (.bool false)) (.seq (.ops false f137r1) .ret) .skip) (.seq (.ops false f137r2) .ret)))⟩
def f138r0:List AOp:=[oQ 4 (.assign (.const (.int .i64 0))) 3]
def f138r1:List AOp:=[oM 6 0 35,
 oQ 7 (cB .len #[(oT 6)] #[35]) 3,
 oQ 8 (.move (.const (.int .i64 0))) 3]
def f138r2:List AOp:=[oQ 9 (.binOp .lss 3 (oT 8) (oT 7) 3) 0]
def f138r3:List AOp:=[oM 10 8 3,
 oA 5 10 3]
def f138r4:List AOp:=[oM 11 1 158,
 oM 12 0 35,
 oM 13 5 3,
 oQ 14 (.indexAddr 35 (oT 12) (oT 13)) 0,
 oQ 15 (.load 72 (oT 14)) 72,
 oQ 16 (.call { callee:=(.value (oT 11)),args:=#[(oT 15)],argTypes:=#[72] }) 4]
def f138r5:List AOp:=[oM 17 5 3,
 oA 4 17 3]
def f138r6:List AOp:=[oQ 18 (.binOp .add 3 (oT 8) (.const (.int .i64 1)) 3) 3,
 oM 8 18 3]
def f138b0:AC:=(.seq (.ops false f138r2) (.seq (.cond (oT 9) .skip (.exit 0)) (.seq (.block 1 (.seq (.ops false f138r3) (.seq (.ops false f138r4) (.cond (oT 16) (.seq (.ops false f138r5) .ret) .skip)))) (.ops false f138r6))))
def f138r7:List AOp:=[oQ 4 (.assign (.const (.int .i64 (-1)))) 3]
def f138:AFun:=⟨19,[(.tmp 4)],(.seq (.ops false f138r0) (.seq (.seq (.ops false f138r1) (.block 0 (.loop [0,1,7,8] f138b0))) (.seq (.ops false f138r7) .ret)))⟩
def f139r0:List AOp:=[oQ 8 (.alloc 37) 0]
def f139r1:List AOp:=[oM 10 3 166,
 oQ 11 (.call { callee:=(.value (oT 10)),args:=#[],argTypes:=#[] }) 37,
 oQ 9 (.alloc 37) 0,
 oN (.store 37 (oT 9) (oT 11)) 0]
def f139r2:List AOp:=[oM 12 2 31,
 oQ 13 (.call { callee:=(.value (oT 12)),args:=#[],argTypes:=#[] }) 4]
def f139r3:List AOp:=[oQ 14 (.load 37 (oT 9)) 37,
 oM 15 3 166,
 oQ 16 (.call { callee:=(.value (oT 15)),args:=#[],argTypes:=#[] }) 37,
 oM 17 1 3,
 oQ 18 (cF 37 #[(oT 14),(oT 16),(oT 17)] #[37,37,3]) 37,
 oN (.store 37 (oT 9) (oT 18)) 0]
def f139b0:AC:=(.seq (.seq (.ops false f139r2) (.cond (oT 13) .skip (.exit 0))) (.block 1 (.opsL [9] 4 false f139r3)))
def f139r4:List AOp:=[oQ 19 (.load 37 (oT 9)) 37,
 oN (.store 37 (oT 8) (oT 19)) 0]
def f139:AFun:=⟨20,[(.cell 8 37)],(.seq (.ops false f139r0) (.seq (.ops false f139r1) (.seq (.block 0 (.loop [1,2,3,8,9] f139b0)) (.seq (.ops false f139r4) .ret))))⟩
def f140r0:List AOp:=[oQ 2 (.assign (.const (.bool false))) 4]
def f140r1:List AOp:=[oM 4 0 163,
 oQ 5 (cF 164 #[(oT 4),(.const (.int .i64 6))] #[163,3]) 4,
 oA 3 5 4]
def f140r2:List AOp:=[oM 6 3 4]
def f140r3:List AOp:=[oM 7 0 163,
 oQ 8 (.nilCheck (oT 7)) 0,
 oQ 9 (.fieldAddr 165 (oT 8) 1) 0,
 oQ 10 (.load 3 (oT 9)) 3,
 oQ 11 (.binOp .add 3 (oT 10) (.const (.int .i64 1)) 3) 3,
 oQ 12 (.nilCheck (oT 7)) 0,
 oQ 13 (.fieldAddr 165 (oT 12) 1) 0,
 oN (.store 3 (oT 13) (oT 11)) 0]
def f140r4:List AOp:=[oM 14 3 4,
 oA 2 14 4]
def f140:AFun:=⟨15,[(.tmp 2)],(.seq (.ops false f140r0) (.seq (.ops false f140r1) (.seq (.seq (.ops false f140r2) (.cond (.tmp 6) (.ops false f140r3) .skip)) (.seq (.ops false f140r4) .ret))))⟩
def f141r0:List AOp:=[oQ 2 (.alloc 37) 0]
def f141r1:List AOp:=[oM 3 0 163,
 oQ 4 (cF 165 #[(oT 3)] #[163]) 4,
 oQ 5 (.unOp .not 4 (oT 4)) 4]
def f141r2:List AOp:=[oQ 6 (.build 72 #[(0,(.const (.int .i64 0)))]) 72,
 oQ 7 (cF 47 #[(oT 6)] #[72]) 37,
 oN (.store 37 (oT 2) (oT 7)) 0]
def f141r3:List AOp:=[oM 8 0 163,
 oM 9 0 163,
 oQ 10 (.makeFunc (.func 165) #[(oT 9)] #[]) 31,
 oM 11 0 163,
 oQ 12 (.makeFunc (.func 166) #[(oT 11)] #[]) 166,
 oQ 13 (cF 139 #[(oT 8),(.const (.int .i64 8)),(oT 10),(oT 12)] #[163,3,31,166]) 37,
 oN (.store 37 (oT 2) (oT 13)) 0]
def f141:AFun:=⟨14,[(.cell 2 37)],(.seq (.ops false f141r0) (.seq (.seq (.ops false f141r1) (.cond (.tmp 5) (.seq (.ops false f141r2) .ret) .skip)) (.seq (.ops false f141r3) .ret)))⟩
def f142r0:List AOp:=[oQ 4 (.assign (.const (.int .i64 0))) 3]
def f142r1:List AOp:=[oM 5 0 9,
 oM 6 1 5,
 oQ 7 (cF 167 #[(oT 5),(oT 6)] #[9,5]) 3,
 oA 4 7 3]
def f142:AFun:=⟨8,[(.tmp 4)],(.seq (.ops false f142r0) (.seq (.ops false f142r1) .ret))⟩
def f143r0:List AOp:=[oQ 2 (.assign (.const (.int .i64 0))) 3,
 oQ 3 (.assign (.const (.int .i64 0))) 3]
def f143r1:List AOp:=[oQ 4 (.assign (.const (.int .i64 0))) 3,
 oQ 5 (.assign (.const (.int .i64 0))) 3]
def f143r2:List AOp:=[oM 6 5 3,
 oM 7 0 9,
 oQ 8 (cB .len #[(oT 7)] #[9]) 3,
 oQ 9 (.binOp .lss 3 (oT 6) (oT 8) 3) 4,
 oM 10 9 4,
 oG 11 (.move (oT 5)) 3 10 true,
 oG 12 (.binOp .lss 3 (oT 11) (.const (.int .i64 3)) 3) 4 10 true,
 oQ 13 (.pick (oT 10) (oT 12) (.const (.bool false))) 4,
 oM 14 13 4,
 oG 15 (.move (oT 0)) 9 14 true,
 oG 16 (.move (oT 5)) 3 14 true,
 oG 17 (.index 9 (oT 15) (oT 16)) 5 14 true,
 oG 18 (cF 114 #[(oT 17),(.const (.int .i64 10))] #[5,3]) 3 14 true,
 oG 19 (.binOp .geq 3 (oT 18) (.const (.int .i64 0)) 3) 4 14 true,
 oQ 20 (.pick (oT 14) (oT 19) (.const (.bool false))) 4]
def f143r3:List AOp:=[oM 21 4 3,
 oQ 22 (.binOp .mul 3 (oT 21) (.const (.int .i64 10)) 3) 3,
 oM 23 0 9,
 oM 24 5 3,
 oQ 25 (.index 9 (oT 23) (oT 24)) 5,
 oQ 26 (cF 114 #[(oT 25),(.const (.int .i64 10))] #[5,3]) 3,
 oQ 27 (.binOp .add 3 (oT 22) (oT 26) 3) 3,
 oA 4 27 3]
def f143r4:List AOp:=[oM 28 5 3,
 oQ 29 (.binOp .add 3 (oT 28) (.const (.int .i64 1)) 3) 3,
 oA 5 29 3]
def f143b0:AC:=(.seq (.seq (.ops false f143r2) (.cond (oT 20) .skip (.exit 0))) (.block 1 (.seq (.ops false f143r3) (.ops false f143r4))))
def f143r5:List AOp:=[oM 30 4 3,
 oM 31 5 3,
 oA 2 30 3,
 oA 3 31 3]
def f143:AFun:=⟨32,[(.tmp 2),(.tmp 3)],(.seq (.ops false f143r0) (.seq (.ops false f143r1) (.seq (.block 0 (.loop [0,4,5] f143b0)) (.seq (.ops false f143r5) .ret))))⟩
def f144r0:List AOp:=[oQ 2 (.alloc 25) 0,
 oQ 3 (.assign (.const (.int .i64 0))) 3]
def f144r1:List AOp:=[oM 7 0 9,
 oQ 8 (.binOp .eql 9 (oT 7) (.const (.string { data:=#[] })) 9) 4,
 oM 9 8 4,
 oG 10 (.move (oT 0)) 9 9 false,
 oG 11 (.index 9 (oT 10) (.const (.int .i64 0))) 5 9 false,
 oG 12 (.call { callee:=(.value (.func 109)),args:=#[(.const (.string { data:=#[91,93,45] })),(oT 11)],argTypes:=#[9,5] }) 3 9 false,
 oG 13 (.binOp .geq 3 (oT 12) (.const (.int .i64 0)) 3) 4 9 false,
 oQ 14 (.pick (oT 9) (.const (.bool true)) (oT 13)) 4,
 oA 6 14 4]
def f144r2:List AOp:=[oQ 15 (.build 25 #[]) 25,
 oN (.store 25 (oT 2) (oT 15)) 0,
 oQ 3 (.assign (.const (.int .i64 0))) 3]
def f144r3:List AOp:=[oM 17 0 9,
 oQ 18 (.index 9 (oT 17) (.const (.int .i64 0))) 5,
 oQ 19 (.binOp .eql 5 (oT 18) (.const (.int .u8 92)) 5) 4,
 oA 16 19 4]
def f144r4:List AOp:=[oM 21 0 9,
 oQ 22 (.slice 9 (oT 21) (some (.const (.int .i64 1))) none none) 9,
 oQ 23 (cF 115 #[(oT 22)] #[9]) 174,
 oM 20 23 174,
 oQ 24 (.extract (oT 20) 0) 25,
 oQ 25 (.extract (oT 20) 1) 3,
 oQ 4 (.alloc 25) 0,
 oN (.store 25 (oT 4) (oT 24)) 0,
 oA 5 25 3]
def f144r5:List AOp:=[oM 26 5 3,
 oQ 27 (.binOp .eql 3 (oT 26) (.const (.int .i64 0)) 3) 4]
def f144r6:List AOp:=[oQ 28 (.build 25 #[]) 25,
 oN (.store 25 (oT 2) (oT 28)) 0,
 oQ 3 (.assign (.const (.int .i64 0))) 3]
def f144r7:List AOp:=[oQ 29 (.load 25 (oT 4)) 25,
 oM 30 5 3,
 oQ 31 (.binOp .add 3 (oT 30) (.const (.int .i64 1)) 3) 3,
 oN (.store 25 (oT 2) (oT 29)) 0,
 oA 3 31 3]
def f144r8:List AOp:=[oM 32 0 9,
 oQ 33 (.index 9 (oT 32) (.const (.int .i64 0))) 5,
 oQ 34 (cF 49 #[(oT 33)] #[5]) 25,
 oN (.store 25 (oT 2) (oT 34)) 0,
 oQ 3 (.assign (.const (.int .i64 1))) 3]
def f144:AFun:=⟨35,[(.cell 2 25),(.tmp 3)],(.seq (.ops false f144r0) (.seq (.block 0 (.seq (.ops false f144r1) (.cond (.tmp 6) (.seq (.ops false f144r2) .ret) (.seq (.ops false f144r3) (.cond (.tmp 16) (.seq (.ops false f144r4) (.seq (.seq (.ops false f144r5) (.cond (.tmp 27) (.seq (.ops false f144r6) .ret) .skip)) (.seq (.ops false f144r7) .ret))) .skip))))) (.seq (.ops false f144r8) .ret)))⟩
def f145r0:List AOp:=[oQ 4 (.alloc 25) 0]
def f145r1:List AOp:=[oQ 5 (.alloc 25) 0]
def f145r2:List AOp:=[oM 7 0 5,
 oQ 8 (.convert 5 3 (oT 7)) 3,
 oA 6 8 3]
def f145r3:List AOp:=[oM 9 6 3,
 oM 10 1 5,
 oQ 11 (.convert 5 3 (oT 10)) 3,
 oQ 12 (.binOp .leq 3 (oT 9) (oT 11) 3) 4]
def f145r5:List AOp:=[oM 15 6 3,
 oQ 16 (.convert 3 5 (oT 15)) 5,
 oQ 17 (cF 78 #[(oT 5),(oT 16)] #[25,5]) 0]
def f145r4:List AOp:=[oM 13 6 3,
 oQ 14 (.binOp .add 3 (oT 13) (.const (.int .i64 1)) 3) 3,
 oA 6 14 3]
def f145b0:AC:=(.seq (.seq (.ops false f145r3) (.cond (oT 12) .skip (.exit 0))) (.seq (.block 1 (.ops false f145r5)) (.ops false f145r4)))
def f145r6:List AOp:=[oQ 18 (.load 25 (oT 5)) 25,
 oN (.store 25 (oT 4) (oT 18)) 0]
def f145:AFun:=⟨19,[(.cell 4 25)],(.seq (.ops false f145r0) (.seq (.ops false f145r1) (.seq (.seq (.ops false f145r2) (.block 0 (.loop [1,4,5,6] f145b0))) (.seq (.ops false f145r6) .ret))))⟩
def f146r0:List AOp:=[oQ 0 (.alloc 25) 0]
def f146r1:List AOp:=[oQ 1 (cF 145 #[(.const (.int .u8 48)),(.const (.int .u8 57))] #[5,5]) 25,
 oN (.store 25 (oT 0) (oT 1)) 0]
def f146:AFun:=⟨2,[(.cell 0 25)],(.seq (.ops false f146r0) (.seq (.ops false f146r1) .ret))⟩
def f147r0:List AOp:=[oQ 0 (.alloc 25) 0]
def f147r1:List AOp:=[oQ 1 (cF 146 #[] #[]) 25,
 oQ 2 (cF 145 #[(.const (.int .u8 97)),(.const (.int .u8 122))] #[5,5]) 25,
 oQ 3 (cF 38 #[(oT 1),(oT 2)] #[25,25]) 25,
 oQ 4 (cF 145 #[(.const (.int .u8 65)),(.const (.int .u8 90))] #[5,5]) 25,
 oQ 5 (cF 38 #[(oT 3),(oT 4)] #[25,25]) 25,
 oQ 6 (cF 49 #[(.const (.int .u8 95))] #[5]) 25,
 oQ 7 (cF 38 #[(oT 5),(oT 6)] #[25,25]) 25,
 oN (.store 25 (oT 0) (oT 7)) 0]
def f147:AFun:=⟨8,[(.cell 0 25)],(.seq (.ops false f147r0) (.seq (.ops false f147r1) .ret))⟩
def f148r0:List AOp:=[oQ 0 (.alloc 25) 0]
def f148r1:List AOp:=[oQ 1 (cF 145 #[(.const (.int .u8 9)),(.const (.int .u8 13))] #[5,5]) 25,
 oQ 2 (cF 49 #[(.const (.int .u8 32))] #[5]) 25,
 oQ 3 (cF 38 #[(oT 1),(oT 2)] #[25,25]) 25,
 oN (.store 25 (oT 0) (oT 3)) 0]
def f148:AFun:=⟨4,[(.cell 0 25)],(.seq (.ops false f148r0) (.seq (.ops false f148r1) .ret))⟩
def f149r0:List AOp:=[oQ 2 (.assign (.const (.bool false))) 4]
def f149r1:List AOp:=[oM 3 0 5,
 oQ 4 (.binOp .neq 5 (oT 3) (.const (.int .u8 95)) 5) 4,
 oM 5 4 4,
 oG 6 (cF 147 #[] #[]) 25 5 true,
 oG 7 (.move (oT 0)) 5 5 true,
 oG 8 (cF 35 #[(oT 6),(oT 7)] #[25,5]) 4 5 true,
 oQ 9 (.pick (oT 5) (oT 8) (.const (.bool false))) 4,
 oA 2 9 4]
def f149:AFun:=⟨10,[(.tmp 2)],(.seq (.ops false f149r0) (.seq (.ops false f149r1) .ret))⟩
def f152r0:List AOp:=[oQ 2 (.assign (.const (.int .i64 0))) 3]
def f152r1:List AOp:=[oM 3 0 22,
 oQ 4 (.binOp .eql 22 (oT 3) (.const (.int .u64 0)) 22) 4]
def f152r2:List AOp:=[oQ 2 (.assign (.const (.int .i64 64))) 3]
def f152r3:List AOp:=[oM 5 0 22,
 oM 6 0 22,
 oQ 7 (.unOp .neg 22 (oT 6)) 22,
 oQ 8 (.binOp .and 22 (oT 5) (oT 7) 22) 22,
 oQ 9 (.binOp .mul 22 (oT 8) (.const (.int .u64 285870213051353865)) 22) 22,
 oQ 10 (.binOp .shr 22 (oT 9) (.const (.int .u64 58)) 167) 22,
 oQ 11 (.indexAddr 206 (.global 1) (oT 10)) 0,
 oQ 12 (.load 5 (oT 11)) 5,
 oQ 13 (.convert 5 3 (oT 12)) 3,
 oA 2 13 3]
def f152:AFun:=⟨14,[(.tmp 2)],(.seq (.ops false f152r0) (.seq (.seq (.ops false f152r1) (.cond (.tmp 4) (.seq (.ops false f152r2) .ret) .skip)) (.seq (.ops false f152r3) .ret)))⟩
def f154r0:List AOp:=[oM 10 1 3,
 oQ 11 (.binOp .add 3 (oT 10) (.const (.int .i64 1)) 3) 3,
 oA 8 11 3]
def f154r1:List AOp:=[oM 12 8 3,
 oM 13 2 3,
 oQ 14 (.binOp .lss 3 (oT 12) (oT 13) 3) 4]
def f154r3:List AOp:=[oM 17 8 3,
 oA 9 17 3]
def f154r4:List AOp:=[oM 18 9 3,
 oM 19 1 3,
 oQ 20 (.binOp .gtr 3 (oT 18) (oT 19) 3) 4,
 oM 21 20 4,
 oG 22 (.move (oT 3)) 151 21 true,
 oG 23 (.move (oT 0)) 100 21 true,
 oG 24 (.move (oT 9)) 3 21 true,
 oG 25 (.indexAddr 100 (oT 23) (oT 24)) 0 21 true,
 oG 26 (.load 3 (oT 25)) 3 21 true,
 oG 27 (.move (oT 0)) 100 21 true,
 oG 28 (.move (oT 9)) 3 21 true,
 oG 29 (.binOp .sub 3 (oT 28) (.const (.int .i64 1)) 3) 3 21 true,
 oG 30 (.indexAddr 100 (oT 27) (oT 29)) 0 21 true,
 oG 31 (.load 3 (oT 30)) 3 21 true,
 oG 32 (.call { callee:=(.value (oT 22)),args:=#[(oT 26),(oT 31)],argTypes:=#[3,3] }) 3 21 true,
 oG 33 (.binOp .lss 3 (oT 32) (.const (.int .i64 0)) 3) 4 21 true,
 oQ 34 (.pick (oT 21) (oT 33) (.const (.bool false))) 4]
def f154r6:List AOp:=[oM 37 0 100,
 oM 38 9 3,
 oM 39 0 100,
 oM 40 9 3,
 oQ 41 (.binOp .sub 3 (oT 40) (.const (.int .i64 1)) 3) 3,
 oM 42 0 100,
 oM 43 9 3,
 oQ 44 (.binOp .sub 3 (oT 43) (.const (.int .i64 1)) 3) 3,
 oQ 45 (.indexAddr 100 (oT 42) (oT 44)) 0,
 oQ 46 (.load 3 (oT 45)) 3,
 oM 47 0 100,
 oM 48 9 3,
 oQ 49 (.indexAddr 100 (oT 47) (oT 48)) 0,
 oQ 50 (.load 3 (oT 49)) 3,
 oQ 51 (.indexAddr 100 (oT 37) (oT 38)) 0,
 oN (.store 3 (oT 51) (oT 46)) 0,
 oQ 52 (.indexAddr 100 (oT 39) (oT 41)) 0,
 oN (.store 3 (oT 52) (oT 50)) 0]
def f154r5:List AOp:=[oM 35 9 3,
 oQ 36 (.binOp .sub 3 (oT 35) (.const (.int .i64 1)) 3) 3,
 oA 9 36 3]
def f154b0:AC:=(.seq (.seq (.ops true f154r4) (.cond (oT 34) .skip (.exit 2))) (.seq (.block 3 (.ops true f154r6)) (.ops false f154r5)))
def f154r2:List AOp:=[oM 15 8 3,
 oQ 16 (.binOp .add 3 (oT 15) (.const (.int .i64 1)) 3) 3,
 oA 8 16 3]
def f154b1:AC:=(.seq (.seq (.ops false f154r1) (.cond (oT 14) .skip (.exit 0))) (.seq (.block 1 (.seq (.ops false f154r3) (.block 2 (.loop [0,1,2,3,8,9] f154b0)))) (.ops false f154r2)))
def f154:AFun:=⟨53,[],(.seq (.ops false f154r0) (.block 0 (.loop [0,1,2,3,8] f154b1)))⟩
def f155r0:List AOp:=[oM 13 1 3,
 oA 8 13 3]
def f155r1:List AOp:=[oQ 9 (.assign (.const (.int .i64 0))) 3]
def f155r2:List AOp:=[oM 14 2 3,
 oM 15 1 3,
 oQ 16 (.binOp .sub 3 (oT 14) (oT 15) 3) 3,
 oA 10 16 3]
def f155r3:List AOp:=[oM 17 10 3,
 oQ 18 (.binOp .sub 3 (oT 17) (.const (.int .i64 1)) 3) 3,
 oQ 19 (.binOp .quo 3 (oT 18) (.const (.int .i64 2)) 3) 3,
 oA 11 19 3]
def f155r4:List AOp:=[oM 20 11 3,
 oQ 21 (.binOp .geq 3 (oT 20) (.const (.int .i64 0)) 3) 4]
def f155r6:List AOp:=[oM 24 0 100,
 oM 25 11 3,
 oM 26 10 3,
 oM 27 8 3,
 oM 28 3 151,
 oQ 29 (cF 170 #[(oT 24),(oT 25),(oT 26),(oT 27),(oT 28)] #[100,3,3,3,151]) 0]
def f155r5:List AOp:=[oM 22 11 3,
 oQ 23 (.binOp .sub 3 (oT 22) (.const (.int .i64 1)) 3) 3,
 oA 11 23 3]
def f155b0:AC:=(.seq (.seq (.ops false f155r4) (.cond (oT 21) .skip (.exit 0))) (.seq (.block 1 (.ops false f155r6)) (.ops false f155r5)))
def f155r7:List AOp:=[oM 30 10 3,
 oQ 31 (.binOp .sub 3 (oT 30) (.const (.int .i64 1)) 3) 3,
 oA 12 31 3]
def f155r8:List AOp:=[oM 32 12 3,
 oQ 33 (.binOp .geq 3 (oT 32) (.const (.int .i64 0)) 3) 4]
def f155r10:List AOp:=[oM 36 0 100,
 oM 37 8 3,
 oM 38 0 100,
 oM 39 8 3,
 oM 40 12 3,
 oQ 41 (.binOp .add 3 (oT 39) (oT 40) 3) 3,
 oM 42 0 100,
 oM 43 8 3,
 oM 44 12 3,
 oQ 45 (.binOp .add 3 (oT 43) (oT 44) 3) 3,
 oQ 46 (.indexAddr 100 (oT 42) (oT 45)) 0,
 oQ 47 (.load 3 (oT 46)) 3,
 oM 48 0 100,
 oM 49 8 3,
 oQ 50 (.indexAddr 100 (oT 48) (oT 49)) 0,
 oQ 51 (.load 3 (oT 50)) 3,
 oQ 52 (.indexAddr 100 (oT 36) (oT 37)) 0,
 oN (.store 3 (oT 52) (oT 47)) 0,
 oQ 53 (.indexAddr 100 (oT 38) (oT 41)) 0,
 oN (.store 3 (oT 53) (oT 51)) 0]
def f155r11:List AOp:=[oM 54 0 100,
 oM 55 9 3,
 oM 56 12 3,
 oM 57 8 3,
 oM 58 3 151,
 oQ 59 (cF 170 #[(oT 54),(oT 55),(oT 56),(oT 57),(oT 58)] #[100,3,3,3,151]) 0]
def f155r9:List AOp:=[oM 34 12 3,
 oQ 35 (.binOp .sub 3 (oT 34) (.const (.int .i64 1)) 3) 3,
 oA 12 35 3]
def f155b1:AC:=(.seq (.seq (.ops false f155r8) (.cond (oT 33) .skip (.exit 2))) (.seq (.block 3 (.seq (.ops true f155r10) (.ops false f155r11))) (.ops false f155r9)))
def f155:AFun:=⟨60,[],(.seq (.ops false f155r0) (.seq (.ops false f155r1) (.seq (.ops false f155r2) (.seq (.seq (.ops false f155r3) (.block 0 (.loop [0,3,8,9,10,11] f155b0))) (.seq (.ops false f155r7) (.block 2 (.loop [0,3,8,9,12] f155b1)))))))⟩
def f156r0:List AOp:=[oM 13 2 3,
 oM 14 1 3,
 oQ 15 (.binOp .sub 3 (oT 13) (oT 14) 3) 3,
 oA 8 15 3]
def f156r1:List AOp:=[oM 16 8 3,
 oQ 17 (.binOp .geq 3 (oT 16) (.const (.int .i64 8)) 3) 4]
def f156r2:List AOp:=[oM 18 8 3,
 oQ 19 (.convert 3 207 (oT 18)) 207,
 oQ 9 (.alloc 207) 0,
 oN (.store 207 (oT 9) (oT 19)) 0]
def f156r3:List AOp:=[oM 20 8 3,
 oQ 21 (cF 171 #[(oT 20)] #[3]) 167,
 oA 10 21 167]
def f156r4:List AOp:=[oM 22 1 3,
 oM 23 8 3,
 oQ 24 (.binOp .quo 3 (oT 23) (.const (.int .i64 4)) 3) 3,
 oQ 25 (.binOp .mul 3 (oT 24) (.const (.int .i64 2)) 3) 3,
 oQ 26 (.binOp .add 3 (oT 22) (oT 25) 3) 3,
 oQ 27 (.binOp .sub 3 (oT 26) (.const (.int .i64 1)) 3) 3,
 oA 11 27 3]
def f156r5:List AOp:=[oM 28 11 3,
 oM 29 1 3,
 oM 30 8 3,
 oQ 31 (.binOp .quo 3 (oT 30) (.const (.int .i64 4)) 3) 3,
 oQ 32 (.binOp .mul 3 (oT 31) (.const (.int .i64 2)) 3) 3,
 oQ 33 (.binOp .add 3 (oT 29) (oT 32) 3) 3,
 oQ 34 (.binOp .add 3 (oT 33) (.const (.int .i64 1)) 3) 3,
 oQ 35 (.binOp .leq 3 (oT 28) (oT 34) 3) 4]
def f156r7:List AOp:=[oQ 38 (cF 172 #[(oT 9)] #[207]) 22,
 oM 39 10 167,
 oQ 40 (.binOp .sub 167 (oT 39) (.const (.int .u64 1)) 167) 167,
 oQ 41 (.binOp .and 167 (oT 38) (oT 40) 167) 167,
 oQ 42 (.convert 167 3 (oT 41)) 3,
 oA 12 42 3]
def f156r8:List AOp:=[oM 43 12 3,
 oM 44 8 3,
 oQ 45 (.binOp .geq 3 (oT 43) (oT 44) 3) 4]
def f156r9:List AOp:=[oM 46 12 3,
 oM 47 8 3,
 oQ 48 (.binOp .sub 3 (oT 46) (oT 47) 3) 3,
 oA 12 48 3]
def f156r10:List AOp:=[oM 49 0 100,
 oM 50 11 3,
 oM 51 0 100,
 oM 52 1 3,
 oM 53 12 3,
 oQ 54 (.binOp .add 3 (oT 52) (oT 53) 3) 3,
 oM 55 0 100,
 oM 56 1 3,
 oM 57 12 3,
 oQ 58 (.binOp .add 3 (oT 56) (oT 57) 3) 3,
 oQ 59 (.indexAddr 100 (oT 55) (oT 58)) 0,
 oQ 60 (.load 3 (oT 59)) 3,
 oM 61 0 100,
 oM 62 11 3,
 oQ 63 (.indexAddr 100 (oT 61) (oT 62)) 0,
 oQ 64 (.load 3 (oT 63)) 3,
 oQ 65 (.indexAddr 100 (oT 49) (oT 50)) 0,
 oN (.store 3 (oT 65) (oT 60)) 0,
 oQ 66 (.indexAddr 100 (oT 51) (oT 54)) 0,
 oN (.store 3 (oT 66) (oT 64)) 0]
def f156r6:List AOp:=[oM 36 11 3,
 oQ 37 (.binOp .add 3 (oT 36) (.const (.int .i64 1)) 3) 3,
 oA 11 37 3]
def f156b0:AC:=(.seq (.seq (.ops false f156r5) (.cond (oT 35) .skip (.exit 0))) (.seq (.block 1 (.seq (.ops false f156r7) (.seq (.seq (.ops false f156r8) (.cond (oT 45) (.ops false f156r9) .skip)) (.ops true f156r10)))) (.ops false f156r6)))
def f156:AFun:=⟨67,[],(.seq (.ops false f156r0) (.seq (.ops false f156r1) (.cond (.tmp 17) (.seq (.ops false f156r2) (.seq (.ops false f156r3) (.seq (.ops false f156r4) (.block 0 (.loop [0,1,8,9,10,11] f156b0))))) .skip)))⟩
def f157r0:List AOp:=[oQ 8 (.assign (.const (.int .i64 0))) 3,
 oQ 9 (.assign (.const (.int .i64 0))) 196]
def f157r1:List AOp:=[oM 15 2 3,
 oM 16 1 3,
 oQ 17 (.binOp .sub 3 (oT 15) (oT 16) 3) 3,
 oA 10 17 3]
def f157r2:List AOp:=[oQ 11 (.alloc 3) 0]
def f157r3:List AOp:=[oM 18 1 3,
 oM 19 10 3,
 oQ 20 (.binOp .quo 3 (oT 19) (.const (.int .i64 4)) 3) 3,
 oQ 21 (.binOp .mul 3 (oT 20) (.const (.int .i64 1)) 3) 3,
 oQ 22 (.binOp .add 3 (oT 18) (oT 21) 3) 3,
 oA 12 22 3]
def f157r4:List AOp:=[oM 23 1 3,
 oM 24 10 3,
 oQ 25 (.binOp .quo 3 (oT 24) (.const (.int .i64 4)) 3) 3,
 oQ 26 (.binOp .mul 3 (oT 25) (.const (.int .i64 2)) 3) 3,
 oQ 27 (.binOp .add 3 (oT 23) (oT 26) 3) 3,
 oA 13 27 3]
def f157r5:List AOp:=[oM 28 1 3,
 oM 29 10 3,
 oQ 30 (.binOp .quo 3 (oT 29) (.const (.int .i64 4)) 3) 3,
 oQ 31 (.binOp .mul 3 (oT 30) (.const (.int .i64 3)) 3) 3,
 oQ 32 (.binOp .add 3 (oT 28) (oT 31) 3) 3,
 oA 14 32 3]
def f157r6:List AOp:=[oM 33 10 3,
 oQ 34 (.binOp .geq 3 (oT 33) (.const (.int .i64 8)) 3) 4]
def f157r7:List AOp:=[oM 35 10 3,
 oQ 36 (.binOp .geq 3 (oT 35) (.const (.int .i64 50)) 3) 4]
def f157r8:List AOp:=[oM 37 0 100,
 oM 38 12 3,
 oM 39 3 151,
 oQ 40 (cF 173 #[(oT 37),(oT 38),(oT 11),(oT 39)] #[100,3,211,151]) 3,
 oA 12 40 3]
def f157r9:List AOp:=[oM 41 0 100,
 oM 42 13 3,
 oM 43 3 151,
 oQ 44 (cF 173 #[(oT 41),(oT 42),(oT 11),(oT 43)] #[100,3,211,151]) 3,
 oA 13 44 3]
def f157r10:List AOp:=[oM 45 0 100,
 oM 46 14 3,
 oM 47 3 151,
 oQ 48 (cF 173 #[(oT 45),(oT 46),(oT 11),(oT 47)] #[100,3,211,151]) 3,
 oA 14 48 3]
def f157r11:List AOp:=[oM 49 0 100,
 oM 50 12 3,
 oM 51 13 3,
 oM 52 14 3,
 oM 53 3 151,
 oQ 54 (cF 174 #[(oT 49),(oT 50),(oT 51),(oT 52),(oT 11),(oT 53)] #[100,3,3,3,211,151]) 3,
 oA 13 54 3]
def f157r12:List AOp:=[oQ 55 (.load 3 (oT 11)) 3]
def f157r14:List AOp:=[oQ 58 (.binOp .eql 3 (oT 55) (.const (.int .i64 0)) 3) 4,
 oA 57 58 4]
def f157r15:List AOp:=[oM 59 13 3,
 oA 8 59 3,
 oQ 9 (.assign (.const (.int .i64 1))) 196]
def f157r16:List AOp:=[oQ 61 (.binOp .eql 3 (oT 55) (.const (.int .i64 12)) 3) 4,
 oA 60 61 4]
def f157r17:List AOp:=[oM 62 13 3,
 oA 8 62 3,
 oQ 9 (.assign (.const (.int .i64 2))) 196]
def f157r13:List AOp:=[oM 56 13 3,
 oA 8 56 3,
 oQ 9 (.assign (.const (.int .i64 0))) 196]
def f157:AFun:=⟨63,[(.tmp 8),(.tmp 9)],(.seq (.ops false f157r0) (.seq (.ops false f157r1) (.seq (.ops false f157r2) (.seq (.ops false f157r3) (.seq (.ops false f157r4) (.seq (.ops false f157r5) (.seq (.seq (.ops false f157r6) (.cond (.tmp 34) (.seq (.seq (.ops false f157r7) (.cond (.tmp 36) (.seq (.ops false f157r8) (.seq (.ops false f157r9) (.ops false f157r10))) .skip)) (.ops false f157r11)) .skip)) (.seq (.ops false f157r12) (.block 0 (.seq (.ops false f157r14) (.cond (.tmp 57) (.seq (.ops false f157r15) .ret) (.seq (.ops false f157r16) (.cond (.tmp 60) (.seq (.ops false f157r17) .ret) (.seq (.ops false f157r13) .ret))))))))))))))⟩
def f158r0:List AOp:=[oM 10 1 3,
 oA 8 10 3]
def f158r1:List AOp:=[oM 11 2 3,
 oQ 12 (.binOp .sub 3 (oT 11) (.const (.int .i64 1)) 3) 3,
 oA 9 12 3]
def f158r2:List AOp:=[oM 13 8 3,
 oM 14 9 3,
 oQ 15 (.binOp .lss 3 (oT 13) (oT 14) 3) 4]
def f158r3:List AOp:=[oM 16 0 100,
 oM 17 8 3,
 oM 18 0 100,
 oM 19 9 3,
 oM 20 0 100,
 oM 21 9 3,
 oQ 22 (.indexAddr 100 (oT 20) (oT 21)) 0,
 oQ 23 (.load 3 (oT 22)) 3,
 oM 24 0 100,
 oM 25 8 3,
 oQ 26 (.indexAddr 100 (oT 24) (oT 25)) 0,
 oQ 27 (.load 3 (oT 26)) 3,
 oQ 28 (.indexAddr 100 (oT 16) (oT 17)) 0,
 oN (.store 3 (oT 28) (oT 23)) 0,
 oQ 29 (.indexAddr 100 (oT 18) (oT 19)) 0,
 oN (.store 3 (oT 29) (oT 27)) 0]
def f158r4:List AOp:=[oM 30 8 3,
 oQ 31 (.binOp .add 3 (oT 30) (.const (.int .i64 1)) 3) 3,
 oA 8 31 3]
def f158r5:List AOp:=[oM 32 9 3,
 oQ 33 (.binOp .sub 3 (oT 32) (.const (.int .i64 1)) 3) 3,
 oA 9 33 3]
def f158b0:AC:=(.seq (.seq (.ops false f158r2) (.cond (oT 15) .skip (.exit 0))) (.block 1 (.seq (.ops true f158r3) (.seq (.ops false f158r4) (.ops false f158r5)))))
def f158:AFun:=⟨34,[],(.seq (.ops false f158r0) (.seq (.ops false f158r1) (.block 0 (.loop [0,8,9] f158b0))))⟩
def f159r0:List AOp:=[oQ 8 (.assign (.const (.bool false))) 4]
def f159r1:List AOp:=[oM 13 1 3,
 oQ 14 (.binOp .add 3 (oT 13) (.const (.int .i64 1)) 3) 3,
 oA 9 14 3]
def f159r2:List AOp:=[oQ 10 (.assign (.const (.int .i64 0))) 3]
def f159r3:List AOp:=[oM 15 10 3,
 oQ 16 (.binOp .lss 3 (oT 15) (.const (.int .i64 5)) 3) 4]
def f159r5:List AOp:=[oM 19 9 3,
 oM 20 2 3,
 oQ 21 (.binOp .lss 3 (oT 19) (oT 20) 3) 4,
 oM 22 21 4,
 oG 23 (.move (oT 3)) 151 22 true,
 oG 24 (.move (oT 0)) 100 22 true,
 oG 25 (.move (oT 9)) 3 22 true,
 oG 26 (.indexAddr 100 (oT 24) (oT 25)) 0 22 true,
 oG 27 (.load 3 (oT 26)) 3 22 true,
 oG 28 (.move (oT 0)) 100 22 true,
 oG 29 (.move (oT 9)) 3 22 true,
 oG 30 (.binOp .sub 3 (oT 29) (.const (.int .i64 1)) 3) 3 22 true,
 oG 31 (.indexAddr 100 (oT 28) (oT 30)) 0 22 true,
 oG 32 (.load 3 (oT 31)) 3 22 true,
 oG 33 (.call { callee:=(.value (oT 23)),args:=#[(oT 27),(oT 32)],argTypes:=#[3,3] }) 3 22 true,
 oG 34 (.binOp .lss 3 (oT 33) (.const (.int .i64 0)) 3) 4 22 true,
 oG 35 (.unOp .not 4 (oT 34)) 4 22 true,
 oQ 36 (.pick (oT 22) (oT 35) (.const (.bool false))) 4]
def f159r6:List AOp:=[oM 37 9 3,
 oQ 38 (.binOp .add 3 (oT 37) (.const (.int .i64 1)) 3) 3,
 oA 9 38 3]
def f159b0:AC:=(.seq (.seq (.ops true f159r5) (.cond (oT 36) .skip (.exit 2))) (.block 3 (.ops false f159r6)))
def f159r7:List AOp:=[oM 39 9 3,
 oM 40 2 3,
 oQ 41 (.binOp .eql 3 (oT 39) (oT 40) 3) 4]
def f159r8:List AOp:=[oQ 8 (.assign (.const (.bool true))) 4]
def f159r9:List AOp:=[oM 42 2 3,
 oM 43 1 3,
 oQ 44 (.binOp .sub 3 (oT 42) (oT 43) 3) 3,
 oQ 45 (.binOp .lss 3 (oT 44) (.const (.int .i64 50)) 3) 4]
def f159r10:List AOp:=[oQ 8 (.assign (.const (.bool false))) 4]
def f159r11:List AOp:=[oM 46 0 100,
 oM 47 9 3,
 oM 48 0 100,
 oM 49 9 3,
 oQ 50 (.binOp .sub 3 (oT 49) (.const (.int .i64 1)) 3) 3,
 oM 51 0 100,
 oM 52 9 3,
 oQ 53 (.binOp .sub 3 (oT 52) (.const (.int .i64 1)) 3) 3,
 oQ 54 (.indexAddr 100 (oT 51) (oT 53)) 0,
 oQ 55 (.load 3 (oT 54)) 3,
 oM 56 0 100,
 oM 57 9 3,
 oQ 58 (.indexAddr 100 (oT 56) (oT 57)) 0,
 oQ 59 (.load 3 (oT 58)) 3,
 oQ 60 (.indexAddr 100 (oT 46) (oT 47)) 0,
 oN (.store 3 (oT 60) (oT 55)) 0,
 oQ 61 (.indexAddr 100 (oT 48) (oT 50)) 0,
 oN (.store 3 (oT 61) (oT 59)) 0]
def f159r12:List AOp:=[oM 62 9 3,
 oM 63 1 3,
 oQ 64 (.binOp .sub 3 (oT 62) (oT 63) 3) 3,
 oQ 65 (.binOp .geq 3 (oT 64) (.const (.int .i64 2)) 3) 4]
def f159r13:List AOp:=[oM 66 9 3,
 oQ 67 (.binOp .sub 3 (oT 66) (.const (.int .i64 1)) 3) 3,
 oA 11 67 3]
def f159r14:List AOp:=[oM 68 11 3,
 oQ 69 (.binOp .geq 3 (oT 68) (.const (.int .i64 1)) 3) 4]
def f159r16:List AOp:=[oM 72 3 151,
 oM 73 0 100,
 oM 74 11 3,
 oQ 75 (.indexAddr 100 (oT 73) (oT 74)) 0,
 oQ 76 (.load 3 (oT 75)) 3,
 oM 77 0 100,
 oM 78 11 3,
 oQ 79 (.binOp .sub 3 (oT 78) (.const (.int .i64 1)) 3) 3,
 oQ 80 (.indexAddr 100 (oT 77) (oT 79)) 0,
 oQ 81 (.load 3 (oT 80)) 3,
 oQ 82 (.call { callee:=(.value (oT 72)),args:=#[(oT 76),(oT 81)],argTypes:=#[3,3] }) 3,
 oQ 83 (.binOp .lss 3 (oT 82) (.const (.int .i64 0)) 3) 4,
 oQ 84 (.unOp .not 4 (oT 83)) 4]
def f159r17:List AOp:=[oM 85 0 100,
 oM 86 11 3,
 oM 87 0 100,
 oM 88 11 3,
 oQ 89 (.binOp .sub 3 (oT 88) (.const (.int .i64 1)) 3) 3,
 oM 90 0 100,
 oM 91 11 3,
 oQ 92 (.binOp .sub 3 (oT 91) (.const (.int .i64 1)) 3) 3,
 oQ 93 (.indexAddr 100 (oT 90) (oT 92)) 0,
 oQ 94 (.load 3 (oT 93)) 3,
 oM 95 0 100,
 oM 96 11 3,
 oQ 97 (.indexAddr 100 (oT 95) (oT 96)) 0,
 oQ 98 (.load 3 (oT 97)) 3,
 oQ 99 (.indexAddr 100 (oT 85) (oT 86)) 0,
 oN (.store 3 (oT 99) (oT 94)) 0,
 oQ 100 (.indexAddr 100 (oT 87) (oT 89)) 0,
 oN (.store 3 (oT 100) (oT 98)) 0]
def f159r15:List AOp:=[oM 70 11 3,
 oQ 71 (.binOp .sub 3 (oT 70) (.const (.int .i64 1)) 3) 3,
 oA 11 71 3]
def f159b1:AC:=(.seq (.seq (.ops false f159r14) (.cond (oT 69) .skip (.exit 4))) (.seq (.block 5 (.seq (.seq (.ops true f159r16) (.cond (oT 84) (.exit 4) .skip)) (.ops true f159r17))) (.ops false f159r15)))
def f159r18:List AOp:=[oM 101 2 3,
 oM 102 9 3,
 oQ 103 (.binOp .sub 3 (oT 101) (oT 102) 3) 3,
 oQ 104 (.binOp .geq 3 (oT 103) (.const (.int .i64 2)) 3) 4]
def f159r19:List AOp:=[oM 105 9 3,
 oQ 106 (.binOp .add 3 (oT 105) (.const (.int .i64 1)) 3) 3,
 oA 12 106 3]
def f159r20:List AOp:=[oM 107 12 3,
 oM 108 2 3,
 oQ 109 (.binOp .lss 3 (oT 107) (oT 108) 3) 4]
def f159r22:List AOp:=[oM 112 3 151,
 oM 113 0 100,
 oM 114 12 3,
 oQ 115 (.indexAddr 100 (oT 113) (oT 114)) 0,
 oQ 116 (.load 3 (oT 115)) 3,
 oM 117 0 100,
 oM 118 12 3,
 oQ 119 (.binOp .sub 3 (oT 118) (.const (.int .i64 1)) 3) 3,
 oQ 120 (.indexAddr 100 (oT 117) (oT 119)) 0,
 oQ 121 (.load 3 (oT 120)) 3,
 oQ 122 (.call { callee:=(.value (oT 112)),args:=#[(oT 116),(oT 121)],argTypes:=#[3,3] }) 3,
 oQ 123 (.binOp .lss 3 (oT 122) (.const (.int .i64 0)) 3) 4,
 oQ 124 (.unOp .not 4 (oT 123)) 4]
def f159r23:List AOp:=[oM 125 0 100,
 oM 126 12 3,
 oM 127 0 100,
 oM 128 12 3,
 oQ 129 (.binOp .sub 3 (oT 128) (.const (.int .i64 1)) 3) 3,
 oM 130 0 100,
 oM 131 12 3,
 oQ 132 (.binOp .sub 3 (oT 131) (.const (.int .i64 1)) 3) 3,
 oQ 133 (.indexAddr 100 (oT 130) (oT 132)) 0,
 oQ 134 (.load 3 (oT 133)) 3,
 oM 135 0 100,
 oM 136 12 3,
 oQ 137 (.indexAddr 100 (oT 135) (oT 136)) 0,
 oQ 138 (.load 3 (oT 137)) 3,
 oQ 139 (.indexAddr 100 (oT 125) (oT 126)) 0,
 oN (.store 3 (oT 139) (oT 134)) 0,
 oQ 140 (.indexAddr 100 (oT 127) (oT 129)) 0,
 oN (.store 3 (oT 140) (oT 138)) 0]
def f159r21:List AOp:=[oM 110 12 3,
 oQ 111 (.binOp .add 3 (oT 110) (.const (.int .i64 1)) 3) 3,
 oA 12 111 3]
def f159b2:AC:=(.seq (.seq (.ops false f159r20) (.cond (oT 109) .skip (.exit 6))) (.seq (.block 7 (.seq (.seq (.ops true f159r22) (.cond (oT 124) (.exit 6) .skip)) (.ops true f159r23))) (.ops false f159r21)))
def f159r4:List AOp:=[oM 17 10 3,
 oQ 18 (.binOp .add 3 (oT 17) (.const (.int .i64 1)) 3) 3,
 oA 10 18 3]
def f159b3:AC:=(.seq (.seq (.ops false f159r3) (.cond (oT 16) .skip (.exit 0))) (.seq (.block 1 (.seq (.block 2 (.loop [0,1,2,3,9,10] f159b0)) (.seq (.seq (.ops false f159r7) (.cond (oT 41) (.seq (.ops false f159r8) .ret) .skip)) (.seq (.seq (.ops false f159r9) (.cond (oT 45) (.seq (.ops false f159r10) .ret) .skip)) (.seq (.ops true f159r11) (.seq (.seq (.ops false f159r12) (.cond (oT 65) (.seq (.ops false f159r13) (.block 4 (.loop [0,1,2,3,9,10,11] f159b1))) .skip)) (.seq (.ops false f159r18) (.cond (oT 104) (.seq (.ops false f159r19) (.block 6 (.loop [0,1,2,3,9,10,12] f159b2))) .skip)))))))) (.ops false f159r4)))
def f159r24:List AOp:=[oQ 8 (.assign (.const (.bool false))) 4]
def f159:AFun:=⟨141,[(.tmp 8)],(.seq (.ops false f159r0) (.seq (.ops false f159r1) (.seq (.seq (.ops false f159r2) (.block 0 (.loop [0,1,2,3,9,10] f159b3))) (.seq (.ops false f159r24) .ret))))⟩
def f160r0:List AOp:=[oQ 10 (.assign (.const (.int .i64 0))) 3]
def f160r1:List AOp:=[oM 13 0 100,
 oM 14 1 3,
 oM 15 0 100,
 oM 16 3 3,
 oM 17 0 100,
 oM 18 3 3,
 oQ 19 (.indexAddr 100 (oT 17) (oT 18)) 0,
 oQ 20 (.load 3 (oT 19)) 3,
 oM 21 0 100,
 oM 22 1 3,
 oQ 23 (.indexAddr 100 (oT 21) (oT 22)) 0,
 oQ 24 (.load 3 (oT 23)) 3,
 oQ 25 (.indexAddr 100 (oT 13) (oT 14)) 0,
 oN (.store 3 (oT 25) (oT 20)) 0,
 oQ 26 (.indexAddr 100 (oT 15) (oT 16)) 0,
 oN (.store 3 (oT 26) (oT 24)) 0]
def f160r2:List AOp:=[oM 27 1 3,
 oQ 28 (.binOp .add 3 (oT 27) (.const (.int .i64 1)) 3) 3,
 oM 29 2 3,
 oQ 30 (.binOp .sub 3 (oT 29) (.const (.int .i64 1)) 3) 3,
 oA 11 28 3,
 oA 12 30 3]
def f160r3:List AOp:=[oM 31 11 3,
 oM 32 12 3,
 oQ 33 (.binOp .leq 3 (oT 31) (oT 32) 3) 4,
 oM 34 33 4,
 oG 35 (.move (oT 4)) 151 34 true,
 oG 36 (.move (oT 0)) 100 34 true,
 oG 37 (.move (oT 1)) 3 34 true,
 oG 38 (.indexAddr 100 (oT 36) (oT 37)) 0 34 true,
 oG 39 (.load 3 (oT 38)) 3 34 true,
 oG 40 (.move (oT 0)) 100 34 true,
 oG 41 (.move (oT 11)) 3 34 true,
 oG 42 (.indexAddr 100 (oT 40) (oT 41)) 0 34 true,
 oG 43 (.load 3 (oT 42)) 3 34 true,
 oG 44 (.call { callee:=(.value (oT 35)),args:=#[(oT 39),(oT 43)],argTypes:=#[3,3] }) 3 34 true,
 oG 45 (.binOp .lss 3 (oT 44) (.const (.int .i64 0)) 3) 4 34 true,
 oG 46 (.unOp .not 4 (oT 45)) 4 34 true,
 oQ 47 (.pick (oT 34) (oT 46) (.const (.bool false))) 4]
def f160r4:List AOp:=[oM 48 11 3,
 oQ 49 (.binOp .add 3 (oT 48) (.const (.int .i64 1)) 3) 3,
 oA 11 49 3]
def f160b0:AC:=(.seq (.seq (.ops true f160r3) (.cond (oT 47) .skip (.exit 2))) (.block 3 (.ops false f160r4)))
def f160r5:List AOp:=[oM 50 11 3,
 oM 51 12 3,
 oQ 52 (.binOp .leq 3 (oT 50) (oT 51) 3) 4,
 oM 53 52 4,
 oG 54 (.move (oT 4)) 151 53 true,
 oG 55 (.move (oT 0)) 100 53 true,
 oG 56 (.move (oT 1)) 3 53 true,
 oG 57 (.indexAddr 100 (oT 55) (oT 56)) 0 53 true,
 oG 58 (.load 3 (oT 57)) 3 53 true,
 oG 59 (.move (oT 0)) 100 53 true,
 oG 60 (.move (oT 12)) 3 53 true,
 oG 61 (.indexAddr 100 (oT 59) (oT 60)) 0 53 true,
 oG 62 (.load 3 (oT 61)) 3 53 true,
 oG 63 (.call { callee:=(.value (oT 54)),args:=#[(oT 58),(oT 62)],argTypes:=#[3,3] }) 3 53 true,
 oG 64 (.binOp .lss 3 (oT 63) (.const (.int .i64 0)) 3) 4 53 true,
 oQ 65 (.pick (oT 53) (oT 64) (.const (.bool false))) 4]
def f160r6:List AOp:=[oM 66 12 3,
 oQ 67 (.binOp .sub 3 (oT 66) (.const (.int .i64 1)) 3) 3,
 oA 12 67 3]
def f160b1:AC:=(.seq (.seq (.ops true f160r5) (.cond (oT 65) .skip (.exit 4))) (.block 5 (.ops false f160r6)))
def f160r7:List AOp:=[oM 68 11 3,
 oM 69 12 3,
 oQ 70 (.binOp .gtr 3 (oT 68) (oT 69) 3) 4]
def f160r8:List AOp:=[oM 71 0 100,
 oM 72 11 3,
 oM 73 0 100,
 oM 74 12 3,
 oM 75 0 100,
 oM 76 12 3,
 oQ 77 (.indexAddr 100 (oT 75) (oT 76)) 0,
 oQ 78 (.load 3 (oT 77)) 3,
 oM 79 0 100,
 oM 80 11 3,
 oQ 81 (.indexAddr 100 (oT 79) (oT 80)) 0,
 oQ 82 (.load 3 (oT 81)) 3,
 oQ 83 (.indexAddr 100 (oT 71) (oT 72)) 0,
 oN (.store 3 (oT 83) (oT 78)) 0,
 oQ 84 (.indexAddr 100 (oT 73) (oT 74)) 0,
 oN (.store 3 (oT 84) (oT 82)) 0]
def f160r9:List AOp:=[oM 85 11 3,
 oQ 86 (.binOp .add 3 (oT 85) (.const (.int .i64 1)) 3) 3,
 oA 11 86 3]
def f160r10:List AOp:=[oM 87 12 3,
 oQ 88 (.binOp .sub 3 (oT 87) (.const (.int .i64 1)) 3) 3,
 oA 12 88 3]
def f160b2:AC:=(.block 1 (.seq (.block 2 (.loop [0,1,4,11,12] f160b0)) (.seq (.block 4 (.loop [0,1,4,11,12] f160b1)) (.seq (.seq (.ops false f160r7) (.cond (oT 70) (.exit 0) .skip)) (.seq (.ops true f160r8) (.seq (.ops false f160r9) (.ops false f160r10)))))))
def f160r11:List AOp:=[oM 89 11 3,
 oA 10 89 3]
def f160:AFun:=⟨90,[(.tmp 10)],(.seq (.ops false f160r0) (.seq (.ops true f160r1) (.seq (.ops false f160r2) (.seq (.block 0 (.loop [0,1,4,11,12] f160b2)) (.seq (.ops false f160r11) .ret)))))⟩
def f161r0:List AOp:=[oQ 10 (.assign (.const (.int .i64 0))) 3,
 oQ 11 (.assign (.const (.bool false))) 4]
def f161r1:List AOp:=[oM 14 0 100,
 oM 15 1 3,
 oM 16 0 100,
 oM 17 3 3,
 oM 18 0 100,
 oM 19 3 3,
 oQ 20 (.indexAddr 100 (oT 18) (oT 19)) 0,
 oQ 21 (.load 3 (oT 20)) 3,
 oM 22 0 100,
 oM 23 1 3,
 oQ 24 (.indexAddr 100 (oT 22) (oT 23)) 0,
 oQ 25 (.load 3 (oT 24)) 3,
 oQ 26 (.indexAddr 100 (oT 14) (oT 15)) 0,
 oN (.store 3 (oT 26) (oT 21)) 0,
 oQ 27 (.indexAddr 100 (oT 16) (oT 17)) 0,
 oN (.store 3 (oT 27) (oT 25)) 0]
def f161r2:List AOp:=[oM 28 1 3,
 oQ 29 (.binOp .add 3 (oT 28) (.const (.int .i64 1)) 3) 3,
 oM 30 2 3,
 oQ 31 (.binOp .sub 3 (oT 30) (.const (.int .i64 1)) 3) 3,
 oA 12 29 3,
 oA 13 31 3]
def f161r3:List AOp:=[oM 32 12 3,
 oM 33 13 3,
 oQ 34 (.binOp .leq 3 (oT 32) (oT 33) 3) 4,
 oM 35 34 4,
 oG 36 (.move (oT 4)) 151 35 true,
 oG 37 (.move (oT 0)) 100 35 true,
 oG 38 (.move (oT 12)) 3 35 true,
 oG 39 (.indexAddr 100 (oT 37) (oT 38)) 0 35 true,
 oG 40 (.load 3 (oT 39)) 3 35 true,
 oG 41 (.move (oT 0)) 100 35 true,
 oG 42 (.move (oT 1)) 3 35 true,
 oG 43 (.indexAddr 100 (oT 41) (oT 42)) 0 35 true,
 oG 44 (.load 3 (oT 43)) 3 35 true,
 oG 45 (.call { callee:=(.value (oT 36)),args:=#[(oT 40),(oT 44)],argTypes:=#[3,3] }) 3 35 true,
 oG 46 (.binOp .lss 3 (oT 45) (.const (.int .i64 0)) 3) 4 35 true,
 oQ 47 (.pick (oT 35) (oT 46) (.const (.bool false))) 4]
def f161r4:List AOp:=[oM 48 12 3,
 oQ 49 (.binOp .add 3 (oT 48) (.const (.int .i64 1)) 3) 3,
 oA 12 49 3]
def f161b0:AC:=(.seq (.seq (.ops true f161r3) (.cond (oT 47) .skip (.exit 0))) (.block 1 (.ops false f161r4)))
def f161r5:List AOp:=[oM 50 12 3,
 oM 51 13 3,
 oQ 52 (.binOp .leq 3 (oT 50) (oT 51) 3) 4,
 oM 53 52 4,
 oG 54 (.move (oT 4)) 151 53 true,
 oG 55 (.move (oT 0)) 100 53 true,
 oG 56 (.move (oT 13)) 3 53 true,
 oG 57 (.indexAddr 100 (oT 55) (oT 56)) 0 53 true,
 oG 58 (.load 3 (oT 57)) 3 53 true,
 oG 59 (.move (oT 0)) 100 53 true,
 oG 60 (.move (oT 1)) 3 53 true,
 oG 61 (.indexAddr 100 (oT 59) (oT 60)) 0 53 true,
 oG 62 (.load 3 (oT 61)) 3 53 true,
 oG 63 (.call { callee:=(.value (oT 54)),args:=#[(oT 58),(oT 62)],argTypes:=#[3,3] }) 3 53 true,
 oG 64 (.binOp .lss 3 (oT 63) (.const (.int .i64 0)) 3) 4 53 true,
 oG 65 (.unOp .not 4 (oT 64)) 4 53 true,
 oQ 66 (.pick (oT 53) (oT 65) (.const (.bool false))) 4]
def f161r6:List AOp:=[oM 67 13 3,
 oQ 68 (.binOp .sub 3 (oT 67) (.const (.int .i64 1)) 3) 3,
 oA 13 68 3]
def f161b1:AC:=(.seq (.seq (.ops true f161r5) (.cond (oT 66) .skip (.exit 2))) (.block 3 (.ops false f161r6)))
def f161r7:List AOp:=[oM 69 12 3,
 oM 70 13 3,
 oQ 71 (.binOp .gtr 3 (oT 69) (oT 70) 3) 4]
def f161r8:List AOp:=[oM 72 0 100,
 oM 73 13 3,
 oM 74 0 100,
 oM 75 1 3,
 oM 76 0 100,
 oM 77 1 3,
 oQ 78 (.indexAddr 100 (oT 76) (oT 77)) 0,
 oQ 79 (.load 3 (oT 78)) 3,
 oM 80 0 100,
 oM 81 13 3,
 oQ 82 (.indexAddr 100 (oT 80) (oT 81)) 0,
 oQ 83 (.load 3 (oT 82)) 3,
 oQ 84 (.indexAddr 100 (oT 72) (oT 73)) 0,
 oN (.store 3 (oT 84) (oT 79)) 0,
 oQ 85 (.indexAddr 100 (oT 74) (oT 75)) 0,
 oN (.store 3 (oT 85) (oT 83)) 0]
def f161r9:List AOp:=[oM 86 13 3,
 oA 10 86 3,
 oQ 11 (.assign (.const (.bool true))) 4]
def f161r10:List AOp:=[oM 87 0 100,
 oM 88 12 3,
 oM 89 0 100,
 oM 90 13 3,
 oM 91 0 100,
 oM 92 13 3,
 oQ 93 (.indexAddr 100 (oT 91) (oT 92)) 0,
 oQ 94 (.load 3 (oT 93)) 3,
 oM 95 0 100,
 oM 96 12 3,
 oQ 97 (.indexAddr 100 (oT 95) (oT 96)) 0,
 oQ 98 (.load 3 (oT 97)) 3,
 oQ 99 (.indexAddr 100 (oT 87) (oT 88)) 0,
 oN (.store 3 (oT 99) (oT 94)) 0,
 oQ 100 (.indexAddr 100 (oT 89) (oT 90)) 0,
 oN (.store 3 (oT 100) (oT 98)) 0]
def f161r11:List AOp:=[oM 101 12 3,
 oQ 102 (.binOp .add 3 (oT 101) (.const (.int .i64 1)) 3) 3,
 oA 12 102 3]
def f161r12:List AOp:=[oM 103 13 3,
 oQ 104 (.binOp .sub 3 (oT 103) (.const (.int .i64 1)) 3) 3,
 oA 13 104 3]
def f161r13:List AOp:=[oM 105 12 3,
 oM 106 13 3,
 oQ 107 (.binOp .leq 3 (oT 105) (oT 106) 3) 4,
 oM 108 107 4,
 oG 109 (.move (oT 4)) 151 108 true,
 oG 110 (.move (oT 0)) 100 108 true,
 oG 111 (.move (oT 12)) 3 108 true,
 oG 112 (.indexAddr 100 (oT 110) (oT 111)) 0 108 true,
 oG 113 (.load 3 (oT 112)) 3 108 true,
 oG 114 (.move (oT 0)) 100 108 true,
 oG 115 (.move (oT 1)) 3 108 true,
 oG 116 (.indexAddr 100 (oT 114) (oT 115)) 0 108 true,
 oG 117 (.load 3 (oT 116)) 3 108 true,
 oG 118 (.call { callee:=(.value (oT 109)),args:=#[(oT 113),(oT 117)],argTypes:=#[3,3] }) 3 108 true,
 oG 119 (.binOp .lss 3 (oT 118) (.const (.int .i64 0)) 3) 4 108 true,
 oQ 120 (.pick (oT 108) (oT 119) (.const (.bool false))) 4]
def f161r14:List AOp:=[oM 121 12 3,
 oQ 122 (.binOp .add 3 (oT 121) (.const (.int .i64 1)) 3) 3,
 oA 12 122 3]
def f161b2:AC:=(.seq (.seq (.ops true f161r13) (.cond (oT 120) .skip (.exit 6))) (.block 7 (.ops false f161r14)))
def f161r15:List AOp:=[oM 123 12 3,
 oM 124 13 3,
 oQ 125 (.binOp .leq 3 (oT 123) (oT 124) 3) 4,
 oM 126 125 4,
 oG 127 (.move (oT 4)) 151 126 true,
 oG 128 (.move (oT 0)) 100 126 true,
 oG 129 (.move (oT 13)) 3 126 true,
 oG 130 (.indexAddr 100 (oT 128) (oT 129)) 0 126 true,
 oG 131 (.load 3 (oT 130)) 3 126 true,
 oG 132 (.move (oT 0)) 100 126 true,
 oG 133 (.move (oT 1)) 3 126 true,
 oG 134 (.indexAddr 100 (oT 132) (oT 133)) 0 126 true,
 oG 135 (.load 3 (oT 134)) 3 126 true,
 oG 136 (.call { callee:=(.value (oT 127)),args:=#[(oT 131),(oT 135)],argTypes:=#[3,3] }) 3 126 true,
 oG 137 (.binOp .lss 3 (oT 136) (.const (.int .i64 0)) 3) 4 126 true,
 oG 138 (.unOp .not 4 (oT 137)) 4 126 true,
 oQ 139 (.pick (oT 126) (oT 138) (.const (.bool false))) 4]
def f161r16:List AOp:=[oM 140 13 3,
 oQ 141 (.binOp .sub 3 (oT 140) (.const (.int .i64 1)) 3) 3,
 oA 13 141 3]
def f161b3:AC:=(.seq (.seq (.ops true f161r15) (.cond (oT 139) .skip (.exit 8))) (.block 9 (.ops false f161r16)))
def f161r17:List AOp:=[oM 142 12 3,
 oM 143 13 3,
 oQ 144 (.binOp .gtr 3 (oT 142) (oT 143) 3) 4]
def f161r18:List AOp:=[oM 145 0 100,
 oM 146 12 3,
 oM 147 0 100,
 oM 148 13 3,
 oM 149 0 100,
 oM 150 13 3,
 oQ 151 (.indexAddr 100 (oT 149) (oT 150)) 0,
 oQ 152 (.load 3 (oT 151)) 3,
 oM 153 0 100,
 oM 154 12 3,
 oQ 155 (.indexAddr 100 (oT 153) (oT 154)) 0,
 oQ 156 (.load 3 (oT 155)) 3,
 oQ 157 (.indexAddr 100 (oT 145) (oT 146)) 0,
 oN (.store 3 (oT 157) (oT 152)) 0,
 oQ 158 (.indexAddr 100 (oT 147) (oT 148)) 0,
 oN (.store 3 (oT 158) (oT 156)) 0]
def f161r19:List AOp:=[oM 159 12 3,
 oQ 160 (.binOp .add 3 (oT 159) (.const (.int .i64 1)) 3) 3,
 oA 12 160 3]
def f161r20:List AOp:=[oM 161 13 3,
 oQ 162 (.binOp .sub 3 (oT 161) (.const (.int .i64 1)) 3) 3,
 oA 13 162 3]
def f161b4:AC:=(.block 5 (.seq (.block 6 (.loop [0,1,4,12,13] f161b2)) (.seq (.block 8 (.loop [0,1,4,12,13] f161b3)) (.seq (.seq (.ops false f161r17) (.cond (oT 144) (.exit 4) .skip)) (.seq (.ops true f161r18) (.seq (.ops false f161r19) (.ops false f161r20)))))))
def f161r21:List AOp:=[oM 163 0 100,
 oM 164 13 3,
 oM 165 0 100,
 oM 166 1 3,
 oM 167 0 100,
 oM 168 1 3,
 oQ 169 (.indexAddr 100 (oT 167) (oT 168)) 0,
 oQ 170 (.load 3 (oT 169)) 3,
 oM 171 0 100,
 oM 172 13 3,
 oQ 173 (.indexAddr 100 (oT 171) (oT 172)) 0,
 oQ 174 (.load 3 (oT 173)) 3,
 oQ 175 (.indexAddr 100 (oT 163) (oT 164)) 0,
 oN (.store 3 (oT 175) (oT 170)) 0,
 oQ 176 (.indexAddr 100 (oT 165) (oT 166)) 0,
 oN (.store 3 (oT 176) (oT 174)) 0]
def f161r22:List AOp:=[oM 177 13 3,
 oA 10 177 3,
 oQ 11 (.assign (.const (.bool false))) 4]
def f161:AFun:=⟨178,[(.tmp 10),(.tmp 11)],(.seq (.ops false f161r0) (.seq (.ops true f161r1) (.seq (.ops false f161r2) (.seq (.block 0 (.loop [0,1,4,12,13] f161b0)) (.seq (.block 2 (.loop [0,1,4,12,13] f161b1)) (.seq (.seq (.ops false f161r7) (.cond (.tmp 71) (.seq (.ops true f161r8) (.seq (.ops false f161r9) .ret)) .skip)) (.seq (.ops true f161r10) (.seq (.ops false f161r11) (.seq (.ops false f161r12) (.seq (.block 4 (.loop [0,1,4,12,13] f161b4)) (.seq (.ops true f161r21) (.seq (.ops false f161r22) .ret))))))))))))⟩
def f162r0:List AOp:=[oQ 2 (.assign (.const (.int .i64 0))) 3]
def f162r1:List AOp:=[oM 3 0 203,
 oQ 4 (.binOp .geq 203 (oT 3) (.const (.int .u32 65536)) 203) 4]
def f162r2:List AOp:=[oM 5 0 203,
 oQ 6 (.binOp .shr 203 (oT 5) (.const (.int .u64 16)) 167) 203,
 oA 0 6 203]
def f162r3:List AOp:=[oQ 2 (.assign (.const (.int .i64 16))) 3]
def f162r4:List AOp:=[oM 7 0 203,
 oQ 8 (.binOp .geq 203 (oT 7) (.const (.int .u32 256)) 203) 4]
def f162r5:List AOp:=[oM 9 0 203,
 oQ 10 (.binOp .shr 203 (oT 9) (.const (.int .u64 8)) 167) 203,
 oA 0 10 203]
def f162r6:List AOp:=[oM 11 2 3,
 oQ 12 (.binOp .add 3 (oT 11) (.const (.int .i64 8)) 3) 3,
 oA 2 12 3]
def f162r7:List AOp:=[oM 13 2 3,
 oM 14 0 203,
 oQ 15 (.convert 203 5 (oT 14)) 5,
 oQ 16 (.index 9 (.const (.string { data:=#[0,1,2,2,3,3,3,3,4,4,4,4,4,4,4,4,5,5,5,5,5,5,5,5,5,5,5,5,5,5,5,5,6,6,6,6,6,6,6,6,6,6,6,6,6,6,6,6,6,6,6,6,6,6,6,6,6,6,6,6,6,6,6,6,7,7,7,7,7,7,7,7,7,7,7,7,7,7,7,7,7,7,7,7,7,7,7,7,7,7,7,7,7,7,7,7,7,7,7,7,7,7,7,7,7,7,7,7,7,7,7,7,7,7,7,7,7,7,7,7,7,7,7,7,7,7,7,7,8,8,8,8,8,8,8,8,8,8,8,8,8,8,8,8,8,8,8,8,8,8,8,8,8,8,8,8,8,8,8,8,8,8,8,8,8,8,8,8,8,8,8,8,8,8,8,8,8,8,8,8,8,8,8,8,8,8,8,8,8,8,8,8,8,8,8,8,8,8,8,8,8,8,8,8,8,8,8,8,8,8,8,8,8,8,8,8,8,8,8,8,8,8,8,8,8,8,8,8,8,8,8,8,8,8,8,8,8,8,8,8,8,8,8,8,8,8,8,8,8,8,8,8,8,8,8,8] })) (oT 15)) 5,
 oQ 17 (.convert 5 3 (oT 16)) 3,
 oQ 18 (.binOp .add 3 (oT 13) (oT 17) 3) 3,
 oA 2 18 3]
def f162:AFun:=⟨19,[(.tmp 2)],(.seq (.ops false f162r0) (.seq (.seq (.ops false f162r1) (.cond (.tmp 4) (.seq (.ops false f162r2) (.ops false f162r3)) .skip)) (.seq (.seq (.ops false f162r4) (.cond (.tmp 8) (.seq (.ops false f162r5) (.ops false f162r6)) .skip)) (.seq (.ops false f162r7) .ret))))⟩
def f163r0:List AOp:=[oQ 2 (.assign (.const (.int .i64 0))) 3]
def f163r1:List AOp:=[oM 3 0 22,
 oQ 4 (.binOp .geq 22 (oT 3) (.const (.int .u64 4294967296)) 22) 4]
def f163r2:List AOp:=[oM 5 0 22,
 oQ 6 (.binOp .shr 22 (oT 5) (.const (.int .u64 32)) 167) 22,
 oA 0 6 22]
def f163r3:List AOp:=[oQ 2 (.assign (.const (.int .i64 32))) 3]
def f163r4:List AOp:=[oM 7 0 22,
 oQ 8 (.binOp .geq 22 (oT 7) (.const (.int .u64 65536)) 22) 4]
def f163r5:List AOp:=[oM 9 0 22,
 oQ 10 (.binOp .shr 22 (oT 9) (.const (.int .u64 16)) 167) 22,
 oA 0 10 22]
def f163r6:List AOp:=[oM 11 2 3,
 oQ 12 (.binOp .add 3 (oT 11) (.const (.int .i64 16)) 3) 3,
 oA 2 12 3]
def f163r7:List AOp:=[oM 13 0 22,
 oQ 14 (.binOp .geq 22 (oT 13) (.const (.int .u64 256)) 22) 4]
def f163r8:List AOp:=[oM 15 0 22,
 oQ 16 (.binOp .shr 22 (oT 15) (.const (.int .u64 8)) 167) 22,
 oA 0 16 22]
def f163r9:List AOp:=[oM 17 2 3,
 oQ 18 (.binOp .add 3 (oT 17) (.const (.int .i64 8)) 3) 3,
 oA 2 18 3]
def f163r10:List AOp:=[oM 19 2 3,
 oM 20 0 22,
 oQ 21 (.convert 22 5 (oT 20)) 5,
 oQ 22 (.index 9 (.const (.string { data:=#[0,1,2,2,3,3,3,3,4,4,4,4,4,4,4,4,5,5,5,5,5,5,5,5,5,5,5,5,5,5,5,5,6,6,6,6,6,6,6,6,6,6,6,6,6,6,6,6,6,6,6,6,6,6,6,6,6,6,6,6,6,6,6,6,7,7,7,7,7,7,7,7,7,7,7,7,7,7,7,7,7,7,7,7,7,7,7,7,7,7,7,7,7,7,7,7,7,7,7,7,7,7,7,7,7,7,7,7,7,7,7,7,7,7,7,7,7,7,7,7,7,7,7,7,7,7,7,7,8,8,8,8,8,8,8,8,8,8,8,8,8,8,8,8,8,8,8,8,8,8,8,8,8,8,8,8,8,8,8,8,8,8,8,8,8,8,8,8,8,8,8,8,8,8,8,8,8,8,8,8,8,8,8,8,8,8,8,8,8,8,8,8,8,8,8,8,8,8,8,8,8,8,8,8,8,8,8,8,8,8,8,8,8,8,8,8,8,8,8,8,8,8,8,8,8,8,8,8,8,8,8,8,8,8,8,8,8,8,8,8,8,8,8,8,8,8,8,8,8,8,8,8,8,8,8,8] })) (oT 21)) 5,
 oQ 23 (.convert 5 3 (oT 22)) 3,
 oQ 24 (.binOp .add 3 (oT 19) (oT 23) 3) 3,
 oA 2 24 3]
def f163:AFun:=⟨25,[(.tmp 2)],(.seq (.ops false f163r0) (.seq (.seq (.ops false f163r1) (.cond (.tmp 4) (.seq (.ops false f163r2) (.ops false f163r3)) .skip)) (.seq (.seq (.ops false f163r4) (.cond (.tmp 8) (.seq (.ops false f163r5) (.ops false f163r6)) .skip)) (.seq (.seq (.ops false f163r7) (.cond (.tmp 14) (.seq (.ops false f163r8) (.ops false f163r9)) .skip)) (.seq (.ops false f163r10) .ret)))))⟩
def f164r0:List AOp:=[oQ 4 (.assign (.const (.bool false))) 4]
def f164r1:List AOp:=[oM 5 0 163,
 oQ 6 (.nilCheck (oT 5)) 0,
 oQ 7 (.fieldAddr 165 (oT 6) 1) 0,
 oQ 8 (.load 3 (oT 7)) 3,
 oM 9 0 163,
 oQ 10 (.nilCheck (oT 9)) 0,
 oQ 11 (.fieldAddr 165 (oT 10) 0) 0,
 oQ 12 (.load 27 (oT 11)) 27,
 oQ 13 (cB .len #[(oT 12)] #[27]) 3,
 oQ 14 (.binOp .lss 3 (oT 8) (oT 13) 3) 4,
 oM 15 14 4,
 oG 16 (.move (oT 0)) 163 15 true,
 oG 17 (.nilCheck (oT 16)) 0 15 true,
 oG 18 (.fieldAddr 165 (oT 17) 0) 0 15 true,
 oG 19 (.load 27 (oT 18)) 27 15 true,
 oG 20 (.move (oT 0)) 163 15 true,
 oG 21 (.nilCheck (oT 20)) 0 15 true,
 oG 22 (.fieldAddr 165 (oT 21) 1) 0 15 true,
 oG 23 (.load 3 (oT 22)) 3 15 true,
 oG 24 (.indexAddr 27 (oT 19) (oT 23)) 0 15 true,
 oG 25 (.fieldAddr 33 (oT 24) 0) 0 15 true,
 oG 26 (.load 3 (oT 25)) 3 15 true,
 oG 27 (.move (oT 1)) 3 15 true,
 oG 28 (.binOp .eql 3 (oT 26) (oT 27) 3) 4 15 true,
 oQ 29 (.pick (oT 15) (oT 28) (.const (.bool false))) 4,
 oA 4 29 4]
def f164:AFun:=⟨30,[(.tmp 4)],(.seq (.ops false f164r0) (.seq (.ops true f164r1) .ret))⟩
def f165r0:List AOp:=[oQ 2 (.assign (.const (.bool false))) 4]
def f165r1:List AOp:=[oM 3 0 163,
 oQ 4 (.nilCheck (oT 3)) 0,
 oQ 5 (.fieldAddr 165 (oT 4) 1) 0,
 oQ 6 (.load 3 (oT 5)) 3,
 oM 7 0 163,
 oQ 8 (.nilCheck (oT 7)) 0,
 oQ 9 (.fieldAddr 165 (oT 8) 0) 0,
 oQ 10 (.load 27 (oT 9)) 27,
 oQ 11 (cB .len #[(oT 10)] #[27]) 3,
 oQ 12 (.binOp .lss 3 (oT 6) (oT 11) 3) 4,
 oM 13 12 4,
 oG 14 (.move (oT 0)) 163 13 true,
 oG 15 (cF 164 #[(oT 14),(.const (.int .i64 6))] #[163,3]) 4 13 true,
 oG 16 (.unOp .not 4 (oT 15)) 4 13 true,
 oQ 17 (.pick (oT 13) (oT 16) (.const (.bool false))) 4,
 oM 18 17 4,
 oG 19 (.move (oT 0)) 163 18 true,
 oG 20 (cF 164 #[(oT 19),(.const (.int .i64 15))] #[163,3]) 4 18 true,
 oG 21 (.unOp .not 4 (oT 20)) 4 18 true,
 oQ 22 (.pick (oT 18) (oT 21) (.const (.bool false))) 4,
 oA 2 22 4]
def f165:AFun:=⟨23,[(.tmp 2)],(.seq (.ops false f165r0) (.seq (.opsL [5,9] 12 false f165r1) .ret))⟩
def f166r0:List AOp:=[oQ 2 (.alloc 37) 0]
def f166r1:List AOp:=[oM 5 0 163,
 oQ 6 (cF 175 #[(oT 5)] #[163]) 37,
 oQ 3 (.alloc 37) 0,
 oN (.store 37 (oT 3) (oT 6)) 0]
def f166r2:List AOp:=[oM 7 0 163,
 oQ 8 (cF 164 #[(oT 7),(.const (.int .i64 16))] #[163,3]) 4]
def f166r3:List AOp:=[oM 9 0 163,
 oQ 10 (.nilCheck (oT 9)) 0,
 oQ 11 (.fieldAddr 165 (oT 10) 0) 0,
 oQ 12 (.load 27 (oT 11)) 27,
 oM 13 0 163,
 oQ 14 (.nilCheck (oT 13)) 0,
 oQ 15 (.fieldAddr 165 (oT 14) 1) 0,
 oQ 16 (.load 3 (oT 15)) 3,
 oQ 17 (.indexAddr 27 (oT 12) (oT 16)) 0,
 oQ 18 (.load 33 (oT 17)) 33,
 oQ 4 (.alloc 33) 0,
 oN (.store 33 (oT 4) (oT 18)) 0]
def f166r4:List AOp:=[oM 19 0 163,
 oQ 20 (.nilCheck (oT 19)) 0,
 oQ 21 (.fieldAddr 165 (oT 20) 1) 0,
 oQ 22 (.load 3 (oT 21)) 3,
 oQ 23 (.binOp .add 3 (oT 22) (.const (.int .i64 1)) 3) 3,
 oQ 24 (.nilCheck (oT 19)) 0,
 oQ 25 (.fieldAddr 165 (oT 24) 1) 0,
 oN (.store 3 (oT 25) (oT 23)) 0]
def f166r5:List AOp:=[oQ 26 (.load 37 (oT 3)) 37,
 oQ 27 (.fieldAddr 33 (oT 4) 2) 0,
 oQ 28 (.load 3 (oT 27)) 3,
 oQ 29 (.fieldAddr 33 (oT 4) 3) 0,
 oQ 30 (.load 3 (oT 29)) 3,
 oQ 31 (.fieldAddr 33 (oT 4) 4) 0,
 oQ 32 (.load 3 (oT 31)) 3,
 oQ 33 (.build 72 #[(0,(.const (.int .i64 10))),(4,(oT 28)),(5,(oT 30)),(6,(oT 32))]) 72,
 oQ 34 (cF 33 #[(oT 26),(oT 33)] #[37,72]) 37,
 oN (.store 37 (oT 3) (oT 34)) 0]
def f166r6:List AOp:=[oQ 35 (.load 37 (oT 3)) 37,
 oN (.store 37 (oT 2) (oT 35)) 0]
def f166:AFun:=⟨36,[(.cell 2 37)],(.seq (.ops false f166r0) (.seq (.ops false f166r1) (.seq (.seq (.ops false f166r2) (.cond (.tmp 8) (.seq (.ops true f166r3) (.seq (.ops false f166r4) (.ops false f166r5))) .skip)) (.seq (.ops false f166r6) .ret))))⟩
def f170r0:List AOp:=[oM 12 1 3,
 oA 10 12 3]
def f170r1:List AOp:=[oM 13 10 3,
 oQ 14 (.binOp .mul 3 (.const (.int .i64 2)) (oT 13) 3) 3,
 oQ 15 (.binOp .add 3 (oT 14) (.const (.int .i64 1)) 3) 3,
 oA 11 15 3]
def f170r2:List AOp:=[oM 16 11 3,
 oM 17 2 3,
 oQ 18 (.binOp .geq 3 (oT 16) (oT 17) 3) 4]
def f170r3:List AOp:=[oM 19 11 3,
 oQ 20 (.binOp .add 3 (oT 19) (.const (.int .i64 1)) 3) 3,
 oM 21 2 3,
 oQ 22 (.binOp .lss 3 (oT 20) (oT 21) 3) 4,
 oM 23 22 4,
 oG 24 (.move (oT 4)) 151 23 true,
 oG 25 (.move (oT 0)) 100 23 true,
 oG 26 (.move (oT 3)) 3 23 true,
 oG 27 (.move (oT 11)) 3 23 true,
 oG 28 (.binOp .add 3 (oT 26) (oT 27) 3) 3 23 true,
 oG 29 (.indexAddr 100 (oT 25) (oT 28)) 0 23 true,
 oG 30 (.load 3 (oT 29)) 3 23 true,
 oG 31 (.move (oT 0)) 100 23 true,
 oG 32 (.move (oT 3)) 3 23 true,
 oG 33 (.move (oT 11)) 3 23 true,
 oG 34 (.binOp .add 3 (oT 32) (oT 33) 3) 3 23 true,
 oG 35 (.binOp .add 3 (oT 34) (.const (.int .i64 1)) 3) 3 23 true,
 oG 36 (.indexAddr 100 (oT 31) (oT 35)) 0 23 true,
 oG 37 (.load 3 (oT 36)) 3 23 true,
 oG 38 (.call { callee:=(.value (oT 24)),args:=#[(oT 30),(oT 37)],argTypes:=#[3,3] }) 3 23 true,
 oG 39 (.binOp .lss 3 (oT 38) (.const (.int .i64 0)) 3) 4 23 true,
 oQ 40 (.pick (oT 23) (oT 39) (.const (.bool false))) 4]
def f170r4:List AOp:=[oM 41 11 3,
 oQ 42 (.binOp .add 3 (oT 41) (.const (.int .i64 1)) 3) 3,
 oA 11 42 3]
def f170r5:List AOp:=[oM 43 4 151,
 oM 44 0 100,
 oM 45 3 3,
 oM 46 10 3,
 oQ 47 (.binOp .add 3 (oT 45) (oT 46) 3) 3,
 oQ 48 (.indexAddr 100 (oT 44) (oT 47)) 0,
 oQ 49 (.load 3 (oT 48)) 3,
 oM 50 0 100,
 oM 51 3 3,
 oM 52 11 3,
 oQ 53 (.binOp .add 3 (oT 51) (oT 52) 3) 3,
 oQ 54 (.indexAddr 100 (oT 50) (oT 53)) 0,
 oQ 55 (.load 3 (oT 54)) 3,
 oQ 56 (.call { callee:=(.value (oT 43)),args:=#[(oT 49),(oT 55)],argTypes:=#[3,3] }) 3,
 oQ 57 (.binOp .lss 3 (oT 56) (.const (.int .i64 0)) 3) 4,
 oQ 58 (.unOp .not 4 (oT 57)) 4]
def f170r6:List AOp:=[oM 59 0 100,
 oM 60 3 3,
 oM 61 10 3,
 oQ 62 (.binOp .add 3 (oT 60) (oT 61) 3) 3,
 oM 63 0 100,
 oM 64 3 3,
 oM 65 11 3,
 oQ 66 (.binOp .add 3 (oT 64) (oT 65) 3) 3,
 oM 67 0 100,
 oM 68 3 3,
 oM 69 11 3,
 oQ 70 (.binOp .add 3 (oT 68) (oT 69) 3) 3,
 oQ 71 (.indexAddr 100 (oT 67) (oT 70)) 0,
 oQ 72 (.load 3 (oT 71)) 3,
 oM 73 0 100,
 oM 74 3 3,
 oM 75 10 3,
 oQ 76 (.binOp .add 3 (oT 74) (oT 75) 3) 3,
 oQ 77 (.indexAddr 100 (oT 73) (oT 76)) 0,
 oQ 78 (.load 3 (oT 77)) 3,
 oQ 79 (.indexAddr 100 (oT 59) (oT 62)) 0,
 oN (.store 3 (oT 79) (oT 72)) 0,
 oQ 80 (.indexAddr 100 (oT 63) (oT 66)) 0,
 oN (.store 3 (oT 80) (oT 78)) 0]
def f170r7:List AOp:=[oM 81 11 3,
 oA 10 81 3]
def f170b0:AC:=(.block 1 (.seq (.ops false f170r1) (.seq (.seq (.ops false f170r2) (.cond (oT 18) (.exit 0) .skip)) (.seq (.seq (.ops true f170r3) (.cond (oT 40) (.ops false f170r4) .skip)) (.seq (.seq (.ops true f170r5) (.cond (oT 58) .ret .skip)) (.seq (.ops true f170r6) (.ops false f170r7)))))))
def f170:AFun:=⟨82,[],(.seq (.ops false f170r0) (.block 0 (.loop [0,2,3,4,10] f170b0)))⟩
def f171r0:List AOp:=[oQ 2 (.assign (.const (.int .u64 0))) 167]
def f171r1:List AOp:=[oM 3 0 3,
 oQ 4 (.convert 3 167 (oT 3)) 167,
 oQ 5 (cF 137 #[(oT 4)] #[167]) 3,
 oQ 6 (.binOp .shl 167 (.const (.int .u64 1)) (oT 5) 3) 167,
 oA 2 6 167]
def f171:AFun:=⟨7,[(.tmp 2)],(.seq (.ops false f171r0) (.seq (.ops false f171r1) .ret))⟩
def f172r0:List AOp:=[oQ 2 (.assign (.const (.int .u64 0))) 22]
def f172r1:List AOp:=[oM 3 0 214,
 oQ 4 (.nilCheck (oT 3)) 0,
 oQ 5 (.load 207 (oT 4)) 207,
 oM 6 0 214,
 oQ 7 (.nilCheck (oT 6)) 0,
 oQ 8 (.load 207 (oT 7)) 207,
 oQ 9 (.binOp .shl 207 (oT 8) (.const (.int .u64 13)) 167) 207,
 oQ 10 (.binOp .xor 207 (oT 5) (oT 9) 207) 207,
 oQ 11 (.nilCheck (oT 3)) 0,
 oN (.store 207 (oT 11) (oT 10)) 0]
def f172r2:List AOp:=[oM 12 0 214,
 oQ 13 (.nilCheck (oT 12)) 0,
 oQ 14 (.load 207 (oT 13)) 207,
 oM 15 0 214,
 oQ 16 (.nilCheck (oT 15)) 0,
 oQ 17 (.load 207 (oT 16)) 207,
 oQ 18 (.binOp .shr 207 (oT 17) (.const (.int .u64 7)) 167) 207,
 oQ 19 (.binOp .xor 207 (oT 14) (oT 18) 207) 207,
 oQ 20 (.nilCheck (oT 12)) 0,
 oN (.store 207 (oT 20) (oT 19)) 0]
def f172r3:List AOp:=[oM 21 0 214,
 oQ 22 (.nilCheck (oT 21)) 0,
 oQ 23 (.load 207 (oT 22)) 207,
 oM 24 0 214,
 oQ 25 (.nilCheck (oT 24)) 0,
 oQ 26 (.load 207 (oT 25)) 207,
 oQ 27 (.binOp .shl 207 (oT 26) (.const (.int .u64 17)) 167) 207,
 oQ 28 (.binOp .xor 207 (oT 23) (oT 27) 207) 207,
 oQ 29 (.nilCheck (oT 21)) 0,
 oN (.store 207 (oT 29) (oT 28)) 0]
def f172r4:List AOp:=[oM 30 0 214,
 oQ 31 (.nilCheck (oT 30)) 0,
 oQ 32 (.load 207 (oT 31)) 207,
 oA 2 32 22]
def f172:AFun:=⟨33,[(.tmp 2)],(.seq (.ops false f172r0) (.seq (.ops true f172r1) (.seq (.ops true f172r2) (.seq (.ops true f172r3) (.seq (.ops false f172r4) .ret)))))⟩
def f173r0:List AOp:=[oQ 8 (.assign (.const (.int .i64 0))) 3]
def f173r1:List AOp:=[oM 9 0 100,
 oM 10 1 3,
 oQ 11 (.binOp .sub 3 (oT 10) (.const (.int .i64 1)) 3) 3,
 oM 12 1 3,
 oM 13 1 3,
 oQ 14 (.binOp .add 3 (oT 13) (.const (.int .i64 1)) 3) 3,
 oM 15 2 211,
 oM 16 3 151,
 oQ 17 (cF 174 #[(oT 9),(oT 11),(oT 12),(oT 14),(oT 15),(oT 16)] #[100,3,3,3,211,151]) 3,
 oA 8 17 3]
def f173:AFun:=⟨18,[(.tmp 8)],(.seq (.ops false f173r0) (.seq (.ops false f173r1) .ret))⟩
def f174r0:List AOp:=[oQ 12 (.assign (.const (.int .i64 0))) 3]
def f174r1:List AOp:=[oM 14 0 100,
 oM 15 1 3,
 oM 16 2 3,
 oM 17 4 211,
 oM 18 5 151,
 oQ 19 (cF 177 #[(oT 14),(oT 15),(oT 16),(oT 17),(oT 18)] #[100,3,3,211,151]) 136,
 oM 13 19 136,
 oQ 20 (.extract (oT 13) 0) 3,
 oQ 21 (.extract (oT 13) 1) 3,
 oA 1 20 3,
 oA 2 21 3]
def f174r2:List AOp:=[oM 23 0 100,
 oM 24 2 3,
 oM 25 3 3,
 oM 26 4 211,
 oM 27 5 151,
 oQ 28 (cF 177 #[(oT 23),(oT 24),(oT 25),(oT 26),(oT 27)] #[100,3,3,211,151]) 136,
 oM 22 28 136,
 oQ 29 (.extract (oT 22) 0) 3,
 oQ 30 (.extract (oT 22) 1) 3,
 oA 2 29 3,
 oA 3 30 3]
def f174r3:List AOp:=[oM 32 0 100,
 oM 33 1 3,
 oM 34 2 3,
 oM 35 4 211,
 oM 36 5 151,
 oQ 37 (cF 177 #[(oT 32),(oT 33),(oT 34),(oT 35),(oT 36)] #[100,3,3,211,151]) 136,
 oM 31 37 136,
 oQ 38 (.extract (oT 31) 0) 3,
 oQ 39 (.extract (oT 31) 1) 3,
 oA 1 38 3,
 oA 2 39 3]
def f174r4:List AOp:=[oM 40 2 3,
 oA 12 40 3]
def f174:AFun:=⟨41,[(.tmp 12)],(.seq (.ops false f174r0) (.seq (.ops false f174r1) (.seq (.ops false f174r2) (.seq (.ops false f174r3) (.seq (.ops false f174r4) .ret)))))⟩
def f175r0:List AOp:=[oQ 2 (.alloc 37) 0]
def f175r1:List AOp:=[oM 4 0 163,
 oQ 5 (.nilCheck (oT 4)) 0,
 oQ 6 (.fieldAddr 165 (oT 5) 0) 0,
 oQ 7 (.load 27 (oT 6)) 27,
 oM 8 0 163,
 oQ 9 (.nilCheck (oT 8)) 0,
 oQ 10 (.fieldAddr 165 (oT 9) 1) 0,
 oQ 11 (.load 3 (oT 10)) 3,
 oQ 12 (.indexAddr 27 (oT 7) (oT 11)) 0,
 oQ 13 (.load 33 (oT 12)) 33,
 oQ 3 (.alloc 33) 0,
 oN (.store 33 (oT 3) (oT 13)) 0]
def f175r2:List AOp:=[oM 14 0 163,
 oQ 15 (.nilCheck (oT 14)) 0,
 oQ 16 (.fieldAddr 165 (oT 15) 1) 0,
 oQ 17 (.load 3 (oT 16)) 3,
 oQ 18 (.binOp .add 3 (oT 17) (.const (.int .i64 1)) 3) 3,
 oQ 19 (.nilCheck (oT 14)) 0,
 oQ 20 (.fieldAddr 165 (oT 19) 1) 0,
 oN (.store 3 (oT 20) (oT 18)) 0]
def f175r3:List AOp:=[oQ 21 (.fieldAddr 33 (oT 3) 0) 0,
 oQ 22 (.load 3 (oT 21)) 3]
def f175r4:List AOp:=[oQ 24 (.binOp .eql 3 (oT 22) (.const (.int .i64 0)) 3) 4,
 oA 23 24 4]
def f175r5:List AOp:=[oM 25 0 163,
 oQ 26 (.fieldAddr 33 (oT 3) 1) 0,
 oQ 27 (.load 25 (oT 26)) 25,
 oQ 28 (cF 178 #[(oT 25),(oT 27)] #[163,25]) 37,
 oN (.store 37 (oT 2) (oT 28)) 0]
def f175r6:List AOp:=[oQ 30 (.binOp .eql 3 (oT 22) (.const (.int .i64 1)) 3) 4,
 oA 29 30 4]
def f175r7:List AOp:=[oM 31 0 163,
 oQ 32 (cF 179 #[(oT 31)] #[163]) 37,
 oN (.store 37 (oT 2) (oT 32)) 0]
def f175r8:List AOp:=[oQ 34 (.binOp .eql 3 (oT 22) (.const (.int .i64 2)) 3) 4,
 oA 33 34 4]
def f175r9:List AOp:=[oM 35 0 163,
 oQ 36 (.call { callee:=(.value (.func 181)),args:=#[(oT 35),(.const (.string { data:=#[109] }))],argTypes:=#[163,9] }) 4,
 oQ 37 (cF 180 #[(oT 36),(.const (.int .i64 4)),(.const (.int .i64 2))] #[4,3,3]) 37,
 oN (.store 37 (oT 2) (oT 37)) 0]
def f175r10:List AOp:=[oQ 39 (.binOp .eql 3 (oT 22) (.const (.int .i64 3)) 3) 4,
 oA 38 39 4]
def f175r11:List AOp:=[oM 40 0 163,
 oQ 41 (.call { callee:=(.value (.func 181)),args:=#[(oT 40),(.const (.string { data:=#[109] }))],argTypes:=#[163,9] }) 4,
 oQ 42 (cF 180 #[(oT 41),(.const (.int .i64 5)),(.const (.int .i64 3))] #[4,3,3]) 37,
 oN (.store 37 (oT 2) (oT 42)) 0]
def f175r12:List AOp:=[oQ 44 (.binOp .eql 3 (oT 22) (.const (.int .i64 4)) 3) 4,
 oA 43 44 4]
def f175r13:List AOp:=[oQ 45 (.build 72 #[(0,(.const (.int .i64 6)))]) 72,
 oQ 46 (cF 47 #[(oT 45)] #[72]) 37,
 oN (.store 37 (oT 2) (oT 46)) 0]
def f175r14:List AOp:=[oQ 48 (.binOp .eql 3 (oT 22) (.const (.int .i64 5)) 3) 4,
 oA 47 48 4]
def f175r15:List AOp:=[oQ 49 (.build 72 #[(0,(.const (.int .i64 7)))]) 72,
 oQ 50 (cF 47 #[(oT 49)] #[72]) 37,
 oN (.store 37 (oT 2) (oT 50)) 0]
def f175r16:List AOp:=[oQ 52 (.binOp .eql 3 (oT 22) (.const (.int .i64 17)) 3) 4,
 oA 51 52 4]
def f175r17:List AOp:=[oQ 53 (.fieldAddr 33 (oT 3) 5) 0,
 oQ 54 (.load 3 (oT 53)) 3,
 oM 55 0 163,
 oQ 56 (.call { callee:=(.value (.func 181)),args:=#[(oT 55),(.const (.string { data:=#[105] }))],argTypes:=#[163,9] }) 4,
 oQ 57 (.build 72 #[(0,(.const (.int .i64 12))),(7,(oT 54)),(8,(oT 56))]) 72,
 oQ 58 (cF 47 #[(oT 57)] #[72]) 37,
 oN (.store 37 (oT 2) (oT 58)) 0]
def f175r18:List AOp:=[oQ 60 (.binOp .eql 3 (oT 22) (.const (.int .i64 16)) 3) 4,
 oA 59 60 4]
def f175r19:List AOp:=[oQ 61 (.build 161 #[]) 161,
 oQ 62 (.makeInterface 161 (oT 61)) 20,
 oN (.panic (oT 62)) 0]
def f175r20:List AOp:=[oM 63 0 163,
 oQ 64 (.load 33 (oT 3)) 33,
 oQ 65 (cF 182 #[(oT 63),(oT 64)] #[163,33]) 37,
 oN (.store 37 (oT 2) (oT 65)) 0]
def f175:AFun:=⟨66,[(.cell 2 37)],(.seq (.ops false f175r0) (.seq (.ops true f175r1) (.seq (.ops false f175r2) (.seq (.seq (.ops false f175r3) (.block 0 (.seq (.ops false f175r4) (.cond (.tmp 23) (.seq (.ops false f175r5) .ret) (.seq (.ops false f175r6) (.cond (.tmp 29) (.seq (.ops false f175r7) .ret) (.seq (.ops false f175r8) (.cond (.tmp 33) (.seq (.ops false f175r9) .ret) (.seq (.ops false f175r10) (.cond (.tmp 38) (.seq (.ops false f175r11) .ret) (.seq (.ops false f175r12) (.cond (.tmp 43) (.seq (.ops false f175r13) .ret) (.seq (.ops false f175r14) (.cond (.tmp 47) (.seq (.ops false f175r15) .ret) (.seq (.ops false f175r16) (.cond (.tmp 51) (.seq (.opsL [53] 5 false f175r17) .ret) (.seq (.ops false f175r18) (.cond (.tmp 59) (.ops false f175r19) .skip)))))))))))))))))) (.seq (.ops false f175r20) .ret)))))⟩
def f177r0:List AOp:=[oQ 10 (.assign (.const (.int .i64 0))) 3,
 oQ 11 (.assign (.const (.int .i64 0))) 3]
def f177r1:List AOp:=[oM 12 4 151,
 oM 13 0 100,
 oM 14 2 3,
 oQ 15 (.indexAddr 100 (oT 13) (oT 14)) 0,
 oQ 16 (.load 3 (oT 15)) 3,
 oM 17 0 100,
 oM 18 1 3,
 oQ 19 (.indexAddr 100 (oT 17) (oT 18)) 0,
 oQ 20 (.load 3 (oT 19)) 3,
 oQ 21 (.call { callee:=(.value (oT 12)),args:=#[(oT 16),(oT 20)],argTypes:=#[3,3] }) 3,
 oQ 22 (.binOp .lss 3 (oT 21) (.const (.int .i64 0)) 3) 4]
def f177r2:List AOp:=[oM 23 3 211,
 oQ 24 (.nilCheck (oT 23)) 0,
 oQ 25 (.load 3 (oT 24)) 3,
 oQ 26 (.binOp .add 3 (oT 25) (.const (.int .i64 1)) 3) 3,
 oQ 27 (.nilCheck (oT 23)) 0,
 oN (.store 3 (oT 27) (oT 26)) 0]
def f177r3:List AOp:=[oM 28 2 3,
 oM 29 1 3,
 oA 10 28 3,
 oA 11 29 3]
def f177r4:List AOp:=[oM 30 1 3,
 oM 31 2 3,
 oA 10 30 3,
 oA 11 31 3]
def f177:AFun:=⟨32,[(.tmp 10),(.tmp 11)],(.seq (.ops false f177r0) (.seq (.seq (.ops true f177r1) (.cond (.tmp 22) (.seq (.ops false f177r2) (.seq (.ops false f177r3) .ret)) .skip)) (.seq (.ops false f177r4) .ret)))⟩
def f178r0:List AOp:=[oQ 3 (.box 25 (oT 1)) 0,
 oQ 4 (.alloc 37) 0]
def f178r1:List AOp:=[oM 5 0 163,
 oQ 6 (.call { callee:=(.value (.func 181)),args:=#[(oT 5),(.const (.string { data:=#[105] }))],argTypes:=#[163,9] }) 4]
def f178r2:List AOp:=[oQ 7 (.load 25 (oT 3)) 25,
 oQ 8 (cF 187 #[(oT 7)] #[25]) 25,
 oN (.store 25 (oT 3) (oT 8)) 0]
def f178r3:List AOp:=[oQ 9 (.load 25 (oT 3)) 25,
 oQ 10 (.build 72 #[(0,(.const (.int .i64 1))),(3,(oT 9))]) 72,
 oQ 11 (cF 47 #[(oT 10)] #[72]) 37,
 oN (.store 37 (oT 4) (oT 11)) 0]
def f178:AFun:=⟨12,[(.cell 4 37)],(.seq (.ops false f178r0) (.seq (.seq (.ops false f178r1) (.cond (.tmp 6) (.ops false f178r2) .skip)) (.seq (.ops false f178r3) .ret)))⟩
def f179r0:List AOp:=[oQ 2 (.alloc 37) 0]
def f179r1:List AOp:=[oQ 4 (cF 88 #[] #[]) 25,
 oQ 3 (.alloc 25) 0,
 oN (.store 25 (oT 3) (oT 4)) 0]
def f179r2:List AOp:=[oM 5 0 163,
 oQ 6 (.call { callee:=(.value (.func 181)),args:=#[(oT 5),(.const (.string { data:=#[115] }))],argTypes:=#[163,9] }) 4,
 oQ 7 (.unOp .not 4 (oT 6)) 4]
def f179r3:List AOp:=[oQ 8 (cF 49 #[(.const (.int .u8 10))] #[5]) 25,
 oQ 9 (cF 113 #[(oT 8)] #[25]) 25,
 oN (.store 25 (oT 3) (oT 9)) 0]
def f179r4:List AOp:=[oQ 10 (.load 25 (oT 3)) 25,
 oQ 11 (.build 72 #[(0,(.const (.int .i64 1))),(3,(oT 10))]) 72,
 oQ 12 (cF 47 #[(oT 11)] #[72]) 37,
 oN (.store 37 (oT 2) (oT 12)) 0]
def f179:AFun:=⟨13,[(.cell 2 37)],(.seq (.ops false f179r0) (.seq (.ops false f179r1) (.seq (.seq (.ops false f179r2) (.cond (.tmp 7) (.ops false f179r3) .skip)) (.seq (.ops false f179r4) .ret))))⟩
def f180r0:List AOp:=[oQ 6 (.alloc 37) 0]
def f180r1:List AOp:=[oM 7 0 4]
def f180r2:List AOp:=[oM 8 1 3,
 oQ 9 (.build 72 #[(0,(oT 8))]) 72,
 oQ 10 (cF 47 #[(oT 9)] #[72]) 37,
 oN (.store 37 (oT 6) (oT 10)) 0]
def f180r3:List AOp:=[oM 11 2 3,
 oQ 12 (.build 72 #[(0,(oT 11))]) 72,
 oQ 13 (cF 47 #[(oT 12)] #[72]) 37,
 oN (.store 37 (oT 6) (oT 13)) 0]
def f180:AFun:=⟨14,[(.cell 6 37)],(.seq (.ops false f180r0) (.seq (.seq (.ops false f180r1) (.cond (.tmp 7) (.seq (.ops false f180r2) .ret) .skip)) (.seq (.ops false f180r3) .ret)))⟩
def f181r0:List AOp:=[oQ 4 (.assign (.const (.bool false))) 4]
def f181r1:List AOp:=[oM 5 0 163,
 oQ 6 (.nilCheck (oT 5)) 0,
 oQ 7 (.fieldAddr 165 (oT 6) 3) 0,
 oQ 8 (.load 9 (oT 7)) 9,
 oM 9 1 9,
 oQ 10 (cF 188 #[(oT 8),(oT 9)] #[9,9]) 4,
 oA 4 10 4]
def f181:AFun:=⟨11,[(.tmp 4)],(.seq (.ops false f181r0) (.seq (.ops false f181r1) .ret))⟩
def f182r0:List AOp:=[oQ 3 (.box 33 (oT 1)) 0,
 oQ 4 (.alloc 37) 0]
def f182r1:List AOp:=[oQ 8 (.fieldAddr 33 (oT 3) 0) 0,
 oQ 9 (.load 3 (oT 8)) 3,
 oQ 10 (cF 189 #[(oT 9)] #[3]) 3,
 oQ 11 (.build 72 #[(0,(oT 10))]) 72,
 oM 12 0 163,
 oQ 13 (.nilCheck (oT 12)) 0,
 oQ 14 (.fieldAddr 165 (oT 13) 3) 0,
 oQ 15 (.load 9 (oT 14)) 9,
 oQ 5 (.alloc 72) 0,
 oN (.store 72 (oT 5) (oT 11)) 0,
 oA 6 15 9]
def f182r2:List AOp:=[oQ 16 (.fieldAddr 33 (oT 3) 0) 0,
 oQ 17 (.load 3 (oT 16)) 3,
 oQ 18 (.binOp .eql 3 (oT 17) (.const (.int .i64 7)) 3) 4]
def f182r3:List AOp:=[oM 19 0 163,
 oQ 20 (.nilCheck (oT 19)) 0,
 oQ 21 (.fieldAddr 165 (oT 20) 2) 0,
 oQ 22 (.load 3 (oT 21)) 3,
 oQ 23 (.binOp .add 3 (oT 22) (.const (.int .i64 1)) 3) 3,
 oQ 24 (.nilCheck (oT 19)) 0,
 oQ 25 (.fieldAddr 165 (oT 24) 2) 0,
 oN (.store 3 (oT 25) (oT 23)) 0]
def f182r4:List AOp:=[oM 26 0 163,
 oQ 27 (.nilCheck (oT 26)) 0,
 oQ 28 (.fieldAddr 165 (oT 27) 2) 0,
 oQ 29 (.load 3 (oT 28)) 3,
 oQ 30 (.fieldAddr 72 (oT 5) 7) 0,
 oN (.store 3 (oT 30) (oT 29)) 0]
def f182r5:List AOp:=[oM 31 0 163,
 oQ 32 (.nilCheck (oT 31)) 0,
 oQ 33 (.fieldAddr 165 (oT 32) 3) 0,
 oQ 34 (.load 9 (oT 33)) 9,
 oQ 35 (.fieldAddr 33 (oT 3) 6) 0,
 oQ 36 (.load 9 (oT 35)) 9,
 oQ 37 (.binOp .add 9 (oT 34) (oT 36) 9) 9,
 oQ 38 (.nilCheck (oT 31)) 0,
 oQ 39 (.fieldAddr 165 (oT 38) 3) 0,
 oN (.store 9 (oT 39) (oT 37)) 0]
def f182r6:List AOp:=[oM 40 0 163,
 oQ 41 (cF 108 #[(oT 40)] #[163]) 37,
 oQ 7 (.alloc 37) 0,
 oN (.store 37 (oT 7) (oT 41)) 0]
def f182r7:List AOp:=[oM 42 0 163,
 oM 43 6 9,
 oQ 44 (.nilCheck (oT 42)) 0,
 oQ 45 (.fieldAddr 165 (oT 44) 3) 0,
 oN (.store 9 (oT 45) (oT 43)) 0]
def f182r8:List AOp:=[oM 46 0 163,
 oQ 47 (cF 164 #[(oT 46),(.const (.int .i64 15))] #[163,3]) 4,
 oQ 48 (.unOp .not 4 (oT 47)) 4]
def f182r9:List AOp:=[oQ 49 (.build 161 #[]) 161,
 oQ 50 (.makeInterface 161 (oT 49)) 20,
 oN (.panic (oT 50)) 0]
def f182r10:List AOp:=[oM 51 0 163,
 oQ 52 (.nilCheck (oT 51)) 0,
 oQ 53 (.fieldAddr 165 (oT 52) 1) 0,
 oQ 54 (.load 3 (oT 53)) 3,
 oQ 55 (.binOp .add 3 (oT 54) (.const (.int .i64 1)) 3) 3,
 oQ 56 (.nilCheck (oT 51)) 0,
 oQ 57 (.fieldAddr 165 (oT 56) 1) 0,
 oN (.store 3 (oT 57) (oT 55)) 0]
def f182r11:List AOp:=[oQ 58 (.fieldAddr 72 (oT 5) 0) 0,
 oQ 59 (.load 3 (oT 58)) 3,
 oQ 60 (.binOp .eql 3 (oT 59) (.const (.int .i64 0)) 3) 4]
def f182r12:List AOp:=[oQ 61 (.load 37 (oT 7)) 37,
 oN (.store 37 (oT 4) (oT 61)) 0]
def f182r13:List AOp:=[oQ 62 (.load 37 (oT 7)) 37,
 oQ 63 (.load 72 (oT 5)) 72,
 oQ 64 (cF 33 #[(oT 62),(oT 63)] #[37,72]) 37,
 oN (.store 37 (oT 4) (oT 64)) 0]
def f182:AFun:=⟨65,[(.cell 4 37)],(.seq (.ops false f182r0) (.seq (.opsL [14] 11 true f182r1) (.seq (.seq (.ops false f182r2) (.cond (.tmp 18) (.seq (.ops false f182r3) (.ops false f182r4)) .skip)) (.seq (.ops true f182r5) (.seq (.ops false f182r6) (.seq (.ops false f182r7) (.seq (.seq (.ops false f182r8) (.cond (.tmp 48) (.ops false f182r9) .skip)) (.seq (.ops false f182r10) (.seq (.seq (.ops false f182r11) (.cond (.tmp 60) (.seq (.ops false f182r12) .ret) .skip)) (.seq (.ops false f182r13) .ret))))))))))⟩
def f187r0:List AOp:=[oQ 1 (.box 25 (oT 0)) 0,
 oQ 2 (.alloc 25) 0]
def f187r1:List AOp:=[oQ 5 (.fieldAddr 25 (oT 1) 0) 0,
 oQ 6 (.load 23 (oT 5)) 23,
 oQ 7 (.build 23 #[]) 23,
 oQ 8 (.binOp .eql 23 (oT 6) (oT 7) 23) 4]
def f187r2:List AOp:=[oQ 9 (.load 25 (oT 1)) 25,
 oN (.store 25 (oT 2) (oT 9)) 0]
def f187r3:List AOp:=[oQ 10 (.load 25 (oT 1)) 25,
 oQ 3 (.alloc 25) 0,
 oN (.store 25 (oT 3) (oT 10)) 0]
def f187r4:List AOp:=[oQ 4 (.assign (.const (.int .u8 65))) 5]
def f187r5:List AOp:=[oM 11 4 5,
 oQ 12 (.binOp .leq 5 (oT 11) (.const (.int .u8 90)) 5) 4]
def f187r7:List AOp:=[oQ 15 (.load 25 (oT 1)) 25,
 oM 16 4 5,
 oQ 17 (cF 35 #[(oT 15),(oT 16)] #[25,5]) 4]
def f187r8:List AOp:=[oM 18 4 5,
 oQ 19 (.binOp .add 5 (oT 18) (.const (.int .u8 32)) 5) 5,
 oQ 20 (cF 78 #[(oT 3),(oT 19)] #[25,5]) 0]
def f187r9:List AOp:=[oQ 21 (.load 25 (oT 1)) 25,
 oM 22 4 5,
 oQ 23 (.binOp .add 5 (oT 22) (.const (.int .u8 32)) 5) 5,
 oQ 24 (cF 35 #[(oT 21),(oT 23)] #[25,5]) 4]
def f187r10:List AOp:=[oM 25 4 5,
 oQ 26 (cF 78 #[(oT 3),(oT 25)] #[25,5]) 0]
def f187r6:List AOp:=[oM 13 4 5,
 oQ 14 (.binOp .add 5 (oT 13) (.const (.int .u8 1)) 5) 5,
 oA 4 14 5]
def f187b0:AC:=(.seq (.seq (.ops false f187r5) (.cond (oT 12) .skip (.exit 0))) (.seq (.block 1 (.seq (.seq (.ops false f187r7) (.cond (oT 17) (.ops false f187r8) .skip)) (.seq (.ops false f187r9) (.cond (oT 24) (.ops false f187r10) .skip)))) (.ops false f187r6)))
def f187r11:List AOp:=[oQ 27 (.load 25 (oT 3)) 25,
 oN (.store 25 (oT 2) (oT 27)) 0]
def f187:AFun:=⟨28,[(.cell 2 25)],(.seq (.ops false f187r0) (.seq (.seq (.ops false f187r1) (.cond (.tmp 8) (.seq (.ops false f187r2) .ret) .skip)) (.seq (.ops false f187r3) (.seq (.seq (.ops false f187r4) (.block 0 (.loop [1,2,3,4] f187b0))) (.seq (.ops false f187r11) .ret)))))⟩
def f188r0:List AOp:=[oQ 4 (.assign (.const (.bool false))) 4]
def f188r1:List AOp:=[oM 5 0 9,
 oM 6 1 9,
 oQ 7 (cF 194 #[(oT 5),(oT 6)] #[9,9]) 3,
 oQ 8 (.binOp .geq 3 (oT 7) (.const (.int .i64 0)) 3) 4,
 oA 4 8 4]
def f188:AFun:=⟨9,[(.tmp 4)],(.seq (.ops false f188r0) (.seq (.ops false f188r1) .ret))⟩
def f189r0:List AOp:=[oQ 2 (.assign (.const (.int .i64 0))) 3]
def f189r1:List AOp:=[oM 3 0 3]
def f189r2:List AOp:=[oQ 5 (.binOp .eql 3 (oT 3) (.const (.int .i64 7)) 3) 4,
 oA 4 5 4]
def f189r3:List AOp:=[oQ 2 (.assign (.const (.int .i64 11))) 3]
def f189r4:List AOp:=[oQ 7 (.binOp .eql 3 (oT 3) (.const (.int .i64 9)) 3) 4,
 oA 6 7 4]
def f189r5:List AOp:=[oQ 2 (.assign (.const (.int .i64 13))) 3]
def f189r6:List AOp:=[oQ 9 (.binOp .eql 3 (oT 3) (.const (.int .i64 10)) 3) 4,
 oA 8 9 4]
def f189r7:List AOp:=[oQ 2 (.assign (.const (.int .i64 14))) 3]
def f189r8:List AOp:=[oQ 11 (.binOp .eql 3 (oT 3) (.const (.int .i64 11)) 3) 4,
 oA 10 11 4]
def f189r9:List AOp:=[oQ 2 (.assign (.const (.int .i64 15))) 3]
def f189r10:List AOp:=[oQ 13 (.binOp .eql 3 (oT 3) (.const (.int .i64 12)) 3) 4,
 oA 12 13 4]
def f189r11:List AOp:=[oQ 2 (.assign (.const (.int .i64 16))) 3]
def f189r12:List AOp:=[oQ 15 (.binOp .eql 3 (oT 3) (.const (.int .i64 13)) 3) 4,
 oA 14 15 4]
def f189r13:List AOp:=[oQ 2 (.assign (.const (.int .i64 17))) 3]
def f189r14:List AOp:=[oQ 2 (.assign (.const (.int .i64 0))) 3]
def f189:AFun:=⟨16,[(.tmp 2)],(.seq (.ops false f189r0) (.seq (.seq (.ops false f189r1) (.block 0 (.seq (.ops false f189r2) (.cond (.tmp 4) (.seq (.ops false f189r3) .ret) (.seq (.ops false f189r4) (.cond (.tmp 6) (.seq (.ops false f189r5) .ret) (.seq (.ops false f189r6) (.cond (.tmp 8) (.seq (.ops false f189r7) .ret) (.seq (.ops false f189r8) (.cond (.tmp 10) (.seq (.ops false f189r9) .ret) (.seq (.ops false f189r10) (.cond (.tmp 12) (.seq (.ops false f189r11) .ret) (.seq (.ops false f189r12) (.cond (.tmp 14) (.seq (.ops false f189r13) .ret) .skip)))))))))))))) (.seq (.ops false f189r14) .ret)))⟩
def f194r0:List AOp:=[oQ 4 (.assign (.const (.int .i64 0))) 3]
def f194r1:List AOp:=[oM 5 0 9,
 oM 6 1 9,
 oQ 7 (cF 196 #[(oT 5),(oT 6)] #[9,9]) 3,
 oA 4 7 3]
def f194:AFun:=⟨8,[(.tmp 4)],(.seq (.ops false f194r0) (.seq (.ops false f194r1) .ret))⟩
def f196r0:List AOp:=[oQ 4 (.assign (.const (.int .i64 0))) 3]
def f196r1:List AOp:=[oM 14 1 9,
 oQ 15 (cB .len #[(oT 14)] #[9]) 3,
 oA 5 15 3]
def f196r2:List AOp:=[oM 17 5 3,
 oQ 18 (.binOp .eql 3 (oT 17) (.const (.int .i64 0)) 3) 4,
 oM 19 18 4,
 oG 20 (.move (oT 1)) 9 19 false,
 oG 21 (.move (oT 0)) 9 19 false,
 oG 22 (.binOp .eql 9 (oT 20) (oT 21) 9) 4 19 false,
 oQ 23 (.pick (oT 19) (.const (.bool true)) (oT 22)) 4,
 oA 16 23 4]
def f196r3:List AOp:=[oQ 4 (.assign (.const (.int .i64 0))) 3]
def f196r4:List AOp:=[oM 25 5 3,
 oQ 26 (.binOp .eql 3 (oT 25) (.const (.int .i64 1)) 3) 4,
 oA 24 26 4]
def f196r5:List AOp:=[oM 27 0 9,
 oM 28 1 9,
 oQ 29 (.index 9 (oT 28) (.const (.int .i64 0))) 5,
 oQ 30 (cF 142 #[(oT 27),(oT 29)] #[9,5]) 3,
 oA 4 30 3]
def f196r6:List AOp:=[oM 32 5 3,
 oM 33 0 9,
 oQ 34 (cB .len #[(oT 33)] #[9]) 3,
 oQ 35 (.binOp .geq 3 (oT 32) (oT 34) 3) 4,
 oA 31 35 4]
def f196r7:List AOp:=[oQ 4 (.assign (.const (.int .i64 (-1)))) 3]
def f196r8:List AOp:=[oM 37 5 3,
 oQ 38 (.load 3 (.global 2)) 3,
 oQ 39 (.binOp .leq 3 (oT 37) (oT 38) 3) 4,
 oM 40 39 4,
 oG 41 (.move (oT 0)) 9 40 true,
 oG 42 (cB .len #[(oT 41)] #[9]) 3 40 true,
 oG 43 (.binOp .leq 3 (oT 42) (.const (.int .i64 64)) 3) 4 40 true,
 oQ 44 (.pick (oT 40) (oT 43) (.const (.bool false))) 4,
 oA 36 44 4]
def f196r9:List AOp:=[oM 45 0 9,
 oM 46 1 9,
 oQ 47 (cF 197 #[(oT 45),(oT 46)] #[9,9]) 3,
 oA 4 47 3]
def f196r10:List AOp:=[oM 48 1 9,
 oQ 49 (.index 9 (oT 48) (.const (.int .i64 0))) 5,
 oA 6 49 5]
def f196r11:List AOp:=[oM 50 1 9,
 oQ 51 (.index 9 (oT 50) (.const (.int .i64 1))) 5,
 oA 7 51 5]
def f196r12:List AOp:=[oQ 8 (.assign (.const (.int .i64 0))) 3]
def f196r13:List AOp:=[oM 52 0 9,
 oQ 53 (cB .len #[(oT 52)] #[9]) 3,
 oM 54 5 3,
 oQ 55 (.binOp .sub 3 (oT 53) (oT 54) 3) 3,
 oQ 56 (.binOp .add 3 (oT 55) (.const (.int .i64 1)) 3) 3,
 oA 9 56 3]
def f196r14:List AOp:=[oQ 10 (.assign (.const (.int .i64 0))) 3]
def f196r15:List AOp:=[oM 57 8 3,
 oM 58 9 3,
 oQ 59 (.binOp .lss 3 (oT 57) (oT 58) 3) 4]
def f196r16:List AOp:=[oM 60 0 9,
 oM 61 8 3,
 oQ 62 (.index 9 (oT 60) (oT 61)) 5,
 oM 63 6 5,
 oQ 64 (.binOp .neq 5 (oT 62) (oT 63) 5) 4]
def f196r17:List AOp:=[oM 65 0 9,
 oM 66 8 3,
 oQ 67 (.binOp .add 3 (oT 66) (.const (.int .i64 1)) 3) 3,
 oM 68 9 3,
 oQ 69 (.slice 9 (oT 65) (some (oT 67)) (some (oT 68)) none) 9,
 oM 70 6 5,
 oQ 71 (cF 142 #[(oT 69),(oT 70)] #[9,5]) 3,
 oA 11 71 3]
def f196r18:List AOp:=[oM 72 11 3,
 oQ 73 (.binOp .lss 3 (oT 72) (.const (.int .i64 0)) 3) 4]
def f196r19:List AOp:=[oQ 4 (.assign (.const (.int .i64 (-1)))) 3]
def f196r20:List AOp:=[oM 74 8 3,
 oM 75 11 3,
 oQ 76 (.binOp .add 3 (oT 75) (.const (.int .i64 1)) 3) 3,
 oQ 77 (.binOp .add 3 (oT 74) (oT 76) 3) 3,
 oA 8 77 3]
def f196r21:List AOp:=[oM 78 0 9,
 oM 79 8 3,
 oQ 80 (.binOp .add 3 (oT 79) (.const (.int .i64 1)) 3) 3,
 oQ 81 (.index 9 (oT 78) (oT 80)) 5,
 oM 82 7 5,
 oQ 83 (.binOp .eql 5 (oT 81) (oT 82) 5) 4,
 oM 84 83 4,
 oG 85 (.move (oT 0)) 9 84 true,
 oG 86 (.move (oT 8)) 3 84 true,
 oG 87 (.move (oT 8)) 3 84 true,
 oG 88 (.move (oT 5)) 3 84 true,
 oG 89 (.binOp .add 3 (oT 87) (oT 88) 3) 3 84 true,
 oG 90 (.slice 9 (oT 85) (some (oT 86)) (some (oT 89)) none) 9 84 true,
 oG 91 (.move (oT 1)) 9 84 true,
 oG 92 (.binOp .eql 9 (oT 90) (oT 91) 9) 4 84 true,
 oQ 93 (.pick (oT 84) (oT 92) (.const (.bool false))) 4]
def f196r22:List AOp:=[oM 94 8 3,
 oA 4 94 3]
def f196r23:List AOp:=[oM 95 8 3,
 oQ 96 (.binOp .add 3 (oT 95) (.const (.int .i64 1)) 3) 3,
 oA 8 96 3]
def f196r24:List AOp:=[oM 97 10 3,
 oQ 98 (.binOp .add 3 (oT 97) (.const (.int .i64 1)) 3) 3,
 oA 10 98 3]
def f196r25:List AOp:=[oM 99 5 3,
 oQ 100 (.load 3 (.global 2)) 3,
 oQ 101 (.binOp .leq 3 (oT 99) (oT 100) 3) 4,
 oM 102 101 4,
 oG 103 (.move (oT 10)) 3 102 true,
 oG 104 (.move (oT 8)) 3 102 true,
 oG 105 (cF 198 #[(oT 104)] #[3]) 3 102 true,
 oG 106 (.binOp .gtr 3 (oT 103) (oT 105) 3) 4 102 true,
 oQ 107 (.pick (oT 102) (oT 106) (.const (.bool false))) 4]
def f196r26:List AOp:=[oM 108 0 9,
 oM 109 8 3,
 oQ 110 (.slice 9 (oT 108) (some (oT 109)) none none) 9,
 oM 111 1 9,
 oQ 112 (cF 197 #[(oT 110),(oT 111)] #[9,9]) 3,
 oA 12 112 3]
def f196r27:List AOp:=[oM 113 12 3,
 oQ 114 (.binOp .geq 3 (oT 113) (.const (.int .i64 0)) 3) 4]
def f196r28:List AOp:=[oM 115 12 3,
 oM 116 8 3,
 oQ 117 (.binOp .add 3 (oT 115) (oT 116) 3) 3,
 oA 4 117 3]
def f196r29:List AOp:=[oQ 4 (.assign (.const (.int .i64 (-1)))) 3]
def f196r30:List AOp:=[oM 118 5 3,
 oQ 119 (.load 3 (.global 2)) 3,
 oQ 120 (.binOp .gtr 3 (oT 118) (oT 119) 3) 4,
 oM 121 120 4,
 oG 122 (.move (oT 10)) 3 121 true,
 oG 123 (.move (oT 8)) 3 121 true,
 oG 124 (.binOp .shr 3 (oT 123) (.const (.int .u64 4)) 167) 3 121 true,
 oG 125 (.binOp .add 3 (.const (.int .i64 4)) (oT 124) 3) 3 121 true,
 oG 126 (.binOp .geq 3 (oT 122) (oT 125) 3) 4 121 true,
 oQ 127 (.pick (oT 121) (oT 126) (.const (.bool false))) 4,
 oM 128 127 4,
 oG 129 (.move (oT 8)) 3 128 true,
 oG 130 (.move (oT 9)) 3 128 true,
 oG 131 (.binOp .lss 3 (oT 129) (oT 130) 3) 4 128 true,
 oQ 132 (.pick (oT 128) (oT 131) (.const (.bool false))) 4]
def f196r31:List AOp:=[oM 133 0 9,
 oM 134 8 3,
 oQ 135 (.slice 9 (oT 133) (some (oT 134)) none none) 9,
 oM 136 1 9,
 oQ 137 (cF 199 #[(oT 135),(oT 136)] #[9,9]) 3,
 oA 13 137 3]
def f196r32:List AOp:=[oM 138 13 3,
 oQ 139 (.binOp .lss 3 (oT 138) (.const (.int .i64 0)) 3) 4]
def f196r33:List AOp:=[oQ 4 (.assign (.const (.int .i64 (-1)))) 3]
def f196r34:List AOp:=[oM 140 8 3,
 oM 141 13 3,
 oQ 142 (.binOp .add 3 (oT 140) (oT 141) 3) 3,
 oA 4 142 3]
def f196b0:AC:=(.seq (.seq (.ops false f196r15) (.cond (oT 59) .skip (.exit 1))) (.block 2 (.seq (.seq (.ops false f196r16) (.cond (oT 64) (.seq (.ops false f196r17) (.seq (.seq (.ops false f196r18) (.cond (oT 73) (.seq (.ops false f196r19) .ret) .skip)) (.ops false f196r20))) .skip)) (.seq (.seq (.ops false f196r21) (.cond (oT 93) (.seq (.ops false f196r22) .ret) .skip)) (.seq (.ops false f196r23) (.seq (.ops false f196r24) (.seq (.ops false f196r25) (.cond (oT 107) (.seq (.ops false f196r26) (.seq (.seq (.ops false f196r27) (.cond (oT 114) (.seq (.ops false f196r28) .ret) .skip)) (.seq (.ops false f196r29) .ret))) (.seq (.ops false f196r30) (.cond (oT 132) (.seq (.ops false f196r31) (.seq (.seq (.ops false f196r32) (.cond (oT 139) (.seq (.ops false f196r33) .ret) .skip)) (.seq (.ops false f196r34) .ret))) .skip))))))))))
def f196r35:List AOp:=[oQ 4 (.assign (.const (.int .i64 (-1)))) 3]
def f196:AFun:=⟨143,[(.tmp 4)],(.seq (.ops false f196r0) (.seq (.ops false f196r1) (.seq (.block 0 (.seq (.ops false f196r2) (.cond (.tmp 16) (.seq (.ops false f196r3) .ret) (.seq (.ops false f196r4) (.cond (.tmp 24) (.seq (.ops false f196r5) .ret) (.seq (.ops false f196r6) (.cond (.tmp 31) (.seq (.ops false f196r7) .ret) (.seq (.ops false f196r8) (.cond (.tmp 36) (.seq (.ops false f196r9) .ret) .skip))))))))) (.seq (.ops false f196r10) (.seq (.ops false f196r11) (.seq (.ops false f196r12) (.seq (.ops false f196r13) (.seq (.ops false f196r14) (.seq (.block 1 (.loop [0,1,5,6,7,8,9,10] f196b0)) (.seq (.ops false f196r35) .ret))))))))))⟩
def f198r0:List AOp:=[oQ 2 (.assign (.const (.int .i64 0))) 3]
def f198r1:List AOp:=[oM 3 0 3,
 oQ 4 (.binOp .add 3 (oT 3) (.const (.int .i64 16)) 3) 3,
 oQ 5 (.binOp .quo 3 (oT 4) (.const (.int .i64 8)) 3) 3,
 oA 2 5 3]
def f198:AFun:=⟨6,[(.tmp 2)],(.seq (.ops false f198r0) (.seq (.ops false f198r1) .ret))⟩
def f199r0:List AOp:=[oQ 4 (.assign (.const (.int .i64 0))) 3]
def f199r1:List AOp:=[oM 12 1 9,
 oQ 13 (cF 200 #[(oT 12)] #[9]) 228,
 oM 11 13 228,
 oQ 14 (.extract (oT 11) 0) 203,
 oQ 15 (.extract (oT 11) 1) 203,
 oA 5 14 203,
 oA 6 15 203]
def f199r2:List AOp:=[oM 16 1 9,
 oQ 17 (cB .len #[(oT 16)] #[9]) 3,
 oA 7 17 3]
def f199r3:List AOp:=[oQ 8 (.assign (.const (.int .u32 0))) 203]
def f199r4:List AOp:=[oQ 9 (.assign (.const (.int .i64 0))) 3]
def f199r5:List AOp:=[oM 18 9 3,
 oM 19 7 3,
 oQ 20 (.binOp .lss 3 (oT 18) (oT 19) 3) 4]
def f199r7:List AOp:=[oM 23 8 203,
 oQ 24 (.binOp .mul 203 (oT 23) (.const (.int .u32 16777619)) 203) 203,
 oM 25 0 9,
 oM 26 9 3,
 oQ 27 (.index 9 (oT 25) (oT 26)) 5,
 oQ 28 (.convert 5 203 (oT 27)) 203,
 oQ 29 (.binOp .add 203 (oT 24) (oT 28) 203) 203,
 oA 8 29 203]
def f199r6:List AOp:=[oM 21 9 3,
 oQ 22 (.binOp .add 3 (oT 21) (.const (.int .i64 1)) 3) 3,
 oA 9 22 3]
def f199b0:AC:=(.seq (.seq (.ops false f199r5) (.cond (oT 20) .skip (.exit 0))) (.seq (.block 1 (.ops false f199r7)) (.ops false f199r6)))
def f199r8:List AOp:=[oM 30 8 203,
 oM 31 5 203,
 oQ 32 (.binOp .eql 203 (oT 30) (oT 31) 203) 4,
 oM 33 32 4,
 oG 34 (.move (oT 0)) 9 33 true,
 oG 35 (.move (oT 7)) 3 33 true,
 oG 36 (.slice 9 (oT 34) none (some (oT 35)) none) 9 33 true,
 oG 37 (.move (oT 1)) 9 33 true,
 oG 38 (.binOp .eql 9 (oT 36) (oT 37) 9) 4 33 true,
 oQ 39 (.pick (oT 33) (oT 38) (.const (.bool false))) 4]
def f199r9:List AOp:=[oQ 4 (.assign (.const (.int .i64 0))) 3]
def f199r10:List AOp:=[oM 40 7 3,
 oA 10 40 3]
def f199r11:List AOp:=[oM 41 10 3,
 oM 42 0 9,
 oQ 43 (cB .len #[(oT 42)] #[9]) 3,
 oQ 44 (.binOp .lss 3 (oT 41) (oT 43) 3) 4]
def f199r12:List AOp:=[oM 45 8 203,
 oQ 46 (.binOp .mul 203 (oT 45) (.const (.int .u32 16777619)) 203) 203,
 oA 8 46 203]
def f199r13:List AOp:=[oM 47 8 203,
 oM 48 0 9,
 oM 49 10 3,
 oQ 50 (.index 9 (oT 48) (oT 49)) 5,
 oQ 51 (.convert 5 203 (oT 50)) 203,
 oQ 52 (.binOp .add 203 (oT 47) (oT 51) 203) 203,
 oA 8 52 203]
def f199r14:List AOp:=[oM 53 8 203,
 oM 54 6 203,
 oM 55 0 9,
 oM 56 10 3,
 oM 57 7 3,
 oQ 58 (.binOp .sub 3 (oT 56) (oT 57) 3) 3,
 oQ 59 (.index 9 (oT 55) (oT 58)) 5,
 oQ 60 (.convert 5 203 (oT 59)) 203,
 oQ 61 (.binOp .mul 203 (oT 54) (oT 60) 203) 203,
 oQ 62 (.binOp .sub 203 (oT 53) (oT 61) 203) 203,
 oA 8 62 203]
def f199r15:List AOp:=[oM 63 10 3,
 oQ 64 (.binOp .add 3 (oT 63) (.const (.int .i64 1)) 3) 3,
 oA 10 64 3]
def f199r16:List AOp:=[oM 65 8 203,
 oM 66 5 203,
 oQ 67 (.binOp .eql 203 (oT 65) (oT 66) 203) 4,
 oM 68 67 4,
 oG 69 (.move (oT 0)) 9 68 true,
 oG 70 (.move (oT 10)) 3 68 true,
 oG 71 (.move (oT 7)) 3 68 true,
 oG 72 (.binOp .sub 3 (oT 70) (oT 71) 3) 3 68 true,
 oG 73 (.move (oT 10)) 3 68 true,
 oG 74 (.slice 9 (oT 69) (some (oT 72)) (some (oT 73)) none) 9 68 true,
 oG 75 (.move (oT 1)) 9 68 true,
 oG 76 (.binOp .eql 9 (oT 74) (oT 75) 9) 4 68 true,
 oQ 77 (.pick (oT 68) (oT 76) (.const (.bool false))) 4]
def f199r17:List AOp:=[oM 78 10 3,
 oM 79 7 3,
 oQ 80 (.binOp .sub 3 (oT 78) (oT 79) 3) 3,
 oA 4 80 3]
def f199b1:AC:=(.seq (.seq (.ops false f199r11) (.cond (oT 44) .skip (.exit 2))) (.block 3 (.seq (.ops false f199r12) (.seq (.ops false f199r13) (.seq (.ops false f199r14) (.seq (.ops false f199r15) (.seq (.ops false f199r16) (.cond (oT 77) (.seq (.ops false f199r17) .ret) .skip))))))))
def f199r18:List AOp:=[oQ 4 (.assign (.const (.int .i64 (-1)))) 3]
def f199:AFun:=⟨81,[(.tmp 4)],(.seq (.ops false f199r0) (.seq (.ops false f199r1) (.seq (.ops false f199r2) (.seq (.ops false f199r3) (.seq (.seq (.ops false f199r4) (.block 0 (.loop [0,1,5,6,7,8,9] f199b0))) (.seq (.seq (.ops false f199r8) (.cond (.tmp 39) (.seq (.ops false f199r9) .ret) .skip)) (.seq (.seq (.ops false f199r10) (.block 2 (.loop [0,1,5,6,7,8,10] f199b1))) (.seq (.ops false f199r18) .ret))))))))⟩
def f200r0:List AOp:=[oQ 2 (.assign (.const (.int .u32 0))) 203,
 oQ 3 (.assign (.const (.int .u32 0))) 203]
def f200r1:List AOp:=[oQ 4 (.assign (.const (.int .u32 0))) 203]
def f200r2:List AOp:=[oQ 5 (.assign (.const (.int .i64 0))) 3]
def f200r3:List AOp:=[oM 9 5 3,
 oM 10 0 9,
 oQ 11 (cB .len #[(oT 10)] #[9]) 3,
 oQ 12 (.binOp .lss 3 (oT 9) (oT 11) 3) 4]
def f200r5:List AOp:=[oM 15 4 203,
 oQ 16 (.binOp .mul 203 (oT 15) (.const (.int .u32 16777619)) 203) 203,
 oM 17 0 9,
 oM 18 5 3,
 oQ 19 (.index 9 (oT 17) (oT 18)) 5,
 oQ 20 (.convert 5 203 (oT 19)) 203,
 oQ 21 (.binOp .add 203 (oT 16) (oT 20) 203) 203,
 oA 4 21 203]
def f200r4:List AOp:=[oM 13 5 3,
 oQ 14 (.binOp .add 3 (oT 13) (.const (.int .i64 1)) 3) 3,
 oA 5 14 3]
def f200b0:AC:=(.seq (.seq (.ops false f200r3) (.cond (oT 12) .skip (.exit 0))) (.seq (.block 1 (.ops false f200r5)) (.ops false f200r4)))
def f200r6:List AOp:=[oQ 6 (.assign (.const (.int .u32 1))) 203,
 oQ 7 (.assign (.const (.int .u32 16777619))) 203]
def f200r7:List AOp:=[oM 22 0 9,
 oQ 23 (cB .len #[(oT 22)] #[9]) 3,
 oA 8 23 3]
def f200r8:List AOp:=[oM 24 8 3,
 oQ 25 (.binOp .gtr 3 (oT 24) (.const (.int .i64 0)) 3) 4]
def f200r10:List AOp:=[oM 28 8 3,
 oQ 29 (.binOp .and 3 (oT 28) (.const (.int .i64 1)) 3) 3,
 oQ 30 (.binOp .neq 3 (oT 29) (.const (.int .i64 0)) 3) 4]
def f200r11:List AOp:=[oM 31 6 203,
 oM 32 7 203,
 oQ 33 (.binOp .mul 203 (oT 31) (oT 32) 203) 203,
 oA 6 33 203]
def f200r12:List AOp:=[oM 34 7 203,
 oM 35 7 203,
 oQ 36 (.binOp .mul 203 (oT 34) (oT 35) 203) 203,
 oA 7 36 203]
def f200r9:List AOp:=[oM 26 8 3,
 oQ 27 (.binOp .shr 3 (oT 26) (.const (.int .u64 1)) 167) 3,
 oA 8 27 3]
def f200b1:AC:=(.seq (.seq (.ops false f200r8) (.cond (oT 25) .skip (.exit 2))) (.seq (.block 3 (.seq (.seq (.ops false f200r10) (.cond (oT 30) (.ops false f200r11) .skip)) (.ops false f200r12))) (.ops false f200r9)))
def f200r13:List AOp:=[oM 37 4 203,
 oM 38 6 203,
 oA 2 37 203,
 oA 3 38 203]
def f200:AFun:=⟨39,[(.tmp 2),(.tmp 3)],(.seq (.ops false f200r0) (.seq (.ops false f200r1) (.seq (.seq (.ops false f200r2) (.block 0 (.loop [0,4,5] f200b0))) (.seq (.ops false f200r6) (.seq (.seq (.ops false f200r7) (.block 2 (.loop [4,6,7,8] f200b1))) (.seq (.ops false f200r13) .ret))))))⟩
def f69r2:List AOp:=[oM 6 0 27,
 oQ 7 (.build 165 #[(0,(oT 6))]) 165,
 oQ 8 (.box 165 (oT 7)) 163,
 oA 4 8 163]
def f69r3:List AOp:=[oM 9 4 163,
 oQ 10 (cF 108 #[(oT 9)] #[163]) 37,
 oN (.store 37 (oT 2) (oT 10)) 0]
def f69r4:List AOp:=[oM 11 4 163,
 oQ 12 (.nilCheck (oT 11)) 0,
 oQ 13 (.fieldAddr 165 (oT 12) 1) 0,
 oQ 14 (.load 3 (oT 13)) 3,
 oM 15 0 27,
 oQ 16 (cB .len #[(oT 15)] #[27]) 3,
 oQ 17 (.binOp .lss 3 (oT 14) (oT 16) 3) 4]
def f69r5:List AOp:=[oQ 18 (.build 161 #[]) 161,
 oQ 19 (.makeInterface 161 (oT 18)) 20,
 oN (.panic (oT 19)) 0]
def f69r6:List AOp:=[oQ 20 (.load 37 (oT 2)) 37,
 oN (.store 37 (oT 2) (oT 20)) 0,
 oN (.store 4 (oT 3) (.const (.bool true))) 0]
def f107r1:List AOp:=[oM 9 3 4]
def f107r2:List AOp:=[
  ⟨some 10,(.build 37 #[]),37,none⟩,
  ⟨none,(.store 37 (.tmp 0) (.tmp 10)),0,none⟩,
  ⟨none,(.store 4 (.tmp 1) (.const (.bool false))),0,none⟩]
def d69:DFun:=⟨21,[(.cell 2 37),(.cell 3 4)],[⟨some 2,(.alloc 37),0,none⟩,⟨some 3,(.alloc 4),0,none⟩],[⟨some 5,(.makeFunc (.func 107) #[] #[(.tmp 2),(.tmp 3)]),1,none⟩],5,(.seq (.ops false f69r2) (.seq (.ops false f69r3) (.seq (.seq (.ops false f69r4) (.cond (.tmp 17) (.ops false f69r5) .skip)) (.seq (.ops false f69r6) .ret)))),107,11,5,[⟨some 6,(.typeAssert (.tmp 5) 20 161 true),162,none⟩,⟨some 4,(.move (.tmp 6)),162,none⟩,⟨some 7,(.extract (.tmp 4) 0),161,none⟩,⟨some 8,(.extract (.tmp 4) 1),4,none⟩,⟨some 2,(.alloc 161),0,none⟩,⟨none,(.store 161 (.tmp 2) (.tmp 7)),0,none⟩,⟨some 3,(.assign (.tmp 8)),4,none⟩],(.seq (.ops false f107r1) (.cond (.tmp 9) (.ops false f107r2) .skip))⟩
def f69:AFun:=⟨21,[(.cell 2 37),(.cell 3 4)],.goto 0⟩
def F:FuncId → Option AFun
  | 12=>some f12
  | 16=>some f16
  | 18=>some f18
  | 26=>some f26
  | 29=>some f29
  | 30=>some f30
  | 32=>some f32
  | 33=>some f33
  | 35=>some f35
  | 36=>some f36
  | 37=>some f37
  | 38=>some f38
  | 40=>some f40
  | 41=>some f41
  | 44=>some f44
  | 46=>some f46
  | 47=>some f47
  | 48=>some f48
  | 49=>some f49
  | 57=>some f57
  | 60=>some f60
  | 61=>some f61
  | 62=>some f62
  | 63=>some f63
  | 64=>some f64
  | 65=>some f65
  | 66=>some f66
  | 68=>some f68
  | 72=>some f72
  | 73=>some f73
  | 74=>some f74
  | 75=>some f75
  | 76=>some f76
  | 77=>some f77
  | 78=>some f78
  | 86=>some f86
  | 87=>some f87
  | 88=>some f88
  | 89=>some f89
  | 90=>some f90
  | 91=>some f91
  | 96=>some f96
  | 97=>some f97
  | 98=>some f98
  | 99=>some f99
  | 100=>some f100
  | 102=>some f102
  | 103=>some f103
  | 104=>some f104
  | 105=>some f105
  | 106=>some f106
  | 108=>some f108
  | 109=>some f109
  | 110=>some f110
  | 111=>some f111
  | 112=>some f112
  | 113=>some f113
  | 114=>some f114
  | 115=>some f115
  | 120=>some f120
  | 121=>some f121
  | 124=>some f124
  | 125=>some f125
  | 136=>some f136
  | 137=>some f137
  | 138=>some f138
  | 139=>some f139
  | 140=>some f140
  | 141=>some f141
  | 142=>some f142
  | 143=>some f143
  | 144=>some f144
  | 145=>some f145
  | 146=>some f146
  | 147=>some f147
  | 148=>some f148
  | 149=>some f149
  | 152=>some f152
  | 154=>some f154
  | 155=>some f155
  | 156=>some f156
  | 157=>some f157
  | 158=>some f158
  | 159=>some f159
  | 160=>some f160
  | 161=>some f161
  | 162=>some f162
  | 163=>some f163
  | 164=>some f164
  | 165=>some f165
  | 166=>some f166
  | 170=>some f170
  | 171=>some f171
  | 172=>some f172
  | 173=>some f173
  | 174=>some f174
  | 175=>some f175
  | 177=>some f177
  | 178=>some f178
  | 179=>some f179
  | 180=>some f180
  | 181=>some f181
  | 182=>some f182
  | 187=>some f187
  | 188=>some f188
  | 189=>some f189
  | 194=>some f194
  | 196=>some f196
  | 198=>some f198
  | 199=>some f199
  | 200=>some f200
  | 69=>some f69
  | _=>none
def Df:FuncId → Option DFun
  | 69=>some d69
  | _=>none
end Go.Proofs.YtaadjlpfdajggaaGreatDoor.C
