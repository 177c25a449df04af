import Derived.Test.YtcjnmmeibppblaaDoorTeAm0
namespace Go.Proofs.YtcjnmmeibppblaaDoor.C
open Go Go.AM
def f3r0:List AOp:=[oQ 2 (.assign (.const (.bool false))) 4]
def f3r1:List AOp:=[oM 7 0 9,
 oM 8 0 9,
 oQ 9 (cB .len #[(oT 8)] #[9]) 3,
 oQ 10 (cB .min #[(oT 9),(.const (.int .i64 1100))] #[3,3]) 3,
 oQ 11 (.slice 9 (oT 7) none (some (oT 10)) none) 9,
 oA 0 11 9]
def f3r2:List AOp:=[oM 13 0 9,
 oQ 14 (cF 10 #[(oT 13)] #[9]) 24,
 oM 12 14 24,
 oQ 15 (.extract (oT 12) 0) 22,
 oQ 16 (.extract (oT 12) 1) 23,
 oA 3 15 22,
 oA 4 16 23]
def f3r3:List AOp:=[oM 18 0 9,
 oQ 19 (cF 11 #[(oT 18)] #[9]) 27,
 oM 17 19 27,
 oQ 20 (.extract (oT 17) 0) 26,
 oQ 21 (.extract (oT 17) 1) 23,
 oA 5 20 26,
 oA 6 21 23]
def f3r4p0:List AOp:=[oM 22 3 22,
 oQ 23 (cF 13 #[(oT 22)] #[22]) 26,
 oM 24 5 26,
 oQ 25 (cF 12 #[(oT 23),(oT 24)] #[26,26]) 4,
 oM 26 25 4,
 oG 27 (.move (oT 4)) 23 26 true,
 oG 28 (.move (oT 6)) 23 26 true,
 oG 29 (.binOp .eql 23 (oT 27) (oT 28) 23) 4 26 true,
 oQ 30 (.pick (oT 26) (oT 29) (.const (.bool false))) 4]
def f3r4p1:List AOp:=[oM 31 30 4,
 oG 32 (cF 14 #[] #[]) 4 31 true,
 oQ 33 (.pick (oT 31) (oT 32) (.const (.bool false))) 4]
def f3r4p2:List AOp:=[oA 2 33 4]
def f3r4:List AOp:=f3r4p0 ++ (f3r4p1 ++ f3r4p2)
def f3:AFun:=⟨34,[(.tmp 2)],(.seq (.ops false f3r0) (.seq (.ops false f3r1) (.seq (.ops false f3r2) (.seq (.ops false f3r3) (.seq (.ops false f3r4) .ret)))))⟩
def f10r0:List AOp:=[oQ 2 (.assign (.const (.slice none 0 0))) 22,
 oQ 3 (.assign (.const (.int .i64 0))) 23]
def f10r1:List AOp:=[oM 8 0 9,
 oQ 9 (cB .len #[(oT 8)] #[9]) 3,
 oQ 10 (.binOp .gtr 3 (oT 9) (.const (.int .i64 1000)) 3) 4]
def f10r2:List AOp:=[oQ 2 (.assign (.const (.slice none 0 0))) 22,
 oQ 3 (.assign (.const (.int .i64 4))) 23]
def f10r3:List AOp:=[oQ 4 (.assign (.const (.slice none 0 0))) 22]
def f10r4:List AOp:=[oM 11 0 9,
 oQ 12 (.binOp .neq 9 (oT 11) (.const (.string { data:=#[] })) 9) 4]
def f10r5:List AOp:=[oM 14 0 9,
 oQ 15 (cF 23 #[(oT 14)] #[9]) 56,
 oM 13 15 56,
 oQ 16 (.extract (oT 13) 0) 46,
 oQ 17 (.extract (oT 13) 1) 3,
 oQ 18 (.extract (oT 13) 2) 23,
 oQ 5 (.alloc 46) 0,
 oN (.store 46 (oT 5) (oT 16)) 0,
 oA 6 17 3,
 oA 7 18 23]
def f10r6:List AOp:=[oM 19 7 23,
 oQ 20 (.binOp .neq 23 (oT 19) (.const (.int .i64 0)) 23) 4]
def f10r7:List AOp:=[oM 21 7 23,
 oQ 2 (.assign (.const (.slice none 0 0))) 22,
 oA 3 21 23]
def f10r8:List AOp:=[oM 22 4 22,
 oQ 23 (.load 46 (oT 5)) 46,
 oQ 24 (.buildSlice 22 1 #[(0,(oT 23))]) 22,
 oQ 25 (cB .append #[(oT 22),(oT 24)] #[22,22]) 22,
 oM 26 0 9,
 oM 27 6 3,
 oQ 28 (.slice 9 (oT 26) (some (oT 27)) none none) 9,
 oA 4 25 22,
 oA 0 28 9]
def f10b0:AC:=(.seq (.seq (.ops false f10r4) (.cond (oT 12) .skip (.exit 0))) (.block 1 (.seq (.ops false f10r5) (.seq (.seq (.ops false f10r6) (.cond (oT 20) (.seq (.ops false f10r7) .ret) .skip)) (.ops false f10r8)))))
def f10r9:List AOp:=[oM 29 4 22,
 oA 2 29 22,
 oQ 3 (.assign (.const (.int .i64 0))) 23]
def f10:AFun:=⟨30,[(.tmp 2),(.tmp 3)],(.seq (.ops false f10r0) (.seq (.seq (.ops false f10r1) (.cond (.tmp 10) (.seq (.ops false f10r2) .ret) .skip)) (.seq (.ops false f10r3) (.seq (.block 0 (.loop [0,4] f10b0)) (.seq (.ops false f10r9) .ret)))))⟩
def f11r0:List AOp:=[oQ 2 (.assign (.const (.slice none 0 0))) 26,
 oQ 3 (.assign (.const (.int .i64 0))) 23]
def f11r1:List AOp:=[oM 9 0 9,
 oQ 10 (cB .len #[(oT 9)] #[9]) 3,
 oQ 11 (.binOp .gtr 3 (oT 10) (.const (.int .i64 1000)) 3) 4]
def f11r2:List AOp:=[oQ 2 (.assign (.const (.slice none 0 0))) 26,
 oQ 3 (.assign (.const (.int .i64 4))) 23]
def f11r3:List AOp:=[oQ 12 (.buildSlice 26 0 #[]) 26,
 oA 4 12 26,
 oQ 5 (.assign (.const (.int .i64 0))) 3]
def f11r4:List AOp:=[oM 13 5 3,
 oM 14 0 9,
 oQ 15 (cB .len #[(oT 14)] #[9]) 3,
 oQ 16 (.binOp .lss 3 (oT 13) (oT 15) 3) 4]
def f11r5:List AOp:=[oM 18 0 9,
 oM 19 5 3,
 oQ 20 (cF 24 #[(oT 18),(oT 19)] #[9,3]) 60,
 oM 17 20 60,
 oQ 21 (.extract (oT 17) 0) 59,
 oQ 22 (.extract (oT 17) 1) 3,
 oQ 23 (.extract (oT 17) 2) 23,
 oQ 6 (.alloc 59) 0,
 oN (.store 59 (oT 6) (oT 21)) 0,
 oA 7 22 3,
 oA 8 23 23]
def f11r6:List AOp:=[oM 24 8 23,
 oQ 25 (.binOp .neq 23 (oT 24) (.const (.int .i64 0)) 23) 4]
def f11r7:List AOp:=[oM 26 8 23,
 oQ 2 (.assign (.const (.slice none 0 0))) 26,
 oA 3 26 23]
def f11r8:List AOp:=[oM 27 4 26,
 oQ 28 (.load 59 (oT 6)) 59,
 oQ 29 (.buildSlice 26 1 #[(0,(oT 28))]) 26,
 oQ 30 (cB .append #[(oT 27),(oT 29)] #[26,26]) 26,
 oA 4 30 26]
def f11r9:List AOp:=[oM 31 7 3,
 oA 5 31 3]
def f11b0:AC:=(.seq (.seq (.ops false f11r4) (.cond (oT 16) .skip (.exit 0))) (.block 1 (.seq (.ops false f11r5) (.seq (.seq (.ops false f11r6) (.cond (oT 25) (.seq (.ops false f11r7) .ret) .skip)) (.seq (.ops false f11r8) (.ops false f11r9))))))
def f11r10:List AOp:=[oM 32 4 26,
 oA 2 32 26,
 oQ 3 (.assign (.const (.int .i64 0))) 23]
def f11:AFun:=⟨33,[(.tmp 2),(.tmp 3)],(.seq (.ops false f11r0) (.seq (.seq (.ops false f11r1) (.cond (.tmp 11) (.seq (.ops false f11r2) .ret) .skip)) (.seq (.ops false f11r3) (.seq (.block 0 (.loop [0,4,5] f11b0)) (.seq (.ops false f11r10) .ret)))))⟩
def f12r0:List AOp:=[oQ 4 (.assign (.const (.bool false))) 4]
def f12r1:List AOp:=[oM 6 0 26,
 oQ 7 (cB .len #[(oT 6)] #[26]) 3,
 oM 8 1 26,
 oQ 9 (cB .len #[(oT 8)] #[26]) 3,
 oQ 10 (.binOp .neq 3 (oT 7) (oT 9) 3) 4]
def f12r2:List AOp:=[oQ 4 (.assign (.const (.bool false))) 4]
def f12r3:List AOp:=[oQ 5 (.assign (.const (.int .i64 0))) 3]
def f12r4:List AOp:=[oM 11 5 3,
 oM 12 0 26,
 oQ 13 (cB .len #[(oT 12)] #[26]) 3,
 oQ 14 (.binOp .lss 3 (oT 11) (oT 13) 3) 4]
def f12r6:List AOp:=[oM 17 0 26,
 oM 18 5 3,
 oQ 19 (.indexAddr 26 (oT 17) (oT 18)) 0,
 oQ 20 (.load 59 (oT 19)) 59,
 oM 21 1 26,
 oM 22 5 3,
 oQ 23 (.indexAddr 26 (oT 21) (oT 22)) 0,
 oQ 24 (.load 59 (oT 23)) 59,
 oQ 25 (.binOp .neq 59 (oT 20) (oT 24) 59) 4]
def f12r7:List AOp:=[oQ 4 (.assign (.const (.bool false))) 4]
def f12r5:List AOp:=[oM 15 5 3,
 oQ 16 (.binOp .add 3 (oT 15) (.const (.int .i64 1)) 3) 3,
 oA 5 16 3]
def f12b0:AC:=(.seq (.seq (.ops false f12r4) (.cond (oT 14) .skip (.exit 0))) (.seq (.block 1 (.seq (.ops true f12r6) (.cond (oT 25) (.seq (.ops false f12r7) .ret) .skip))) (.ops false f12r5)))
def f12r8:List AOp:=[oQ 4 (.assign (.const (.bool true))) 4]
def f12:AFun:=⟨26,[(.tmp 4)],(.seq (.ops false f12r0) (.seq (.seq (.ops false f12r1) (.cond (.tmp 10) (.seq (.ops false f12r2) .ret) .skip)) (.seq (.seq (.ops false f12r3) (.block 0 (.loop [0,1,5] f12b0))) (.seq (.ops false f12r8) .ret))))⟩
def f13r0:List AOp:=[oQ 2 (.assign (.const (.slice none 0 0))) 26]
def f13r1:List AOp:=[oQ 6 (.buildSlice 26 0 #[]) 26,
 oA 3 6 26]
def f13r2:List AOp:=[oQ 4 (.assign (.const (.int .i64 0))) 3]
def f13r3:List AOp:=[oM 7 4 3,
 oM 8 0 22,
 oQ 9 (cB .len #[(oT 8)] #[22]) 3,
 oQ 10 (.binOp .lss 3 (oT 7) (oT 9) 3) 4]
def f13r5:List AOp:=[oM 13 0 22,
 oM 14 4 3,
 oQ 15 (.indexAddr 22 (oT 13) (oT 14)) 0,
 oQ 16 (.load 46 (oT 15)) 46,
 oQ 5 (.alloc 46) 0,
 oN (.store 46 (oT 5) (oT 16)) 0]
def f13r6:List AOp:=[oM 17 3 26,
 oQ 18 (.fieldAddr 46 (oT 5) 0) 0,
 oQ 19 (.load 3 (oT 18)) 3,
 oQ 20 (.fieldAddr 46 (oT 5) 1) 0,
 oQ 21 (.fieldAddr 36 (oT 20) 0) 0,
 oQ 22 (.load 34 (oT 21)) 34,
 oQ 23 (.fieldAddr 46 (oT 5) 2) 0,
 oQ 24 (.load 3 (oT 23)) 3,
 oQ 25 (.fieldAddr 46 (oT 5) 3) 0,
 oQ 26 (.load 3 (oT 25)) 3,
 oQ 27 (.fieldAddr 46 (oT 5) 4) 0,
 oQ 28 (.load 3 (oT 27)) 3,
 oQ 29 (.fieldAddr 46 (oT 5) 5) 0,
 oQ 30 (.load 3 (oT 29)) 3,
 oQ 31 (.fieldAddr 46 (oT 5) 6) 0,
 oQ 32 (.load 9 (oT 31)) 9,
 oQ 33 (.build 59 #[(0,(oT 19)),(1,(oT 22)),(2,(oT 24)),(3,(oT 26)),(4,(oT 28)),(5,(oT 30)),(6,(oT 32))]) 59,
 oQ 34 (.buildSlice 26 1 #[(0,(oT 33))]) 26,
 oQ 35 (cB .append #[(oT 17),(oT 34)] #[26,26]) 26,
 oA 3 35 26]
def f13r4:List AOp:=[oM 11 4 3,
 oQ 12 (.binOp .add 3 (oT 11) (.const (.int .i64 1)) 3) 3,
 oA 4 12 3]
def f13b0:AC:=(.seq (.seq (.ops false f13r3) (.cond (oT 10) .skip (.exit 0))) (.seq (.block 1 (.seq (.ops false f13r5) (.ops false f13r6))) (.ops false f13r4)))
def f13r7:List AOp:=[oM 36 3 26,
 oA 2 36 26]
def f13:AFun:=⟨37,[(.tmp 2)],(.seq (.ops false f13r0) (.seq (.ops false f13r1) (.seq (.seq (.ops false f13r2) (.block 0 (.loop [0,3,4] f13b0))) (.seq (.ops false f13r7) .ret))))⟩
def f14r0:List AOp:=[oQ 0 (.assign (.const (.bool false))) 4]
def f14r1:List AOp:=[oQ 20 (.call { callee:=(.value (.func 10)),args:=#[(.const (.string { data:=#[97,43,63,40,63,105,58,91,94,98,45,100,92,120,52,49,93,124,92,50,41,123,50,44,51,125,43] }))],argTypes:=#[9] }) 24,
 oM 19 20 24,
 oQ 21 (.extract (oT 19) 0) 22,
 oQ 22 (.extract (oT 19) 1) 23,
 oA 1 21 22,
 oA 2 22 23]
def f14r2:List AOp:=[oQ 24 (.call { callee:=(.value (.func 10)),args:=#[(.const (.string { data:=#[97,123,49,48,49,125] }))],argTypes:=#[9] }) 24,
 oM 23 24 24,
 oQ 25 (.extract (oT 23) 0) 22,
 oQ 26 (.extract (oT 23) 1) 23,
 oA 3 25 22,
 oA 4 26 23]
def f14r3:List AOp:=[oQ 28 (.call { callee:=(.value (.func 10)),args:=#[(.const (.string { data:=#[97,123,51,44,50,125] }))],argTypes:=#[9] }) 24,
 oM 27 28 24,
 oQ 29 (.extract (oT 27) 0) 22,
 oQ 30 (.extract (oT 27) 1) 23,
 oA 5 29 22,
 oA 6 30 23]
def f14r4:List AOp:=[oQ 32 (.call { callee:=(.value (.func 10)),args:=#[(.const (.string { data:=#[40,63,105,105,58,97,41] }))],argTypes:=#[9] }) 24,
 oM 31 32 24,
 oQ 33 (.extract (oT 31) 0) 22,
 oQ 34 (.extract (oT 31) 1) 23,
 oA 7 33 22,
 oA 8 34 23]
def f14r5:List AOp:=[oQ 36 (.call { callee:=(.value (.func 10)),args:=#[(.const (.string { data:=#[91,93] }))],argTypes:=#[9] }) 24,
 oM 35 36 24,
 oQ 37 (.extract (oT 35) 0) 22,
 oQ 38 (.extract (oT 35) 1) 23,
 oA 9 37 22,
 oA 10 38 23]
def f14r6:List AOp:=[oQ 40 (.call { callee:=(.value (.func 10)),args:=#[(.const (.string { data:=#[92,113] }))],argTypes:=#[9] }) 24,
 oM 39 40 24,
 oQ 41 (.extract (oT 39) 0) 22,
 oQ 42 (.extract (oT 39) 1) 23,
 oA 11 41 22,
 oA 12 42 23]
def f14r7:List AOp:=[oQ 44 (.call { callee:=(.value (.func 15)),args:=#[(.const (.string { data:=#[120,91,97,45,99,93,121] })),(.const (.int .i64 1))],argTypes:=#[9,3] }) 37,
 oM 43 44 37,
 oQ 45 (.extract (oT 43) 0) 36,
 oQ 46 (.extract (oT 43) 1) 3,
 oQ 47 (.extract (oT 43) 2) 23,
 oQ 13 (.alloc 36) 0,
 oN (.store 36 (oT 13) (oT 45)) 0,
 oA 14 46 3,
 oA 15 47 23]
def f14r8:List AOp:=[oQ 49 (.call { callee:=(.value (.func 15)),args:=#[(.const (.string { data:=#[120,91,97,45,99,93,121] })),(.const (.int .i64 0))],argTypes:=#[9,3] }) 37,
 oM 48 49 37,
 oQ 50 (.extract (oT 48) 0) 36,
 oQ 51 (.extract (oT 48) 1) 3,
 oQ 52 (.extract (oT 48) 2) 23,
 oQ 16 (.alloc 36) 0,
 oN (.store 36 (oT 16) (oT 50)) 0,
 oA 17 51 3,
 oA 18 52 23]
def f14r9:List AOp:=[oM 53 1 22,
 oQ 54 (cB .len #[(oT 53)] #[22]) 3,
 oQ 55 (.binOp .neq 3 (oT 54) (.const (.int .i64 8)) 3) 4]
def f14r10:List AOp:=[oQ 0 (.assign (.const (.bool false))) 4]
def f14r11p0:List AOp:=[oM 56 2 23,
 oQ 57 (.binOp .eql 23 (oT 56) (.const (.int .i64 0)) 23) 4,
 oM 58 57 4,
 oG 59 (.move (oT 1)) 22 58 true,
 oG 60 (.indexAddr 22 (oT 59) (.const (.int .i64 0))) 0 58 true,
 oG 61 (.load 46 (oT 60)) 46 58 true,
 oG 62 (cF 17 #[(.const (.int .u8 97))] #[5]) 36 58 true,
 oG 63 (.build 46 #[(0,(.const (.int .i64 0))),(1,(oT 62))]) 46 58 true,
 oG 64 (.binOp .eql 46 (oT 61) (oT 63) 46) 4 58 true,
 oQ 65 (.pick (oT 58) (oT 64) (.const (.bool false))) 4]
def f14r11p1:List AOp:=[oM 66 65 4,
 oG 67 (.move (oT 1)) 22 66 true,
 oG 68 (.indexAddr 22 (oT 67) (.const (.int .i64 1))) 0 66 true,
 oG 69 (.load 46 (oT 68)) 46 66 true,
 oG 70 (.build 46 #[(0,(.const (.int .i64 16))),(2,(.const (.int .i64 1))),(3,(.const (.int .i64 (-1)))),(4,(.const (.int .i64 1)))]) 46 66 true,
 oG 71 (.binOp .eql 46 (oT 69) (oT 70) 46) 4 66 true,
 oQ 72 (.pick (oT 66) (oT 71) (.const (.bool false))) 4]
def f14r11p2:List AOp:=[oM 73 72 4,
 oG 74 (.move (oT 1)) 22 73 true,
 oG 75 (.indexAddr 22 (oT 74) (.const (.int .i64 2))) 0 73 true,
 oG 76 (.load 46 (oT 75)) 46 73 true,
 oG 77 (.build 46 #[(0,(.const (.int .i64 14))),(6,(.const (.string { data:=#[105] })))]) 46 73 true,
 oG 78 (.binOp .eql 46 (oT 76) (oT 77) 46) 4 73 true,
 oQ 79 (.pick (oT 73) (oT 78) (.const (.bool false))) 4]
def f14r11p3:List AOp:=[oM 80 79 4,
 oG 81 (.move (oT 1)) 22 80 true,
 oG 82 (.indexAddr 22 (oT 81) (.const (.int .i64 3))) 0 80 true,
 oG 83 (.load 46 (oT 82)) 46 80 true,
 oG 84 (.call { callee:=(.value (.func 18)),args:=#[(.const (.string { data:=#[98,99,100,65] }))],argTypes:=#[9] }) 36 80 true,
 oG 85 (cF 25 #[(oT 84)] #[36]) 36 80 true,
 oG 86 (.build 46 #[(0,(.const (.int .i64 0))),(1,(oT 85))]) 46 80 true,
 oG 87 (.binOp .eql 46 (oT 83) (oT 86) 46) 4 80 true,
 oQ 88 (.pick (oT 80) (oT 87) (.const (.bool false))) 4]
def f14r11p4:List AOp:=[oM 89 88 4,
 oG 90 (.move (oT 1)) 22 89 true,
 oG 91 (.indexAddr 22 (oT 90) (.const (.int .i64 4))) 0 89 true,
 oG 92 (.load 46 (oT 91)) 46 89 true,
 oG 93 (.build 46 #[(0,(.const (.int .i64 6)))]) 46 89 true,
 oG 94 (.binOp .eql 46 (oT 92) (oT 93) 46) 4 89 true,
 oQ 95 (.pick (oT 89) (oT 94) (.const (.bool false))) 4]
def f14r11p5:List AOp:=[oM 96 95 4,
 oG 97 (.move (oT 1)) 22 96 true,
 oG 98 (.indexAddr 22 (oT 97) (.const (.int .i64 5))) 0 96 true,
 oG 99 (.load 46 (oT 98)) 46 96 true,
 oG 100 (.build 46 #[(0,(.const (.int .i64 17))),(5,(.const (.int .i64 2)))]) 46 96 true,
 oG 101 (.binOp .eql 46 (oT 99) (oT 100) 46) 4 96 true,
 oQ 102 (.pick (oT 96) (oT 101) (.const (.bool false))) 4]
def f14r11p6:List AOp:=[oM 103 102 4,
 oG 104 (.move (oT 1)) 22 103 true,
 oG 105 (.indexAddr 22 (oT 104) (.const (.int .i64 6))) 0 103 true,
 oG 106 (.load 46 (oT 105)) 46 103 true,
 oG 107 (.build 46 #[(0,(.const (.int .i64 15)))]) 46 103 true,
 oG 108 (.binOp .eql 46 (oT 106) (oT 107) 46) 4 103 true,
 oQ 109 (.pick (oT 103) (oT 108) (.const (.bool false))) 4]
def f14r11p7:List AOp:=[oM 110 109 4,
 oG 111 (.move (oT 1)) 22 110 true,
 oG 112 (.indexAddr 22 (oT 111) (.const (.int .i64 7))) 0 110 true,
 oG 113 (.load 46 (oT 112)) 46 110 true,
 oG 114 (.build 46 #[(0,(.const (.int .i64 16))),(2,(.const (.int .i64 2))),(3,(.const (.int .i64 3))),(4,(.const (.int .i64 2)))]) 46 110 true,
 oG 115 (.binOp .eql 46 (oT 113) (oT 114) 46) 4 110 true,
 oQ 116 (.pick (oT 110) (oT 115) (.const (.bool false))) 4]
def f14r11p8:List AOp:=[oM 117 116 4,
 oG 118 (.move (oT 4)) 23 117 true,
 oG 119 (.binOp .eql 23 (oT 118) (.const (.int .i64 4)) 23) 4 117 true,
 oQ 120 (.pick (oT 117) (oT 119) (.const (.bool false))) 4]
def f14r11p9:List AOp:=[oM 121 120 4,
 oG 122 (.move (oT 6)) 23 121 true,
 oG 123 (.binOp .eql 23 (oT 122) (.const (.int .i64 3)) 23) 4 121 true,
 oQ 124 (.pick (oT 121) (oT 123) (.const (.bool false))) 4]
def f14r11p10:List AOp:=[oM 125 124 4,
 oG 126 (.move (oT 8)) 23 125 true,
 oG 127 (.binOp .eql 23 (oT 126) (.const (.int .i64 3)) 23) 4 125 true,
 oQ 128 (.pick (oT 125) (oT 127) (.const (.bool false))) 4]
def f14r11p11:List AOp:=[oM 129 128 4,
 oG 130 (.move (oT 10)) 23 129 true,
 oG 131 (.binOp .eql 23 (oT 130) (.const (.int .i64 3)) 23) 4 129 true,
 oQ 132 (.pick (oT 129) (oT 131) (.const (.bool false))) 4]
def f14r11p12:List AOp:=[oM 133 132 4,
 oG 134 (.move (oT 12)) 23 133 true,
 oG 135 (.binOp .eql 23 (oT 134) (.const (.int .i64 3)) 23) 4 133 true,
 oQ 136 (.pick (oT 133) (oT 135) (.const (.bool false))) 4]
def f14r11p13:List AOp:=[oM 137 136 4,
 oG 138 (.load 36 (oT 13)) 36 137 true,
 oG 139 (.call { callee:=(.value (.func 18)),args:=#[(.const (.string { data:=#[97,98,99] }))],argTypes:=#[9] }) 36 137 true,
 oG 140 (.binOp .eql 36 (oT 138) (oT 139) 36) 4 137 true,
 oQ 141 (.pick (oT 137) (oT 140) (.const (.bool false))) 4]
def f14r11p14:List AOp:=[oM 142 141 4,
 oG 143 (.move (oT 14)) 3 142 true,
 oG 144 (.binOp .eql 3 (oT 143) (.const (.int .i64 6)) 3) 4 142 true,
 oQ 145 (.pick (oT 142) (oT 144) (.const (.bool false))) 4]
def f14r11p15:List AOp:=[oM 146 145 4,
 oG 147 (.move (oT 15)) 23 146 true,
 oG 148 (.binOp .eql 23 (oT 147) (.const (.int .i64 0)) 23) 4 146 true,
 oQ 149 (.pick (oT 146) (oT 148) (.const (.bool false))) 4]
def f14r11p16:List AOp:=[oM 150 149 4,
 oG 151 (.move (oT 18)) 23 150 true,
 oG 152 (.binOp .eql 23 (oT 151) (.const (.int .i64 1)) 23) 4 150 true,
 oQ 153 (.pick (oT 150) (oT 152) (.const (.bool false))) 4]
def f14r11p17:List AOp:=[oA 0 153 4]
def f14r11:List AOp:=f14r11p0 ++ (f14r11p1 ++ (f14r11p2 ++ (f14r11p3 ++ (f14r11p4 ++ (f14r11p5 ++ (f14r11p6 ++ (f14r11p7 ++ (f14r11p8 ++ (f14r11p9 ++ (f14r11p10 ++ (f14r11p11 ++ (f14r11p12 ++ (f14r11p13 ++ (f14r11p14 ++ (f14r11p15 ++ (f14r11p16 ++ f14r11p17))))))))))))))))
def f14:AFun:=⟨154,[(.tmp 0)],(.seq (.ops false f14r0) (.seq (.ops false f14r1) (.seq (.ops false f14r2) (.seq (.ops false f14r3) (.seq (.ops false f14r4) (.seq (.ops false f14r5) (.seq (.ops false f14r6) (.seq (.ops false f14r7) (.seq (.ops false f14r8) (.seq (.seq (.ops false f14r9) (.cond (.tmp 55) (.seq (.ops false f14r10) .ret) .skip)) (.seq (.ops true f14r11) .ret)))))))))))⟩
def f15r0:List AOp:=[oQ 4 (.alloc 36) 0,
 oQ 5 (.assign (.const (.int .i64 0))) 3,
 oQ 6 (.assign (.const (.int .i64 0))) 23]
def f15r1p0:List AOp:=[oM 13 1 3,
 oQ 14 (.binOp .lss 3 (oT 13) (.const (.int .i64 0)) 3) 4,
 oM 15 14 4,
 oG 16 (.move (oT 1)) 3 15 false,
 oG 17 (.move (oT 0)) 9 15 false,
 oG 18 (cB .len #[(oT 17)] #[9]) 3 15 false,
 oG 19 (.binOp .geq 3 (oT 16) (oT 18) 3) 4 15 false,
 oQ 20 (.pick (oT 15) (.const (.bool true)) (oT 19)) 4]
def f15r1p1:List AOp:=[oM 21 20 4,
 oG 22 (.move (oT 0)) 9 21 false,
 oG 23 (.move (oT 1)) 3 21 false,
 oG 24 (.index 9 (oT 22) (oT 23)) 5 21 false,
 oG 25 (.binOp .neq 5 (oT 24) (.const (.int .u8 91)) 5) 4 21 false,
 oQ 26 (.pick (oT 21) (.const (.bool true)) (oT 25)) 4]
def f15r1:List AOp:=f15r1p0 ++ f15r1p1
def f15r2:List AOp:=[oQ 27 (.build 36 #[]) 36,
 oN (.store 36 (oT 4) (oT 27)) 0,
 oQ 5 (.assign (.const (.int .i64 0))) 3,
 oQ 6 (.assign (.const (.int .i64 1))) 23]
def f15r3:List AOp:=[oQ 7 (.alloc 36) 0]
def f15r4:List AOp:=[oM 28 1 3,
 oQ 29 (.binOp .add 3 (oT 28) (.const (.int .i64 1)) 3) 3,
 oA 8 29 3]
def f15r5:List AOp:=[oM 30 0 9,
 oM 31 8 3,
 oQ 32 (.slice 9 (oT 30) (some (oT 31)) none none) 9,
 oQ 33 (.call { callee:=(.value (.func 26)),args:=#[(oT 32),(.const (.string { data:=#[94] }))],argTypes:=#[9,9] }) 4,
 oA 9 33 4]
def f15r6:List AOp:=[oM 34 9 4]
def f15r7:List AOp:=[oM 35 8 3,
 oQ 36 (.binOp .add 3 (oT 35) (.const (.int .i64 1)) 3) 3,
 oA 8 36 3]
def f15r8:List AOp:=[oQ 10 (.assign (.const (.int .i64 0))) 3]
def f15r9p0:List AOp:=[oM 37 10 3,
 oQ 38 (.binOp .gtr 3 (oT 37) (.const (.int .i64 0)) 3) 4,
 oM 39 38 4,
 oG 40 (.move (oT 8)) 3 39 true,
 oG 41 (.move (oT 0)) 9 39 true,
 oG 42 (cB .len #[(oT 41)] #[9]) 3 39 true,
 oG 43 (.binOp .lss 3 (oT 40) (oT 42) 3) 4 39 true,
 oQ 44 (.pick (oT 39) (oT 43) (.const (.bool false))) 4]
def f15r9p1:List AOp:=[oM 45 44 4,
 oG 46 (.move (oT 0)) 9 45 true,
 oG 47 (.move (oT 8)) 3 45 true,
 oG 48 (.index 9 (oT 46) (oT 47)) 5 45 true,
 oG 49 (.binOp .eql 5 (oT 48) (.const (.int .u8 93)) 5) 4 45 true,
 oQ 50 (.pick (oT 45) (oT 49) (.const (.bool false))) 4]
def f15r9:List AOp:=f15r9p0 ++ f15r9p1
def f15r10:List AOp:=[oM 52 0 9,
 oM 53 8 3,
 oQ 54 (.slice 9 (oT 52) (some (oT 53)) none none) 9,
 oQ 55 (cF 27 #[(oT 54)] #[9]) 63,
 oM 51 55 63,
 oQ 56 (.extract (oT 51) 0) 36,
 oQ 57 (.extract (oT 51) 1) 3,
 oQ 11 (.alloc 36) 0,
 oN (.store 36 (oT 11) (oT 56)) 0,
 oA 12 57 3]
def f15r11:List AOp:=[oM 58 12 3,
 oQ 59 (.binOp .eql 3 (oT 58) (.const (.int .i64 0)) 3) 4]
def f15r12:List AOp:=[oQ 60 (.build 36 #[]) 36,
 oN (.store 36 (oT 4) (oT 60)) 0,
 oQ 5 (.assign (.const (.int .i64 0))) 3,
 oQ 6 (.assign (.const (.int .i64 3))) 23]
def f15r13:List AOp:=[oQ 61 (.load 36 (oT 7)) 36,
 oQ 62 (.load 36 (oT 11)) 36,
 oQ 63 (cF 21 #[(oT 61),(oT 62)] #[36,36]) 36,
 oM 64 8 3,
 oM 65 12 3,
 oQ 66 (.binOp .add 3 (oT 64) (oT 65) 3) 3,
 oN (.store 36 (oT 7) (oT 63)) 0,
 oA 8 66 3]
def f15r14:List AOp:=[oM 67 10 3,
 oQ 68 (.binOp .add 3 (oT 67) (.const (.int .i64 1)) 3) 3,
 oA 10 68 3]
def f15b0:AC:=(.block 1 (.seq (.seq (.ops false f15r9) (.cond (oT 50) (.exit 0) .skip)) (.seq (.ops false f15r10) (.seq (.seq (.ops false f15r11) (.cond (oT 59) (.seq (.ops false f15r12) .ret) .skip)) (.seq (.ops false f15r13) (.ops false f15r14))))))
def f15r15:List AOp:=[oM 69 9 4]
def f15r16:List AOp:=[oQ 70 (.load 36 (oT 7)) 36,
 oQ 71 (cF 25 #[(oT 70)] #[36]) 36,
 oN (.store 36 (oT 7) (oT 71)) 0]
def f15r17:List AOp:=[oQ 72 (.load 36 (oT 7)) 36,
 oM 73 8 3,
 oQ 74 (.binOp .add 3 (oT 73) (.const (.int .i64 1)) 3) 3,
 oN (.store 36 (oT 4) (oT 72)) 0,
 oA 5 74 3,
 oQ 6 (.assign (.const (.int .i64 0))) 23]
def f15:AFun:=⟨75,[(.cell 4 36),(.tmp 5),(.tmp 6)],(.seq (.ops false f15r0) (.scope (.seq (.seq (.ops false f15r1) (.cond (.tmp 26) (.seq (.ops false f15r2) .ret) .skip)) (.seq (.ops false f15r3) (.seq (.ops false f15r4) (.seq (.ops false f15r5) (.seq (.seq (.ops false f15r6) (.cond (.tmp 34) (.ops false f15r7) .skip)) (.seq (.ops false f15r8) (.seq .skip (.seq (.block 0 (.loop [0,4,7,8,9,10] f15b0)) (.seq (.seq (.ops false f15r15) (.cond (.tmp 69) (.ops false f15r16) .skip)) (.seq (.ops false f15r17) .ret))))))))))))⟩
def f16r0:List AOp:=[oQ 4 (.alloc 34) 0,
 oQ 5 (.assign (.const (.int .i64 0))) 3,
 oQ 6 (.assign (.const (.int .i64 0))) 23]
def f16r1:List AOp:=[oQ 20 (.build 34 #[]) 34,
 oQ 7 (.alloc 34) 0,
 oN (.store 34 (oT 7) (oT 20)) 0]
def f16r2p0:List AOp:=[oM 21 1 3,
 oQ 22 (.binOp .lss 3 (oT 21) (.const (.int .i64 0)) 3) 4,
 oM 23 22 4,
 oG 24 (.move (oT 1)) 3 23 false,
 oG 25 (.move (oT 0)) 9 23 false,
 oG 26 (cB .len #[(oT 25)] #[9]) 3 23 false,
 oG 27 (.binOp .geq 3 (oT 24) (oT 26) 3) 4 23 false,
 oQ 28 (.pick (oT 23) (.const (.bool true)) (oT 27)) 4]
def f16r2p1:List AOp:=[oM 29 28 4,
 oG 30 (.move (oT 0)) 9 29 false,
 oG 31 (.move (oT 1)) 3 29 false,
 oG 32 (.index 9 (oT 30) (oT 31)) 5 29 false,
 oG 33 (.binOp .neq 5 (oT 32) (.const (.int .u8 91)) 5) 4 29 false,
 oQ 34 (.pick (oT 29) (.const (.bool true)) (oT 33)) 4]
def f16r2:List AOp:=f16r2p0 ++ f16r2p1
def f16r3:List AOp:=[oQ 35 (.load 34 (oT 7)) 34,
 oN (.store 34 (oT 4) (oT 35)) 0,
 oQ 5 (.assign (.const (.int .i64 0))) 3,
 oQ 6 (.assign (.const (.int .i64 1))) 23]
def f16r4:List AOp:=[oM 36 0 9,
 oM 37 1 3,
 oQ 38 (.binOp .add 3 (oT 37) (.const (.int .i64 1)) 3) 3,
 oQ 39 (.call { callee:=(.value (.func 28)),args:=#[(oT 36),(oT 38),(.const (.string { data:=#[94] }))],argTypes:=#[9,3,9] }) 4,
 oA 8 39 4]
def f16r5:List AOp:=[oM 40 1 3,
 oQ 41 (.binOp .add 3 (oT 40) (.const (.int .i64 1)) 3) 3,
 oQ 42 (.build 68 #[]) 68,
 oQ 10 (.alloc 68) 0,
 oA 9 41 3,
 oN (.store 68 (oT 10) (oT 42)) 0,
 oQ 11 (.assign (.const (.int .i64 0))) 3]
def f16r6:List AOp:=[oM 43 8 4]
def f16r7:List AOp:=[oM 44 9 3,
 oQ 45 (.binOp .add 3 (oT 44) (.const (.int .i64 1)) 3) 3,
 oA 9 45 3]
def f16r8:List AOp:=[oM 46 11 3,
 oQ 47 (.binOp .eql 3 (oT 46) (.const (.int .i64 0)) 3) 4,
 oM 48 47 4,
 oG 49 (.move (oT 0)) 9 48 false,
 oG 50 (.move (oT 9)) 3 48 false,
 oG 51 (.call { callee:=(.value (.func 28)),args:=#[(oT 49),(oT 50),(.const (.string { data:=#[93] }))],argTypes:=#[9,3,9] }) 4 48 false,
 oG 52 (.unOp .not 4 (oT 51)) 4 48 false,
 oQ 53 (.pick (oT 48) (.const (.bool true)) (oT 52)) 4]
def f16r9:List AOp:=[oM 55 0 9,
 oM 56 9 3,
 oQ 57 (cF 29 #[(oT 55),(oT 56)] #[9,3]) 69,
 oM 54 57 69,
 oQ 58 (.extract (oT 54) 0) 68,
 oQ 59 (.extract (oT 54) 1) 3,
 oQ 12 (.alloc 68) 0,
 oN (.store 68 (oT 12) (oT 58)) 0,
 oA 13 59 3]
def f16r10:List AOp:=[oM 60 13 3,
 oQ 61 (.binOp .eql 3 (oT 60) (.const (.int .i64 0)) 3) 4]
def f16r11:List AOp:=[oQ 62 (.load 34 (oT 7)) 34,
 oN (.store 34 (oT 4) (oT 62)) 0,
 oQ 5 (.assign (.const (.int .i64 0))) 3,
 oQ 6 (.assign (.const (.int .i64 3))) 23]
def f16r12:List AOp:=[oM 63 0 9,
 oM 64 13 3,
 oQ 65 (.call { callee:=(.value (.func 28)),args:=#[(oT 63),(oT 64),(.const (.string { data:=#[45] }))],argTypes:=#[9,3,9] }) 4]
def f16r13:List AOp:=[oM 67 0 9,
 oM 68 13 3,
 oQ 69 (.binOp .add 3 (oT 68) (.const (.int .i64 1)) 3) 3,
 oQ 70 (cF 29 #[(oT 67),(oT 69)] #[9,3]) 69,
 oM 66 70 69,
 oQ 71 (.extract (oT 66) 0) 68,
 oQ 72 (.extract (oT 66) 1) 3,
 oQ 14 (.alloc 68) 0,
 oN (.store 68 (oT 14) (oT 71)) 0,
 oA 15 72 3]
def f16r14:List AOp:=[oQ 74 (.load 68 (oT 12)) 68,
 oQ 75 (cF 30 #[(oT 74)] #[68]) 71,
 oM 73 75 71,
 oQ 76 (.extract (oT 73) 0) 5,
 oQ 77 (.extract (oT 73) 1) 4,
 oA 16 76 5,
 oA 17 77 4]
def f16r15:List AOp:=[oQ 79 (.load 68 (oT 14)) 68,
 oQ 80 (cF 30 #[(oT 79)] #[68]) 71,
 oM 78 80 71,
 oQ 81 (.extract (oT 78) 0) 5,
 oQ 82 (.extract (oT 78) 1) 4,
 oA 18 81 5,
 oA 19 82 4]
def f16r16p0:List AOp:=[oM 83 15 3,
 oQ 84 (.binOp .eql 3 (oT 83) (.const (.int .i64 0)) 3) 4,
 oM 85 84 4,
 oG 86 (.load 68 (oT 12)) 68 85 false,
 oG 87 (cF 31 #[(oT 86)] #[68]) 3 85 false,
 oG 88 (.binOp .neq 3 (oT 87) (.const (.int .i64 1)) 3) 4 85 false,
 oQ 89 (.pick (oT 85) (.const (.bool true)) (oT 88)) 4]
def f16r16p1:List AOp:=[oM 90 89 4,
 oG 91 (.load 68 (oT 14)) 68 90 false,
 oG 92 (cF 31 #[(oT 91)] #[68]) 3 90 false,
 oG 93 (.binOp .neq 3 (oT 92) (.const (.int .i64 1)) 3) 4 90 false,
 oQ 94 (.pick (oT 90) (.const (.bool true)) (oT 93)) 4]
def f16r16p2:List AOp:=[oM 95 94 4,
 oG 96 (.move (oT 18)) 5 95 false,
 oG 97 (.move (oT 16)) 5 95 false,
 oG 98 (.binOp .lss 5 (oT 96) (oT 97) 5) 4 95 false,
 oQ 99 (.pick (oT 95) (.const (.bool true)) (oT 98)) 4]
def f16r16:List AOp:=f16r16p0 ++ (f16r16p1 ++ f16r16p2)
def f16r17:List AOp:=[oQ 100 (.load 34 (oT 7)) 34,
 oN (.store 34 (oT 4) (oT 100)) 0,
 oQ 5 (.assign (.const (.int .i64 0))) 3,
 oQ 6 (.assign (.const (.int .i64 3))) 23]
def f16r18:List AOp:=[oM 101 16 5,
 oM 102 18 5,
 oQ 103 (cF 32 #[(oT 101),(oT 102)] #[5,5]) 68,
 oN (.store 68 (oT 12) (oT 103)) 0]
def f16r19:List AOp:=[oM 104 15 3,
 oA 13 104 3]
def f16r20:List AOp:=[oQ 105 (.load 68 (oT 10)) 68,
 oQ 106 (.load 68 (oT 12)) 68,
 oQ 107 (cF 33 #[(oT 105),(oT 106)] #[68,68]) 68,
 oN (.store 68 (oT 10) (oT 107)) 0]
def f16r21:List AOp:=[oM 108 13 3,
 oA 9 108 3]
def f16r22:List AOp:=[oM 109 11 3,
 oQ 110 (.binOp .add 3 (oT 109) (.const (.int .i64 1)) 3) 3,
 oA 11 110 3]
def f16b0:AC:=(.seq (.seq (.ops false f16r8) (.cond (oT 53) .skip (.exit 0))) (.block 1 (.seq (.ops false f16r9) (.seq (.seq (.ops false f16r10) (.cond (oT 61) (.seq (.ops false f16r11) .ret) .skip)) (.seq (.seq (.ops false f16r12) (.cond (oT 65) (.seq (.ops false f16r13) (.seq (.ops false f16r14) (.seq (.ops false f16r15) (.seq (.seq (.ops false f16r16) (.cond (oT 99) (.seq (.ops false f16r17) .ret) .skip)) (.seq (.ops false f16r18) (.ops false f16r19)))))) .skip)) (.seq (.ops false f16r20) (.seq (.ops false f16r21) (.ops false f16r22))))))))
def f16r23:List AOp:=[oM 111 8 4]
def f16r24:List AOp:=[oQ 112 (.load 68 (oT 10)) 68,
 oQ 113 (cF 34 #[(oT 112)] #[68]) 68,
 oN (.store 68 (oT 10) (oT 113)) 0]
def f16r25:List AOp:=[oQ 114 (.load 68 (oT 10)) 68,
 oQ 115 (cF 35 #[(oT 114)] #[68]) 34,
 oM 116 9 3,
 oQ 117 (.binOp .add 3 (oT 116) (.const (.int .i64 1)) 3) 3,
 oN (.store 34 (oT 4) (oT 115)) 0,
 oA 5 117 3,
 oQ 6 (.assign (.const (.int .i64 0))) 23]
def f16:AFun:=⟨118,[(.cell 4 34),(.tmp 5),(.tmp 6)],(.seq (.ops false f16r0) (.seq (.ops false f16r1) (.seq (.seq (.ops false f16r2) (.cond (.tmp 34) (.seq (.ops false f16r3) .ret) .skip)) (.seq (.ops false f16r4) (.seq (.ops false f16r5) (.seq (.seq (.ops false f16r6) (.cond (.tmp 43) (.ops false f16r7) .skip)) (.seq (.block 0 (.loop [0,4,7,8,9,10,11] f16b0)) (.seq (.seq (.ops false f16r23) (.cond (.tmp 111) (.ops false f16r24) .skip)) (.seq (.ops false f16r25) .ret)))))))))⟩
def f17r0:List AOp:=[oQ 2 (.alloc 36) 0]
def f17r1:List AOp:=[oQ 3 (.alloc 36) 0]
def f17r2:List AOp:=[oM 4 0 5,
 oQ 5 (cF 36 #[(oT 3),(oT 4)] #[36,5]) 0]
def f17r3:List AOp:=[oQ 6 (.load 36 (oT 3)) 36,
 oN (.store 36 (oT 2) (oT 6)) 0]
def f17:AFun:=⟨7,[(.cell 2 36)],(.seq (.ops false f17r0) (.seq (.ops false f17r1) (.seq (.ops false f17r2) (.seq (.ops false f17r3) .ret))))⟩
def f18r0:List AOp:=[oQ 2 (.alloc 36) 0]
def f18r1:List AOp:=[oQ 3 (.alloc 36) 0]
def f18r2:List AOp:=[oM 6 0 9,
 oQ 7 (.convert 9 43 (oT 6)) 43,
 oQ 8 (cB .len #[(oT 7)] #[43]) 3,
 oQ 9 (.move (.const (.int .i64 0))) 3]
def f18r3:List AOp:=[oQ 10 (.binOp .lss 3 (oT 9) (oT 8) 3) 0]
def f18r4:List AOp:=[oQ 11 (.indexAddr 43 (oT 7) (oT 9)) 0,
 oQ 12 (.load 5 (oT 11)) 5,
 oA 5 12 5]
def f18r5:List AOp:=[oM 13 5 5,
 oQ 14 (cF 36 #[(oT 3),(oT 13)] #[36,5]) 0]
def f18r6:List AOp:=[oQ 15 (.binOp .add 3 (oT 9) (.const (.int .i64 1)) 3) 3,
 oM 9 15 3]
def f18b0:AC:=(.seq (.ops false f18r3) (.seq (.cond (oT 10) .skip (.exit 0)) (.seq (.block 1 (.seq (.ops false f18r4) (.ops false f18r5))) (.ops false f18r6))))
def f18r7:List AOp:=[oQ 16 (.load 36 (oT 3)) 36,
 oN (.store 36 (oT 2) (oT 16)) 0]
def f18:AFun:=⟨17,[(.cell 2 36)],(.seq (.ops false f18r0) (.seq (.ops false f18r1) (.seq (.seq (.ops false f18r2) (.block 0 (.loop [2,3,7,8,9] f18b0))) (.seq (.ops false f18r7) .ret))))⟩
def f19r0:List AOp:=[oQ 2 (.box 36 (oT 0)) 0,
 oQ 4 (.assign (.const (.bool false))) 4]
def f19r1:List AOp:=[oM 5 1 5,
 oQ 6 (.binOp .quo 5 (oT 5) (.const (.int .u8 64)) 5) 5,
 oQ 7 (.fieldAddr 36 (oT 2) 0) 0,
 oQ 8 (.indexAddr 34 (oT 7) (oT 6)) 0,
 oQ 9 (.load 33 (oT 8)) 33,
 oM 10 1 5,
 oQ 11 (.binOp .rem 5 (oT 10) (.const (.int .u8 64)) 5) 5,
 oQ 12 (.binOp .shr 33 (oT 9) (oT 11) 5) 33,
 oQ 13 (.binOp .and 33 (oT 12) (.const (.int .u64 1)) 33) 33,
 oQ 14 (.binOp .eql 33 (oT 13) (.const (.int .u64 1)) 33) 4,
 oA 4 14 4]
def f19:AFun:=⟨15,[(.tmp 4)],(.seq (.ops false f19r0) (.seq (.ops false f19r1) .ret))⟩
def f20r0:List AOp:=[oQ 4 (.alloc 36) 0]
def f20r1:List AOp:=[oQ 5 (.alloc 36) 0]
def f20r2:List AOp:=[oM 7 0 5,
 oQ 8 (.convert 5 3 (oT 7)) 3,
 oA 6 8 3]
def f20r3:List AOp:=[oM 9 6 3,
 oM 10 1 5,
 oQ 11 (.convert 5 3 (oT 10)) 3,
 oQ 12 (.binOp .leq 3 (oT 9) (oT 11) 3) 4]
def f20r5:List AOp:=[oM 15 6 3,
 oQ 16 (.convert 3 5 (oT 15)) 5,
 oQ 17 (cF 36 #[(oT 5),(oT 16)] #[36,5]) 0]
def f20r4:List AOp:=[oM 13 6 3,
 oQ 14 (.binOp .add 3 (oT 13) (.const (.int .i64 1)) 3) 3,
 oA 6 14 3]
def f20b0:AC:=(.seq (.seq (.ops false f20r3) (.cond (oT 12) .skip (.exit 0))) (.seq (.block 1 (.ops false f20r5)) (.ops false f20r4)))
def f20r6:List AOp:=[oQ 18 (.load 36 (oT 5)) 36,
 oN (.store 36 (oT 4) (oT 18)) 0]
def f20:AFun:=⟨19,[(.cell 4 36)],(.seq (.ops false f20r0) (.seq (.ops false f20r1) (.seq (.seq (.ops false f20r2) (.block 0 (.loop [1,4,5,6] f20b0))) (.seq (.ops false f20r6) .ret))))⟩
def f21r0:List AOp:=[oQ 2 (.box 36 (oT 0)) 0,
 oQ 3 (.box 36 (oT 1)) 0,
 oQ 4 (.alloc 36) 0]
def f21r1:List AOp:=[oQ 6 (.move (.const (.int .i64 0))) 3]
def f21r2:List AOp:=[oQ 7 (.binOp .lss 3 (oT 6) (.const (.int .i64 4)) 3) 0]
def f21r3:List AOp:=[oM 8 6 3,
 oA 5 8 3]
def f21r4:List AOp:=[oM 9 5 3,
 oQ 10 (.fieldAddr 36 (oT 2) 0) 0,
 oQ 11 (.indexAddr 34 (oT 10) (oT 9)) 0,
 oQ 12 (.load 33 (oT 11)) 33,
 oM 13 5 3,
 oQ 14 (.fieldAddr 36 (oT 3) 0) 0,
 oQ 15 (.indexAddr 34 (oT 14) (oT 13)) 0,
 oQ 16 (.load 33 (oT 15)) 33,
 oQ 17 (.binOp .or 33 (oT 12) (oT 16) 33) 33,
 oQ 18 (.fieldAddr 36 (oT 2) 0) 0,
 oQ 19 (.indexAddr 34 (oT 18) (oT 9)) 0,
 oN (.store 33 (oT 19) (oT 17)) 0]
def f21r5:List AOp:=[oQ 20 (.binOp .add 3 (oT 6) (.const (.int .i64 1)) 3) 3,
 oM 6 20 3]
def f21b0:AC:=(.seq (.ops false f21r2) (.seq (.cond (oT 7) .skip (.exit 0)) (.seq (.block 1 (.seq (.ops false f21r3) (.ops true f21r4))) (.ops false f21r5))))
def f21r6:List AOp:=[oQ 21 (.load 36 (oT 2)) 36,
 oN (.store 36 (oT 4) (oT 21)) 0]
def f21:AFun:=⟨22,[(.cell 4 36)],(.seq (.ops false f21r0) (.seq (.seq (.ops false f21r1) (.block 0 (.loop [2,3,4,6] f21b0))) (.seq (.ops false f21r6) .ret)))⟩
def f23r0:List AOp:=[oQ 2 (.alloc 46) 0,
 oQ 3 (.assign (.const (.int .i64 0))) 3,
 oQ 4 (.assign (.const (.int .i64 0))) 23]
def f23r1:List AOp:=[oM 11 0 9,
 oQ 12 (.index 9 (oT 11) (.const (.int .i64 0))) 5,
 oQ 13 (cF 37 #[(oT 12)] #[5]) 79,
 oM 10 13 79,
 oQ 14 (.extract (oT 10) 0) 3,
 oQ 15 (.extract (oT 10) 1) 4,
 oA 5 14 3,
 oA 6 15 4]
def f23r2:List AOp:=[oM 16 6 4]
def f23r3:List AOp:=[oM 17 5 3,
 oQ 18 (.build 46 #[(0,(oT 17))]) 46,
 oN (.store 46 (oT 2) (oT 18)) 0,
 oQ 3 (.assign (.const (.int .i64 1))) 3,
 oQ 4 (.assign (.const (.int .i64 0))) 23]
def f23r4:List AOp:=[oM 19 0 9,
 oQ 20 (.index 9 (oT 19) (.const (.int .i64 0))) 5]
def f23r5:List AOp:=[oQ 22 (.binOp .eql 5 (oT 20) (.const (.int .u8 40)) 5) 4,
 oA 21 22 4]
def f23r6:List AOp:=[oQ 24 (.binOp .eql 5 (oT 20) (.const (.int .u8 42)) 5) 4,
 oA 23 24 4]
def f23r7:List AOp:=[oQ 25 (.binOp .eql 5 (oT 20) (.const (.int .u8 43)) 5) 4,
 oA 23 25 4]
def f23r8:List AOp:=[oQ 26 (.binOp .eql 5 (oT 20) (.const (.int .u8 63)) 5) 4,
 oA 23 26 4]
def f23r9:List AOp:=[oQ 27 (.binOp .eql 5 (oT 20) (.const (.int .u8 123)) 5) 4,
 oA 23 27 4]
def f23r10:List AOp:=[oQ 29 (.binOp .eql 5 (oT 20) (.const (.int .u8 91)) 5) 4,
 oA 28 29 4]
def f23r11:List AOp:=[oQ 31 (.binOp .eql 5 (oT 20) (.const (.int .u8 92)) 5) 4,
 oA 30 31 4]
def f23r12:List AOp:=[oQ 33 (.binOp .eql 5 (oT 20) (.const (.int .u8 93)) 5) 4,
 oA 32 33 4]
def f23r13:List AOp:=[oQ 35 (.binOp .eql 5 (oT 20) (.const (.int .u8 125)) 5) 4,
 oA 34 35 4]
def f23r14:List AOp:=[oM 36 0 9,
 oQ 37 (cF 38 #[(oT 36)] #[9]) 56,
 oQ 38 (.extract (oT 37) 0) 46,
 oQ 39 (.extract (oT 37) 1) 3,
 oQ 40 (.extract (oT 37) 2) 23,
 oN (.store 46 (oT 2) (oT 38)) 0,
 oA 3 39 3,
 oA 4 40 23]
def f23r15:List AOp:=[oM 41 0 9,
 oQ 42 (cF 39 #[(oT 41)] #[9]) 56,
 oQ 43 (.extract (oT 42) 0) 46,
 oQ 44 (.extract (oT 42) 1) 3,
 oQ 45 (.extract (oT 42) 2) 23,
 oN (.store 46 (oT 2) (oT 43)) 0,
 oA 3 44 3,
 oA 4 45 23]
def f23r16:List AOp:=[oM 47 0 9,
 oQ 48 (cF 15 #[(oT 47),(.const (.int .i64 0))] #[9,3]) 37,
 oM 46 48 37,
 oQ 49 (.extract (oT 46) 0) 36,
 oQ 50 (.extract (oT 46) 1) 3,
 oQ 51 (.extract (oT 46) 2) 23,
 oQ 7 (.alloc 36) 0,
 oN (.store 36 (oT 7) (oT 49)) 0,
 oA 8 50 3,
 oA 9 51 23]
def f23r17:List AOp:=[oQ 52 (.load 36 (oT 7)) 36,
 oQ 53 (.build 46 #[(1,(oT 52))]) 46,
 oM 54 8 3,
 oM 55 9 23,
 oN (.store 46 (oT 2) (oT 53)) 0,
 oA 3 54 3,
 oA 4 55 23]
def f23r18:List AOp:=[oM 56 0 9,
 oQ 57 (cF 40 #[(oT 56)] #[9]) 56,
 oQ 58 (.extract (oT 57) 0) 46,
 oQ 59 (.extract (oT 57) 1) 3,
 oQ 60 (.extract (oT 57) 2) 23,
 oN (.store 46 (oT 2) (oT 58)) 0,
 oA 3 59 3,
 oA 4 60 23]
def f23r19:List AOp:=[oQ 61 (.build 46 #[]) 46,
 oN (.store 46 (oT 2) (oT 61)) 0,
 oQ 3 (.assign (.const (.int .i64 0))) 3,
 oQ 4 (.assign (.const (.int .i64 3))) 23]
def f23r20:List AOp:=[oM 62 0 9,
 oQ 63 (.index 9 (oT 62) (.const (.int .i64 0))) 5,
 oQ 64 (cF 17 #[(oT 63)] #[5]) 36,
 oQ 65 (.build 46 #[(1,(oT 64))]) 46,
 oN (.store 46 (oT 2) (oT 65)) 0,
 oQ 3 (.assign (.const (.int .i64 1))) 3,
 oQ 4 (.assign (.const (.int .i64 0))) 23]
def f23:AFun:=⟨66,[(.cell 2 46),(.tmp 3),(.tmp 4)],(.seq (.ops false f23r0) (.seq (.seq (.ops false f23r1) (.seq (.ops false f23r2) (.cond (.tmp 16) (.seq (.ops false f23r3) .ret) .skip))) (.seq (.seq (.ops false f23r4) (.block 0 (.seq (.block 6 (.block 5 (.seq (.block 4 (.seq (.block 3 (.seq (.block 2 (.seq (.block 1 (.seq (.seq (.seq (.ops false f23r5) (.cond (.tmp 21) (.exit 1) .skip)) (.seq (.seq (.seq (.ops false f23r6) (.cond (.tmp 23) .skip (.seq (.ops false f23r7) (.cond (.tmp 23) .skip (.seq (.ops false f23r8) (.cond (.tmp 23) .skip (.ops false f23r9))))))) (.cond (.tmp 23) (.exit 2) .skip)) (.seq (.seq (.ops false f23r10) (.cond (.tmp 28) (.exit 3) .skip)) (.seq (.seq (.ops false f23r11) (.cond (.tmp 30) (.exit 4) .skip)) (.seq (.seq (.ops false f23r12) (.cond (.tmp 32) (.exit 5) .skip)) (.seq (.ops false f23r13) (.cond (.tmp 34) (.exit 6) .skip))))))) (.exit 0))) (.seq (.seq (.ops false f23r14) .ret) (.exit 0)))) (.seq (.seq (.ops false f23r15) .ret) (.exit 0)))) (.seq (.seq (.ops false f23r16) (.seq (.ops false f23r17) .ret)) (.exit 0)))) (.seq (.seq (.ops false f23r18) .ret) (.exit 0))))) (.seq (.seq (.ops false f23r19) .ret) (.exit 0))))) (.seq (.ops false f23r20) .ret))))⟩
def f24r0:List AOp:=[oQ 4 (.alloc 59) 0,
 oQ 5 (.assign (.const (.int .i64 0))) 3,
 oQ 6 (.assign (.const (.int .i64 0))) 23]
def f24r1:List AOp:=[oM 16 0 9,
 oM 17 1 3,
 oQ 18 (.index 9 (oT 16) (oT 17)) 5,
 oA 7 18 5]
def f24r2:List AOp:=[oQ 19 (.buildSlice 52 13 #[(0,(.const (.string { data:=#[46] }))),(1,(.const (.string { data:=#[94] }))),(2,(.const (.string { data:=#[36] }))),(3,(.const (.string { data:=#[92,98] }))),(4,(.const (.string { data:=#[92,66] }))),(5,(.const (.string { data:=#[124] }))),(6,(.const (.string { data:=#[40,63,58] }))),(7,(.const (.string { data:=#[40,63,61] }))),(8,(.const (.string { data:=#[40,63,33] }))),(9,(.const (.string { data:=#[40,63,60,61] }))),(10,(.const (.string { data:=#[40,63,60,33] }))),(11,(.const (.string { data:=#[40,63,62] }))),(12,(.const (.string { data:=#[41] })))]) 52,
 oA 8 19 52]
def f24r3:List AOp:=[oQ 20 (.buildSlice 81 13 #[(0,(.const (.int .i64 1))),(1,(.const (.int .i64 2))),(2,(.const (.int .i64 3))),(3,(.const (.int .i64 4))),(4,(.const (.int .i64 5))),(5,(.const (.int .i64 6))),(6,(.const (.int .i64 8))),(7,(.const (.int .i64 9))),(8,(.const (.int .i64 10))),(9,(.const (.int .i64 11))),(10,(.const (.int .i64 12))),(11,(.const (.int .i64 13))),(12,(.const (.int .i64 15)))]) 81,
 oA 9 20 81]
def f24r4:List AOp:=[oQ 10 (.assign (.const (.int .i64 0))) 3]
def f24r5:List AOp:=[oM 21 10 3,
 oM 22 8 52,
 oQ 23 (cB .len #[(oT 22)] #[52]) 3,
 oQ 24 (.binOp .lss 3 (oT 21) (oT 23) 3) 4]
def f24r7:List AOp:=[oM 27 0 9,
 oM 28 1 3,
 oM 29 8 52,
 oM 30 10 3,
 oQ 31 (.indexAddr 52 (oT 29) (oT 30)) 0,
 oQ 32 (.load 9 (oT 31)) 9,
 oQ 33 (cF 28 #[(oT 27),(oT 28),(oT 32)] #[9,3,9]) 4]
def f24r8:List AOp:=[oM 34 9 81,
 oM 35 10 3,
 oQ 36 (.indexAddr 81 (oT 34) (oT 35)) 0,
 oQ 37 (.load 3 (oT 36)) 3,
 oQ 38 (.build 59 #[(0,(oT 37))]) 59,
 oM 39 1 3,
 oM 40 8 52,
 oM 41 10 3,
 oQ 42 (.indexAddr 52 (oT 40) (oT 41)) 0,
 oQ 43 (.load 9 (oT 42)) 9,
 oQ 44 (cB .len #[(oT 43)] #[9]) 3,
 oQ 45 (.binOp .add 3 (oT 39) (oT 44) 3) 3,
  ⟨none,.pick (.const (.bool true)) (oT 38) (oT 4),0,none⟩,
 oA 5 45 3,
 oQ 6 (.assign (.const (.int .i64 0))) 23]
def f24r6:List AOp:=[oM 25 10 3,
 oQ 26 (.binOp .add 3 (oT 25) (.const (.int .i64 1)) 3) 3,
 oA 10 26 3]
def f24b0:AC:=(.seq (.seq (.ops false f24r5) (.cond (oT 24) .skip (.exit 0))) (.seq (.block 1 (.seq (.ops false f24r7) (.cond (oT 33) (.seq (.late true 59 4 (oT 38) f24r8) .ret) .skip))) (.ops false f24r6)))
def f24r9:List AOp:=[oM 46 0 9,
 oM 47 1 3,
 oQ 48 (.call { callee:=(.value (.func 28)),args:=#[(oT 46),(oT 47),(.const (.string { data:=#[40,63] }))],argTypes:=#[9,3,9] }) 4]
def f24r10:List AOp:=[oM 49 0 9,
 oM 50 1 3,
 oQ 51 (cF 41 #[(oT 49),(oT 50)] #[9,3]) 60,
 oQ 52 (.extract (oT 51) 0) 59,
 oQ 53 (.extract (oT 51) 1) 3,
 oQ 54 (.extract (oT 51) 2) 23,
 oN (.store 59 (oT 4) (oT 52)) 0,
 oA 5 53 3,
 oA 6 54 23]
def f24r11:List AOp:=[oM 55 7 5,
 oQ 56 (.binOp .eql 5 (oT 55) (.const (.int .u8 40)) 5) 4]
def f24r12:List AOp:=[oQ 57 (.build 59 #[(0,(.const (.int .i64 7)))]) 59,
 oM 58 1 3,
 oQ 59 (.binOp .add 3 (oT 58) (.const (.int .i64 1)) 3) 3,
 oN (.store 59 (oT 4) (oT 57)) 0,
 oA 5 59 3,
 oQ 6 (.assign (.const (.int .i64 0))) 23]
def f24r13p0:List AOp:=[oM 60 7 5,
 oQ 61 (.binOp .eql 5 (oT 60) (.const (.int .u8 42)) 5) 4,
 oM 62 61 4,
 oG 63 (.move (oT 7)) 5 62 false,
 oG 64 (.binOp .eql 5 (oT 63) (.const (.int .u8 43)) 5) 4 62 false,
 oQ 65 (.pick (oT 62) (.const (.bool true)) (oT 64)) 4]
def f24r13p1:List AOp:=[oM 66 65 4,
 oG 67 (.move (oT 7)) 5 66 false,
 oG 68 (.binOp .eql 5 (oT 67) (.const (.int .u8 63)) 5) 4 66 false,
 oQ 69 (.pick (oT 66) (.const (.bool true)) (oT 68)) 4]
def f24r13p2:List AOp:=[oM 70 69 4,
 oG 71 (.move (oT 7)) 5 70 false,
 oG 72 (.binOp .eql 5 (oT 71) (.const (.int .u8 123)) 5) 4 70 false,
 oQ 73 (.pick (oT 70) (.const (.bool true)) (oT 72)) 4]
def f24r13:List AOp:=f24r13p0 ++ (f24r13p1 ++ f24r13p2)
def f24r14:List AOp:=[oM 74 0 9,
 oM 75 1 3,
 oQ 76 (cF 42 #[(oT 74),(oT 75)] #[9,3]) 60,
 oQ 77 (.extract (oT 76) 0) 59,
 oQ 78 (.extract (oT 76) 1) 3,
 oQ 79 (.extract (oT 76) 2) 23,
 oN (.store 59 (oT 4) (oT 77)) 0,
 oA 5 78 3,
 oA 6 79 23]
def f24r15:List AOp:=[oM 80 7 5,
 oQ 81 (.binOp .eql 5 (oT 80) (.const (.int .u8 91)) 5) 4]
def f24r16:List AOp:=[oM 83 0 9,
 oM 84 1 3,
 oQ 85 (cF 16 #[(oT 83),(oT 84)] #[9,3]) 39,
 oM 82 85 39,
 oQ 86 (.extract (oT 82) 0) 34,
 oQ 87 (.extract (oT 82) 1) 3,
 oQ 88 (.extract (oT 82) 2) 23,
 oQ 11 (.alloc 34) 0,
 oN (.store 34 (oT 11) (oT 86)) 0,
 oA 12 87 3,
 oA 13 88 23]
def f24r17:List AOp:=[oQ 89 (.load 34 (oT 11)) 34,
 oQ 90 (.build 59 #[(1,(oT 89))]) 59,
 oM 91 12 3,
 oM 92 13 23,
 oN (.store 59 (oT 4) (oT 90)) 0,
 oA 5 91 3,
 oA 6 92 23]
def f24r18:List AOp:=[oM 93 7 5,
 oQ 94 (.binOp .eql 5 (oT 93) (.const (.int .u8 93)) 5) 4,
 oM 95 94 4,
 oG 96 (.move (oT 7)) 5 95 false,
 oG 97 (.binOp .eql 5 (oT 96) (.const (.int .u8 125)) 5) 4 95 false,
 oQ 98 (.pick (oT 95) (.const (.bool true)) (oT 97)) 4]
def f24r19:List AOp:=[oQ 99 (.build 59 #[]) 59,
 oN (.store 59 (oT 4) (oT 99)) 0,
 oQ 5 (.assign (.const (.int .i64 0))) 3,
 oQ 6 (.assign (.const (.int .i64 3))) 23]
def f24r20:List AOp:=[oM 100 7 5,
 oQ 101 (.binOp .neq 5 (oT 100) (.const (.int .u8 92)) 5) 4]
def f24r21:List AOp:=[oM 102 7 5,
 oQ 103 (cF 43 #[(oT 102)] #[5]) 68,
 oQ 104 (cF 35 #[(oT 103)] #[68]) 34,
 oQ 105 (.build 59 #[(1,(oT 104))]) 59,
 oM 106 1 3,
 oQ 107 (.binOp .add 3 (oT 106) (.const (.int .i64 1)) 3) 3,
 oN (.store 59 (oT 4) (oT 105)) 0,
 oA 5 107 3,
 oQ 6 (.assign (.const (.int .i64 0))) 23]
def f24r22p0:List AOp:=[oM 108 1 3,
 oQ 109 (.binOp .add 3 (oT 108) (.const (.int .i64 1)) 3) 3,
 oM 110 0 9,
 oQ 111 (cB .len #[(oT 110)] #[9]) 3,
 oQ 112 (.binOp .lss 3 (oT 109) (oT 111) 3) 4,
 oM 113 112 4,
 oG 114 (.move (oT 0)) 9 113 true,
 oG 115 (.move (oT 1)) 3 113 true,
 oG 116 (.binOp .add 3 (oT 115) (.const (.int .i64 1)) 3) 3 113 true,
 oG 117 (.index 9 (oT 114) (oT 116)) 5 113 true,
 oG 118 (.binOp .geq 5 (oT 117) (.const (.int .u8 49)) 5) 4 113 true,
 oQ 119 (.pick (oT 113) (oT 118) (.const (.bool false))) 4]
def f24r22p1:List AOp:=[oM 120 119 4,
 oG 121 (.move (oT 0)) 9 120 true,
 oG 122 (.move (oT 1)) 3 120 true,
 oG 123 (.binOp .add 3 (oT 122) (.const (.int .i64 1)) 3) 3 120 true,
 oG 124 (.index 9 (oT 121) (oT 123)) 5 120 true,
 oG 125 (.binOp .leq 5 (oT 124) (.const (.int .u8 57)) 5) 4 120 true,
 oQ 126 (.pick (oT 120) (oT 125) (.const (.bool false))) 4]
def f24r22:List AOp:=f24r22p0 ++ f24r22p1
def f24r23:List AOp:=[oM 127 0 9,
 oM 128 1 3,
 oQ 129 (.binOp .add 3 (oT 128) (.const (.int .i64 1)) 3) 3,
 oQ 130 (.index 9 (oT 127) (oT 129)) 5,
 oQ 131 (.convert 5 3 (oT 130)) 3,
 oQ 132 (.binOp .sub 3 (oT 131) (.const (.int .i64 48)) 3) 3,
 oQ 133 (.build 59 #[(0,(.const (.int .i64 17))),(5,(oT 132))]) 59,
 oM 134 1 3,
 oQ 135 (.binOp .add 3 (oT 134) (.const (.int .i64 2)) 3) 3,
 oN (.store 59 (oT 4) (oT 133)) 0,
 oA 5 135 3,
 oQ 6 (.assign (.const (.int .i64 0))) 23]
def f24r24:List AOp:=[oM 137 0 9,
 oM 138 1 3,
 oQ 139 (cF 44 #[(oT 137),(oT 138)] #[9,3]) 69,
 oM 136 139 69,
 oQ 140 (.extract (oT 136) 0) 68,
 oQ 141 (.extract (oT 136) 1) 3,
 oQ 14 (.alloc 68) 0,
 oN (.store 68 (oT 14) (oT 140)) 0,
 oA 15 141 3]
def f24r25:List AOp:=[oM 142 15 3,
 oQ 143 (.binOp .eql 3 (oT 142) (.const (.int .i64 0)) 3) 4]
def f24r26:List AOp:=[oQ 144 (.build 59 #[]) 59,
 oN (.store 59 (oT 4) (oT 144)) 0,
 oQ 5 (.assign (.const (.int .i64 0))) 3,
 oQ 6 (.assign (.const (.int .i64 3))) 23]
def f24r27:List AOp:=[oQ 145 (.load 68 (oT 14)) 68,
 oQ 146 (cF 35 #[(oT 145)] #[68]) 34,
 oQ 147 (.build 59 #[(1,(oT 146))]) 59,
 oM 148 15 3,
 oN (.store 59 (oT 4) (oT 147)) 0,
 oA 5 148 3,
 oQ 6 (.assign (.const (.int .i64 0))) 23]
def f24:AFun:=⟨149,[(.cell 4 59),(.tmp 5),(.tmp 6)],(.seq (.ops false f24r0) (.seq (.ops false f24r1) (.seq (.ops false f24r2) (.seq (.ops false f24r3) (.seq (.seq (.ops false f24r4) (.block 0 (.loop [0,1,4,7,8,9,10] f24b0))) (.seq (.seq (.ops false f24r9) (.cond (.tmp 48) (.seq (.ops false f24r10) .ret) .skip)) (.seq (.seq (.ops false f24r11) (.cond (.tmp 56) (.seq (.ops false f24r12) .ret) .skip)) (.seq (.seq (.ops false f24r13) (.cond (.tmp 73) (.seq (.ops false f24r14) .ret) .skip)) (.seq (.seq (.ops false f24r15) (.cond (.tmp 81) (.seq (.ops false f24r16) (.seq (.ops false f24r17) .ret)) .skip)) (.seq (.seq (.ops false f24r18) (.cond (.tmp 98) (.seq (.ops false f24r19) .ret) .skip)) (.seq (.seq (.ops false f24r20) (.cond (.tmp 101) (.seq (.ops false f24r21) .ret) .skip)) (.seq (.seq (.ops false f24r22) (.cond (.tmp 126) (.seq (.ops false f24r23) .ret) .skip)) (.seq (.ops false f24r24) (.seq (.seq (.ops false f24r25) (.cond (.tmp 143) (.seq (.ops false f24r26) .ret) .skip)) (.seq (.ops false f24r27) .ret)))))))))))))))⟩
def f25r0:List AOp:=[oQ 1 (.box 36 (oT 0)) 0,
 oQ 2 (.alloc 36) 0]
def f25r1:List AOp:=[oQ 4 (.move (.const (.int .i64 0))) 3]
def f25r2:List AOp:=[oQ 5 (.binOp .lss 3 (oT 4) (.const (.int .i64 4)) 3) 0]
def f25r3:List AOp:=[oM 6 4 3,
 oA 3 6 3]
def f25r4:List AOp:=[oM 7 3 3,
 oM 8 3 3,
 oQ 9 (.fieldAddr 36 (oT 1) 0) 0,
 oQ 10 (.indexAddr 34 (oT 9) (oT 8)) 0,
 oQ 11 (.load 33 (oT 10)) 33,
 oQ 12 (.unOp .xor 33 (oT 11)) 33,
 oQ 13 (.fieldAddr 36 (oT 1) 0) 0,
 oQ 14 (.indexAddr 34 (oT 13) (oT 7)) 0,
 oN (.store 33 (oT 14) (oT 12)) 0]
def f25r5:List AOp:=[oQ 15 (.binOp .add 3 (oT 4) (.const (.int .i64 1)) 3) 3,
 oM 4 15 3]
def f25b0:AC:=(.seq (.ops false f25r2) (.seq (.cond (oT 5) .skip (.exit 0)) (.seq (.block 1 (.seq (.ops false f25r3) (.ops false f25r4))) (.ops false f25r5))))
def f25r6:List AOp:=[oQ 16 (.load 36 (oT 1)) 36,
 oN (.store 36 (oT 2) (oT 16)) 0]
def f25:AFun:=⟨17,[(.cell 2 36)],(.seq (.ops false f25r0) (.seq (.seq (.ops false f25r1) (.block 0 (.loop [1,2,4] f25b0))) (.seq (.ops false f25r6) .ret)))⟩
def f26r0:List AOp:=[oQ 4 (.assign (.const (.bool false))) 4]
def f26r1:List AOp:=[oM 5 0 9,
 oM 6 1 9,
 oQ 7 (cF 45 #[(oT 5),(oT 6)] #[9,9]) 4,
 oA 4 7 4]
def f26:AFun:=⟨8,[(.tmp 4)],(.seq (.ops false f26r0) (.seq (.ops false f26r1) .ret))⟩
def f27r0:List AOp:=[oQ 2 (.alloc 36) 0,
 oQ 3 (.assign (.const (.int .i64 0))) 3]
def f27r1:List AOp:=[oM 13 0 9,
 oQ 14 (cF 46 #[(oT 13)] #[9]) 63,
 oM 12 14 63,
 oQ 15 (.extract (oT 12) 0) 36,
 oQ 16 (.extract (oT 12) 1) 3,
 oQ 4 (.alloc 36) 0,
 oN (.store 36 (oT 4) (oT 15)) 0,
 oA 5 16 3]
def f27r2p0:List AOp:=[oM 17 5 3,
 oQ 18 (.binOp .eql 3 (oT 17) (.const (.int .i64 0)) 3) 4,
 oM 19 18 4,
 oG 20 (.move (oT 5)) 3 19 false,
 oG 21 (.move (oT 0)) 9 19 false,
 oG 22 (cB .len #[(oT 21)] #[9]) 3 19 false,
 oG 23 (.binOp .geq 3 (oT 20) (oT 22) 3) 4 19 false,
 oQ 24 (.pick (oT 19) (.const (.bool true)) (oT 23)) 4]
def f27r2p1:List AOp:=[oM 25 24 4,
 oG 26 (.move (oT 0)) 9 25 false,
 oG 27 (.move (oT 5)) 3 25 false,
 oG 28 (.index 9 (oT 26) (oT 27)) 5 25 false,
 oG 29 (.binOp .neq 5 (oT 28) (.const (.int .u8 45)) 5) 4 25 false,
 oQ 30 (.pick (oT 25) (.const (.bool true)) (oT 29)) 4]
def f27r2:List AOp:=f27r2p0 ++ f27r2p1
def f27r3:List AOp:=[oQ 31 (.load 36 (oT 4)) 36,
 oM 32 5 3,
 oN (.store 36 (oT 2) (oT 31)) 0,
 oA 3 32 3]
def f27r4:List AOp:=[oM 34 0 9,
 oM 35 5 3,
 oQ 36 (.binOp .add 3 (oT 35) (.const (.int .i64 1)) 3) 3,
 oQ 37 (.slice 9 (oT 34) (some (oT 36)) none none) 9,
 oQ 38 (cF 46 #[(oT 37)] #[9]) 63,
 oM 33 38 63,
 oQ 39 (.extract (oT 33) 0) 36,
 oQ 40 (.extract (oT 33) 1) 3,
 oQ 6 (.alloc 36) 0,
 oN (.store 36 (oT 6) (oT 39)) 0,
 oA 7 40 3]
def f27r5:List AOp:=[oQ 42 (.load 36 (oT 4)) 36,
 oQ 43 (cF 47 #[(oT 42)] #[36]) 71,
 oM 41 43 71,
 oQ 44 (.extract (oT 41) 0) 5,
 oQ 45 (.extract (oT 41) 1) 4,
 oA 8 44 5,
 oA 9 45 4]
def f27r6:List AOp:=[oQ 47 (.load 36 (oT 6)) 36,
 oQ 48 (cF 47 #[(oT 47)] #[36]) 71,
 oM 46 48 71,
 oQ 49 (.extract (oT 46) 0) 5,
 oQ 50 (.extract (oT 46) 1) 4,
 oA 10 49 5,
 oA 11 50 4]
def f27r7p0:List AOp:=[oM 51 7 3,
 oQ 52 (.binOp .eql 3 (oT 51) (.const (.int .i64 0)) 3) 4,
 oM 53 52 4,
 oG 54 (.load 36 (oT 4)) 36 53 false,
 oG 55 (cF 48 #[(oT 54)] #[36]) 3 53 false,
 oG 56 (.binOp .neq 3 (oT 55) (.const (.int .i64 1)) 3) 4 53 false,
 oQ 57 (.pick (oT 53) (.const (.bool true)) (oT 56)) 4]
def f27r7p1:List AOp:=[oM 58 57 4,
 oG 59 (.load 36 (oT 6)) 36 58 false,
 oG 60 (cF 48 #[(oT 59)] #[36]) 3 58 false,
 oG 61 (.binOp .neq 3 (oT 60) (.const (.int .i64 1)) 3) 4 58 false,
 oQ 62 (.pick (oT 58) (.const (.bool true)) (oT 61)) 4]
def f27r7p2:List AOp:=[oM 63 62 4,
 oG 64 (.move (oT 10)) 5 63 false,
 oG 65 (.move (oT 8)) 5 63 false,
 oG 66 (.binOp .lss 5 (oT 64) (oT 65) 5) 4 63 false,
 oQ 67 (.pick (oT 63) (.const (.bool true)) (oT 66)) 4]
def f27r7:List AOp:=f27r7p0 ++ (f27r7p1 ++ f27r7p2)
def f27r8:List AOp:=[oQ 68 (.build 36 #[]) 36,
 oN (.store 36 (oT 2) (oT 68)) 0,
 oQ 3 (.assign (.const (.int .i64 0))) 3]
def f27r9:List AOp:=[oM 69 8 5,
 oM 70 10 5,
 oQ 71 (cF 20 #[(oT 69),(oT 70)] #[5,5]) 36,
 oM 72 5 3,
 oQ 73 (.binOp .add 3 (oT 72) (.const (.int .i64 1)) 3) 3,
 oM 74 7 3,
 oQ 75 (.binOp .add 3 (oT 73) (oT 74) 3) 3,
 oN (.store 36 (oT 2) (oT 71)) 0,
 oA 3 75 3]
def f27:AFun:=⟨76,[(.cell 2 36),(.tmp 3)],(.seq (.ops false f27r0) (.seq (.ops false f27r1) (.seq (.seq (.ops false f27r2) (.cond (.tmp 30) (.seq (.ops false f27r3) .ret) .skip)) (.seq (.ops false f27r4) (.seq (.ops false f27r5) (.seq (.ops false f27r6) (.seq (.seq (.ops false f27r7) (.cond (.tmp 67) (.seq (.ops false f27r8) .ret) .skip)) (.seq (.ops false f27r9) .ret))))))))⟩
def f28r0:List AOp:=[oQ 6 (.assign (.const (.bool false))) 4]
def f28r1p0:List AOp:=[oM 7 1 3,
 oQ 8 (.binOp .geq 3 (oT 7) (.const (.int .i64 0)) 3) 4,
 oM 9 8 4,
 oG 10 (.move (oT 1)) 3 9 true,
 oG 11 (.move (oT 0)) 9 9 true,
 oG 12 (cB .len #[(oT 11)] #[9]) 3 9 true,
 oG 13 (.binOp .leq 3 (oT 10) (oT 12) 3) 4 9 true,
 oQ 14 (.pick (oT 9) (oT 13) (.const (.bool false))) 4]
def f28r1p1:List AOp:=[oM 15 14 4,
 oG 16 (.move (oT 0)) 9 15 true,
 oG 17 (cB .len #[(oT 16)] #[9]) 3 15 true,
 oG 18 (.move (oT 1)) 3 15 true,
 oG 19 (.binOp .sub 3 (oT 17) (oT 18) 3) 3 15 true,
 oG 20 (.move (oT 2)) 9 15 true,
 oG 21 (cB .len #[(oT 20)] #[9]) 3 15 true,
 oG 22 (.binOp .geq 3 (oT 19) (oT 21) 3) 4 15 true,
 oQ 23 (.pick (oT 15) (oT 22) (.const (.bool false))) 4]
def f28r1p2:List AOp:=[oM 24 23 4,
 oG 25 (.move (oT 0)) 9 24 true,
 oG 26 (.move (oT 1)) 3 24 true,
 oG 27 (.move (oT 1)) 3 24 true,
 oG 28 (.move (oT 2)) 9 24 true,
 oG 29 (cB .len #[(oT 28)] #[9]) 3 24 true,
 oG 30 (.binOp .add 3 (oT 27) (oT 29) 3) 3 24 true,
 oG 31 (.slice 9 (oT 25) (some (oT 26)) (some (oT 30)) none) 9 24 true,
 oG 32 (.move (oT 2)) 9 24 true,
 oG 33 (.binOp .eql 9 (oT 31) (oT 32) 9) 4 24 true,
 oQ 34 (.pick (oT 24) (oT 33) (.const (.bool false))) 4]
def f28r1p3:List AOp:=[oA 6 34 4]
def f28r1:List AOp:=f28r1p0 ++ (f28r1p1 ++ (f28r1p2 ++ f28r1p3))
def f28:AFun:=⟨35,[(.tmp 6)],(.seq (.ops false f28r0) (.seq (.ops false f28r1) .ret))⟩
def f29r0:List AOp:=[oQ 4 (.alloc 68) 0,
 oQ 5 (.assign (.const (.int .i64 0))) 3]
def f29r1p0:List AOp:=[oM 6 1 3,
 oM 7 0 9,
 oQ 8 (cB .len #[(oT 7)] #[9]) 3,
 oQ 9 (.binOp .geq 3 (oT 6) (oT 8) 3) 4,
 oM 10 9 4,
 oG 11 (.move (oT 0)) 9 10 false,
 oG 12 (.move (oT 1)) 3 10 false,
 oG 13 (.index 9 (oT 11) (oT 12)) 5 10 false,
 oG 14 (.binOp .eql 5 (oT 13) (.const (.int .u8 91)) 5) 4 10 false,
 oQ 15 (.pick (oT 10) (.const (.bool true)) (oT 14)) 4]
def f29r1p1:List AOp:=[oM 16 15 4,
 oG 17 (.move (oT 0)) 9 16 false,
 oG 18 (.move (oT 1)) 3 16 false,
 oG 19 (.index 9 (oT 17) (oT 18)) 5 16 false,
 oG 20 (.binOp .eql 5 (oT 19) (.const (.int .u8 93)) 5) 4 16 false,
 oQ 21 (.pick (oT 16) (.const (.bool true)) (oT 20)) 4]
def f29r1p2:List AOp:=[oM 22 21 4,
 oG 23 (.move (oT 0)) 9 22 false,
 oG 24 (.move (oT 1)) 3 22 false,
 oG 25 (.index 9 (oT 23) (oT 24)) 5 22 false,
 oG 26 (.binOp .eql 5 (oT 25) (.const (.int .u8 45)) 5) 4 22 false,
 oQ 27 (.pick (oT 22) (.const (.bool true)) (oT 26)) 4]
def f29r1:List AOp:=f29r1p0 ++ (f29r1p1 ++ f29r1p2)
def f29r2:List AOp:=[oQ 28 (.build 68 #[]) 68,
 oN (.store 68 (oT 4) (oT 28)) 0,
 oQ 5 (.assign (.const (.int .i64 0))) 3]
def f29r3:List AOp:=[oM 29 0 9,
 oM 30 1 3,
 oQ 31 (.index 9 (oT 29) (oT 30)) 5,
 oQ 32 (.binOp .eql 5 (oT 31) (.const (.int .u8 92)) 5) 4]
def f29r4:List AOp:=[oM 33 0 9,
 oM 34 1 3,
 oQ 35 (cF 44 #[(oT 33),(oT 34)] #[9,3]) 69,
 oQ 36 (.extract (oT 35) 0) 68,
 oQ 37 (.extract (oT 35) 1) 3,
 oN (.store 68 (oT 4) (oT 36)) 0,
 oA 5 37 3]
def f29r5:List AOp:=[oM 38 0 9,
 oM 39 1 3,
 oQ 40 (.index 9 (oT 38) (oT 39)) 5,
 oQ 41 (cF 43 #[(oT 40)] #[5]) 68,
 oM 42 1 3,
 oQ 43 (.binOp .add 3 (oT 42) (.const (.int .i64 1)) 3) 3,
 oN (.store 68 (oT 4) (oT 41)) 0,
 oA 5 43 3]
def f29:AFun:=⟨44,[(.cell 4 68),(.tmp 5)],(.seq (.ops false f29r0) (.seq (.seq (.ops false f29r1) (.cond (.tmp 27) (.seq (.ops false f29r2) .ret) .skip)) (.seq (.seq (.ops false f29r3) (.cond (.tmp 32) (.seq (.ops false f29r4) .ret) .skip)) (.seq (.ops false f29r5) .ret))))⟩
def f30r0:List AOp:=[oQ 1 (.box 68 (oT 0)) 0,
 oQ 2 (.assign (.const (.int .u8 0))) 5,
 oQ 3 (.assign (.const (.bool false))) 4]
def f30r1:List AOp:=[oQ 4 (.assign (.const (.int .i64 0))) 3]
def f30r2:List AOp:=[oM 5 4 3,
 oQ 6 (.binOp .lss 3 (oT 5) (.const (.int .i64 256)) 3) 4]
def f30r4:List AOp:=[oM 9 4 3,
 oQ 10 (.fieldAddr 68 (oT 1) 0) 0,
 oQ 11 (.indexAddr 66 (oT 10) (oT 9)) 0,
 oQ 12 (.load 4 (oT 11)) 4]
def f30r5:List AOp:=[oM 13 4 3,
 oQ 14 (.convert 3 5 (oT 13)) 5,
 oA 2 14 5,
 oQ 3 (.assign (.const (.bool true))) 4]
def f30r3:List AOp:=[oM 7 4 3,
 oQ 8 (.binOp .add 3 (oT 7) (.const (.int .i64 1)) 3) 3,
 oA 4 8 3]
def f30b0:AC:=(.seq (.seq (.ops false f30r2) (.cond (oT 6) .skip (.exit 0))) (.seq (.block 1 (.seq (.ops false f30r4) (.cond (oT 12) (.seq (.ops false f30r5) .ret) .skip))) (.ops false f30r3)))
def f30r6:List AOp:=[oQ 2 (.assign (.const (.int .u8 0))) 5,
 oQ 3 (.assign (.const (.bool false))) 4]
def f30:AFun:=⟨15,[(.tmp 2),(.tmp 3)],(.seq (.ops false f30r0) (.seq (.seq (.ops false f30r1) (.block 0 (.loop [1,4] f30b0))) (.seq (.ops false f30r6) .ret)))⟩
def f31r0:List AOp:=[oQ 1 (.box 68 (oT 0)) 0,
 oQ 2 (.assign (.const (.int .i64 0))) 3]
def f31r1:List AOp:=[oQ 3 (.assign (.const (.int .i64 0))) 3]
def f31r2:List AOp:=[oQ 4 (.assign (.const (.int .i64 0))) 3]
def f31r3:List AOp:=[oM 5 4 3,
 oQ 6 (.binOp .lss 3 (oT 5) (.const (.int .i64 256)) 3) 4]
def f31r5:List AOp:=[oM 9 4 3,
 oQ 10 (.fieldAddr 68 (oT 1) 0) 0,
 oQ 11 (.indexAddr 66 (oT 10) (oT 9)) 0,
 oQ 12 (.load 4 (oT 11)) 4]
def f31r6:List AOp:=[oM 13 3 3,
 oQ 14 (.binOp .add 3 (oT 13) (.const (.int .i64 1)) 3) 3,
 oA 3 14 3]
def f31r4:List AOp:=[oM 7 4 3,
 oQ 8 (.binOp .add 3 (oT 7) (.const (.int .i64 1)) 3) 3,
 oA 4 8 3]
def f31b0:AC:=(.seq (.seq (.ops false f31r3) (.cond (oT 6) .skip (.exit 0))) (.seq (.block 1 (.seq (.ops false f31r5) (.cond (oT 12) (.ops false f31r6) .skip))) (.ops false f31r4)))
def f31r7:List AOp:=[oM 15 3 3,
 oA 2 15 3]
def f31:AFun:=⟨16,[(.tmp 2)],(.seq (.ops false f31r0) (.seq (.ops false f31r1) (.seq (.seq (.ops false f31r2) (.block 0 (.loop [1,3,4] f31b0))) (.seq (.ops false f31r7) .ret))))⟩
def f32r0:List AOp:=[oQ 4 (.alloc 68) 0]
def f32r1:List AOp:=[oQ 7 (.build 68 #[]) 68,
 oQ 5 (.alloc 68) 0,
 oN (.store 68 (oT 5) (oT 7)) 0]
def f32r2:List AOp:=[oQ 6 (.assign (.const (.int .i64 0))) 3]
def f32r3:List AOp:=[oM 8 6 3,
 oQ 9 (.binOp .lss 3 (oT 8) (.const (.int .i64 256)) 3) 4]
def f32r5p0:List AOp:=[oM 12 6 3,
 oM 13 6 3,
 oM 14 0 5,
 oQ 15 (.convert 5 3 (oT 14)) 3,
 oQ 16 (.binOp .geq 3 (oT 13) (oT 15) 3) 4,
 oM 17 16 4,
 oG 18 (.move (oT 6)) 3 17 true,
 oG 19 (.move (oT 1)) 5 17 true,
 oG 20 (.convert 5 3 (oT 19)) 3 17 true,
 oG 21 (.binOp .leq 3 (oT 18) (oT 20) 3) 4 17 true,
 oQ 22 (.pick (oT 17) (oT 21) (.const (.bool false))) 4]
def f32r5p1:List AOp:=[oQ 23 (.fieldAddr 68 (oT 5) 0) 0,
 oQ 24 (.indexAddr 66 (oT 23) (oT 12)) 0,
 oN (.store 4 (oT 24) (oT 22)) 0]
def f32r5:List AOp:=f32r5p0 ++ f32r5p1
def f32r4:List AOp:=[oM 10 6 3,
 oQ 11 (.binOp .add 3 (oT 10) (.const (.int .i64 1)) 3) 3,
 oA 6 11 3]
def f32b0:AC:=(.seq (.seq (.ops false f32r3) (.cond (oT 9) .skip (.exit 0))) (.seq (.block 1 (.ops false f32r5)) (.ops false f32r4)))
def f32r6:List AOp:=[oQ 25 (.load 68 (oT 5)) 68,
 oN (.store 68 (oT 4) (oT 25)) 0]
def f32:AFun:=⟨26,[(.cell 4 68)],(.seq (.ops false f32r0) (.seq (.ops false f32r1) (.seq (.seq (.ops false f32r2) (.block 0 (.loop [0,1,4,5,6] f32b0))) (.seq (.ops false f32r6) .ret))))⟩
def f33r0:List AOp:=[oQ 2 (.box 68 (oT 0)) 0,
 oQ 3 (.box 68 (oT 1)) 0,
 oQ 4 (.alloc 68) 0]
def f33r1:List AOp:=[oQ 5 (.assign (.const (.int .i64 0))) 3]
def f33r2:List AOp:=[oM 6 5 3,
 oQ 7 (.binOp .lss 3 (oT 6) (.const (.int .i64 256)) 3) 4]
def f33r4p0:List AOp:=[oM 10 5 3,
 oM 11 5 3,
 oQ 12 (.fieldAddr 68 (oT 2) 0) 0,
 oQ 13 (.indexAddr 66 (oT 12) (oT 11)) 0,
 oQ 14 (.load 4 (oT 13)) 4,
 oM 15 14 4,
 oG 16 (.move (oT 5)) 3 15 false,
 oG 17 (.fieldAddr 68 (oT 3) 0) 0 15 false,
 oG 18 (.indexAddr 66 (oT 17) (oT 16)) 0 15 false,
 oG 19 (.load 4 (oT 18)) 4 15 false,
 oQ 20 (.pick (oT 15) (.const (.bool true)) (oT 19)) 4]
def f33r4p1:List AOp:=[oQ 21 (.fieldAddr 68 (oT 2) 0) 0,
 oQ 22 (.indexAddr 66 (oT 21) (oT 10)) 0,
 oN (.store 4 (oT 22) (oT 20)) 0]
def f33r4:List AOp:=f33r4p0 ++ f33r4p1
def f33r3:List AOp:=[oM 8 5 3,
 oQ 9 (.binOp .add 3 (oT 8) (.const (.int .i64 1)) 3) 3,
 oA 5 9 3]
def f33b0:AC:=(.seq (.seq (.ops false f33r2) (.cond (oT 7) .skip (.exit 0))) (.seq (.block 1 (.ops false f33r4)) (.ops false f33r3)))
def f33r5:List AOp:=[oQ 23 (.load 68 (oT 2)) 68,
 oN (.store 68 (oT 4) (oT 23)) 0]
def f33:AFun:=⟨24,[(.cell 4 68)],(.seq (.ops false f33r0) (.seq (.seq (.ops false f33r1) (.block 0 (.loop [2,3,4,5] f33b0))) (.seq (.ops false f33r5) .ret)))⟩
def f34r0:List AOp:=[oQ 1 (.box 68 (oT 0)) 0,
 oQ 2 (.alloc 68) 0]
def f34r1:List AOp:=[oQ 3 (.assign (.const (.int .i64 0))) 3]
def f34r2:List AOp:=[oM 4 3 3,
 oQ 5 (.binOp .lss 3 (oT 4) (.const (.int .i64 256)) 3) 4]
def f34r4:List AOp:=[oM 8 3 3,
 oM 9 3 3,
 oQ 10 (.fieldAddr 68 (oT 1) 0) 0,
 oQ 11 (.indexAddr 66 (oT 10) (oT 9)) 0,
 oQ 12 (.load 4 (oT 11)) 4,
 oQ 13 (.unOp .not 4 (oT 12)) 4,
 oQ 14 (.fieldAddr 68 (oT 1) 0) 0,
 oQ 15 (.indexAddr 66 (oT 14) (oT 8)) 0,
 oN (.store 4 (oT 15) (oT 13)) 0]
def f34r3:List AOp:=[oM 6 3 3,
 oQ 7 (.binOp .add 3 (oT 6) (.const (.int .i64 1)) 3) 3,
 oA 3 7 3]
def f34b0:AC:=(.seq (.seq (.ops false f34r2) (.cond (oT 5) .skip (.exit 0))) (.seq (.block 1 (.ops false f34r4)) (.ops false f34r3)))
def f34r5:List AOp:=[oQ 16 (.load 68 (oT 1)) 68,
 oN (.store 68 (oT 2) (oT 16)) 0]
def f34:AFun:=⟨17,[(.cell 2 68)],(.seq (.ops false f34r0) (.seq (.seq (.ops false f34r1) (.block 0 (.loop [1,2,3] f34b0))) (.seq (.ops false f34r5) .ret)))⟩
def f35r0:List AOp:=[oQ 1 (.box 68 (oT 0)) 0,
 oQ 2 (.alloc 34) 0]
def f35r1:List AOp:=[oQ 5 (.build 34 #[]) 34,
 oQ 3 (.alloc 34) 0,
 oN (.store 34 (oT 3) (oT 5)) 0]
def f35r2:List AOp:=[oQ 4 (.assign (.const (.int .i64 255))) 3]
def f35r3:List AOp:=[oM 6 4 3,
 oQ 7 (.binOp .geq 3 (oT 6) (.const (.int .i64 0)) 3) 4]
def f35r5:List AOp:=[oM 10 4 3,
 oQ 11 (.binOp .quo 3 (oT 10) (.const (.int .i64 64)) 3) 3,
 oM 12 4 3,
 oQ 13 (.binOp .quo 3 (oT 12) (.const (.int .i64 64)) 3) 3,
 oQ 14 (.indexAddr 34 (oT 3) (oT 13)) 0,
 oQ 15 (.load 33 (oT 14)) 33,
 oQ 16 (.binOp .mul 33 (oT 15) (.const (.int .u64 2)) 33) 33,
 oQ 17 (.indexAddr 34 (oT 3) (oT 11)) 0,
 oN (.store 33 (oT 17) (oT 16)) 0]
def f35r6:List AOp:=[oM 18 4 3,
 oQ 19 (.fieldAddr 68 (oT 1) 0) 0,
 oQ 20 (.indexAddr 66 (oT 19) (oT 18)) 0,
 oQ 21 (.load 4 (oT 20)) 4]
def f35r7:List AOp:=[oM 22 4 3,
 oQ 23 (.binOp .quo 3 (oT 22) (.const (.int .i64 64)) 3) 3,
 oM 24 4 3,
 oQ 25 (.binOp .quo 3 (oT 24) (.const (.int .i64 64)) 3) 3,
 oQ 26 (.indexAddr 34 (oT 3) (oT 25)) 0,
 oQ 27 (.load 33 (oT 26)) 33,
 oQ 28 (.binOp .add 33 (oT 27) (.const (.int .u64 1)) 33) 33,
 oQ 29 (.indexAddr 34 (oT 3) (oT 23)) 0,
 oN (.store 33 (oT 29) (oT 28)) 0]
def f35r4:List AOp:=[oM 8 4 3,
 oQ 9 (.binOp .sub 3 (oT 8) (.const (.int .i64 1)) 3) 3,
 oA 4 9 3]
def f35b0:AC:=(.seq (.seq (.ops false f35r3) (.cond (oT 7) .skip (.exit 0))) (.seq (.block 1 (.seq (.ops false f35r5) (.seq (.ops false f35r6) (.cond (oT 21) (.ops false f35r7) .skip)))) (.ops false f35r4)))
def f35r8:List AOp:=[oQ 30 (.load 34 (oT 3)) 34,
 oN (.store 34 (oT 2) (oT 30)) 0]
def f35:AFun:=⟨31,[(.cell 2 34)],(.seq (.ops false f35r0) (.seq (.ops false f35r1) (.seq (.seq (.ops false f35r2) (.block 0 (.loop [1,2,3,4] f35b0))) (.seq (.ops false f35r8) .ret))))⟩
def f36r0:List AOp:=[oM 4 0 85,
 oM 5 1 5,
 oQ 6 (.binOp .quo 5 (oT 5) (.const (.int .u8 64)) 5) 5,
 oQ 7 (.nilCheck (oT 4)) 0,
 oQ 8 (.fieldAddr 36 (oT 7) 0) 0,
 oQ 9 (.indexAddr 34 (oT 8) (oT 6)) 0,
 oQ 10 (.load 33 (oT 9)) 33,
 oM 11 1 5,
 oQ 12 (.binOp .rem 5 (oT 11) (.const (.int .u8 64)) 5) 5,
 oQ 13 (.binOp .shl 33 (.const (.int .u64 1)) (oT 12) 5) 33,
 oQ 14 (.binOp .or 33 (oT 10) (oT 13) 33) 33,
 oQ 15 (.nilCheck (oT 4)) 0,
 oQ 16 (.fieldAddr 36 (oT 15) 0) 0,
 oQ 17 (.indexAddr 34 (oT 16) (oT 6)) 0,
 oN (.store 33 (oT 17) (oT 14)) 0]
def f36:AFun:=⟨18,[],(.ops false f36r0)⟩
def f37r0:List AOp:=[oQ 2 (.assign (.const (.int .i64 0))) 3,
 oQ 3 (.assign (.const (.bool false))) 4]
def f37r1:List AOp:=[oM 6 0 5,
 oQ 7 (.call { callee:=(.value (.func 49)),args:=#[(.const (.string { data:=#[46,94,36,124,41] })),(oT 6)],argTypes:=#[9,5] }) 3,
 oA 4 7 3]
def f37r2:List AOp:=[oQ 8 (.build 87 #[(0,(.const (.int .i64 1))),(1,(.const (.int .i64 2))),(2,(.const (.int .i64 3))),(3,(.const (.int .i64 6))),(4,(.const (.int .i64 15)))]) 87,
 oQ 5 (.alloc 87) 0,
 oN (.store 87 (oT 5) (oT 8)) 0]
def f37r3:List AOp:=[oM 9 4 3,
 oQ 10 (.binOp .lss 3 (oT 9) (.const (.int .i64 0)) 3) 4]
def f37r4:List AOp:=[oQ 2 (.assign (.const (.int .i64 0))) 3,
 oQ 3 (.assign (.const (.bool false))) 4]
def f37r5:List AOp:=[oM 11 4 3,
 oQ 12 (.indexAddr 87 (oT 5) (oT 11)) 0,
 oQ 13 (.load 3 (oT 12)) 3,
 oA 2 13 3,
 oQ 3 (.assign (.const (.bool true))) 4]
def f37:AFun:=⟨14,[(.tmp 2),(.tmp 3)],(.seq (.ops false f37r0) (.seq (.ops false f37r1) (.seq (.ops false f37r2) (.seq (.seq (.ops false f37r3) (.cond (.tmp 10) (.seq (.ops false f37r4) .ret) .skip)) (.seq (.ops false f37r5) .ret)))))⟩
def f38r0:List AOp:=[oQ 2 (.alloc 46) 0,
 oQ 3 (.assign (.const (.int .i64 0))) 3,
 oQ 4 (.assign (.const (.int .i64 0))) 23]
def f38r1:List AOp:=[oM 10 0 9,
 oQ 11 (.call { callee:=(.value (.func 26)),args:=#[(oT 10),(.const (.string { data:=#[40,63] }))],argTypes:=#[9,9] }) 4,
 oQ 12 (.unOp .not 4 (oT 11)) 4]
def f38r2:List AOp:=[oQ 13 (.build 46 #[(0,(.const (.int .i64 7)))]) 46,
 oN (.store 46 (oT 2) (oT 13)) 0,
 oQ 3 (.assign (.const (.int .i64 1))) 3,
 oQ 4 (.assign (.const (.int .i64 0))) 23]
def f38r3:List AOp:=[oQ 14 (.build 88 #[(0,(.const (.string { data:=#[40,63,58] }))),(1,(.const (.string { data:=#[40,63,61] }))),(2,(.const (.string { data:=#[40,63,33] }))),(3,(.const (.string { data:=#[40,63,60,61] }))),(4,(.const (.string { data:=#[40,63,60,33] }))),(5,(.const (.string { data:=#[40,63,62] })))]) 88,
 oQ 15 (.move (.const (.int .i64 0))) 3]
def f38r4:List AOp:=[oQ 16 (.binOp .lss 3 (oT 15) (.const (.int .i64 6)) 3) 0]
def f38r5:List AOp:=[oM 17 15 3,
 oQ 18 (.index 88 (oT 14) (oT 15)) 9,
 oA 5 17 3,
 oA 6 18 9]
def f38r6:List AOp:=[oM 19 0 9,
 oM 20 6 9,
 oQ 21 (cF 26 #[(oT 19),(oT 20)] #[9,9]) 4]
def f38r7:List AOp:=[oM 22 5 3,
 oQ 23 (.binOp .add 3 (.const (.int .i64 8)) (oT 22) 3) 3,
 oQ 24 (.build 46 #[(0,(oT 23))]) 46,
 oM 25 6 9,
 oQ 26 (cB .len #[(oT 25)] #[9]) 3,
 oN (.store 46 (oT 2) (oT 24)) 0,
 oA 3 26 3,
 oQ 4 (.assign (.const (.int .i64 0))) 23]
def f38r8:List AOp:=[oQ 27 (.binOp .add 3 (oT 15) (.const (.int .i64 1)) 3) 3,
 oM 15 27 3]
def f38b0:AC:=(.seq (.ops false f38r4) (.seq (.cond (oT 16) .skip (.exit 0)) (.seq (.block 1 (.seq (.ops false f38r5) (.seq (.ops false f38r6) (.cond (oT 21) (.seq (.ops false f38r7) .ret) .skip)))) (.ops false f38r8))))
def f38r9:List AOp:=[oQ 7 (.assign (.const (.string { data:=#[] }))) 9]
def f38r10:List AOp:=[oM 28 0 9,
 oQ 29 (.slice 9 (oT 28) (some (.const (.int .i64 2))) none none) 9,
 oQ 30 (.range 9 (oT 29)) 0]
def f38r11:List AOp:=[oQ 31 (.next (oT 30) true) 0,
 oQ 32 (.extract (oT 31) 0) 4]
def f38r12:List AOp:=[oQ 33 (.extract (oT 31) 2) 21,
 oA 9 33 21]
def f38r13p0:List AOp:=[oM 35 9 21,
 oQ 36 (.binOp .eql 21 (oT 35) (.const (.int .i32 58)) 21) 4,
 oM 37 36 4,
 oG 38 (.move (oT 7)) 9 37 true,
 oG 39 (.binOp .neq 9 (oT 38) (.const (.string { data:=#[] })) 9) 4 37 true,
 oQ 40 (.pick (oT 37) (oT 39) (.const (.bool false))) 4]
def f38r13p1:List AOp:=[oA 34 40 4]
def f38r13:List AOp:=f38r13p0 ++ f38r13p1
def f38r14:List AOp:=[oM 41 7 9,
 oQ 42 (.build 46 #[(0,(.const (.int .i64 14))),(6,(oT 41))]) 46,
 oM 43 7 9,
 oQ 44 (cB .len #[(oT 43)] #[9]) 3,
 oQ 45 (.binOp .add 3 (.const (.int .i64 3)) (oT 44) 3) 3,
 oN (.store 46 (oT 2) (oT 42)) 0,
 oA 3 45 3,
 oQ 4 (.assign (.const (.int .i64 0))) 23]
def f38r15p0:List AOp:=[oM 47 9 21,
 oQ 48 (.binOp .neq 21 (oT 47) (.const (.int .i32 105)) 21) 4,
 oM 49 48 4,
 oG 50 (.move (oT 9)) 21 49 true,
 oG 51 (.binOp .neq 21 (oT 50) (.const (.int .i32 109)) 21) 4 49 true,
 oQ 52 (.pick (oT 49) (oT 51) (.const (.bool false))) 4]
def f38r15p1:List AOp:=[oM 53 52 4,
 oG 54 (.move (oT 9)) 21 53 true,
 oG 55 (.binOp .neq 21 (oT 54) (.const (.int .i32 115)) 21) 4 53 true,
 oQ 56 (.pick (oT 53) (oT 55) (.const (.bool false))) 4]
def f38r15p2:List AOp:=[oM 57 56 4,
 oG 58 (.move (oT 7)) 9 57 false,
 oG 59 (.move (oT 9)) 21 57 false,
 oG 60 (cF 50 #[(oT 58),(oT 59)] #[9,21]) 4 57 false,
 oQ 61 (.pick (oT 57) (.const (.bool true)) (oT 60)) 4]
def f38r15p3:List AOp:=[oA 46 61 4]
def f38r15:List AOp:=f38r15p0 ++ (f38r15p1 ++ (f38r15p2 ++ f38r15p3))
def f38r16:List AOp:=[oQ 62 (.build 46 #[]) 46,
 oN (.store 46 (oT 2) (oT 62)) 0,
 oQ 3 (.assign (.const (.int .i64 0))) 3,
 oQ 4 (.assign (.const (.int .i64 3))) 23]
def f38r17:List AOp:=[oM 63 7 9,
 oM 64 9 21,
 oQ 65 (.convert 21 9 (oT 64)) 9,
 oQ 66 (.binOp .add 9 (oT 63) (oT 65) 9) 9,
 oA 7 66 9]
def f38b1:AC:=(.seq (.ops false f38r11) (.seq (.cond (oT 32) .skip (.exit 2)) (.block 3 (.seq (.ops false f38r12) (.seq (.block 4 (.seq (.ops false f38r13) (.cond (oT 34) (.seq (.ops false f38r14) .ret) (.seq (.ops false f38r15) (.cond (oT 46) (.seq (.ops false f38r16) .ret) .skip))))) (.ops false f38r17))))))
def f38r18:List AOp:=[oQ 67 (.build 46 #[]) 46,
 oN (.store 46 (oT 2) (oT 67)) 0,
 oQ 3 (.assign (.const (.int .i64 0))) 3,
 oQ 4 (.assign (.const (.int .i64 3))) 23]
def f38:AFun:=⟨68,[(.cell 2 46),(.tmp 3),(.tmp 4)],(.seq (.ops false f38r0) (.seq (.seq (.ops false f38r1) (.cond (.tmp 12) (.seq (.ops false f38r2) .ret) .skip)) (.seq (.seq (.ops false f38r3) (.block 0 (.loop [0,2,14,15] f38b0))) (.seq (.ops false f38r9) (.seq (.seq (.ops false f38r10) (.block 2 (.loop [2,7,30] f38b1))) (.seq (.ops false f38r18) .ret))))))⟩
def f39r0:List AOp:=[oQ 2 (.alloc 46) 0,
 oQ 3 (.assign (.const (.int .i64 0))) 3,
 oQ 4 (.assign (.const (.int .i64 0))) 23]
def f39r1:List AOp:=[oQ 7 (.build 46 #[(0,(.const (.int .i64 16))),(3,(.const (.int .i64 (-1))))]) 46,
 oQ 5 (.alloc 46) 0,
 oN (.store 46 (oT 5) (oT 7)) 0,
 oQ 6 (.assign (.const (.int .i64 1))) 3]
def f39r2:List AOp:=[oM 8 0 9,
 oQ 9 (.index 9 (oT 8) (.const (.int .i64 0))) 5]
def f39r3:List AOp:=[oQ 11 (.binOp .eql 5 (oT 9) (.const (.int .u8 43)) 5) 4,
 oA 10 11 4]
def f39r4:List AOp:=[oQ 12 (.fieldAddr 46 (oT 5) 2) 0,
 oN (.store 3 (oT 12) (.const (.int .i64 1))) 0]
def f39r5:List AOp:=[oQ 14 (.binOp .eql 5 (oT 9) (.const (.int .u8 63)) 5) 4,
 oA 13 14 4]
def f39r6:List AOp:=[oQ 15 (.fieldAddr 46 (oT 5) 3) 0,
 oN (.store 3 (oT 15) (.const (.int .i64 1))) 0]
def f39r7:List AOp:=[oQ 17 (.binOp .eql 5 (oT 9) (.const (.int .u8 123)) 5) 4,
 oA 16 17 4]
def f39r8:List AOp:=[oM 19 0 9,
 oQ 20 (cF 51 #[(oT 19)] #[9]) 90,
 oM 18 20 90,
 oQ 21 (.extract (oT 18) 0) 3,
 oQ 22 (.extract (oT 18) 1) 3,
 oQ 23 (.extract (oT 18) 2) 3,
 oQ 24 (.fieldAddr 46 (oT 5) 2) 0,
 oN (.store 3 (oT 24) (oT 21)) 0,
 oQ 25 (.fieldAddr 46 (oT 5) 3) 0,
 oN (.store 3 (oT 25) (oT 22)) 0,
 oA 6 23 3]
def f39r9:List AOp:=[oM 27 6 3,
 oQ 28 (.binOp .eql 3 (oT 27) (.const (.int .i64 0)) 3) 4,
 oA 26 28 4]
def f39r10:List AOp:=[oQ 29 (.build 46 #[]) 46,
 oN (.store 46 (oT 2) (oT 29)) 0,
 oQ 3 (.assign (.const (.int .i64 0))) 3,
 oQ 4 (.assign (.const (.int .i64 3))) 23]
def f39r11:List AOp:=[oQ 31 (.fieldAddr 46 (oT 5) 2) 0,
 oQ 32 (.load 3 (oT 31)) 3,
 oQ 33 (.fieldAddr 46 (oT 5) 3) 0,
 oQ 34 (.load 3 (oT 33)) 3,
 oQ 35 (cB .max #[(oT 32),(oT 34)] #[3,3]) 3,
 oQ 36 (.binOp .gtr 3 (oT 35) (.const (.int .i64 100)) 3) 4,
 oA 30 36 4]
def f39r12:List AOp:=[oQ 37 (.build 46 #[]) 46,
 oN (.store 46 (oT 2) (oT 37)) 0,
 oQ 3 (.assign (.const (.int .i64 0))) 3,
 oQ 4 (.assign (.const (.int .i64 4))) 23]
def f39r13p0:List AOp:=[oQ 39 (.fieldAddr 46 (oT 5) 3) 0,
 oQ 40 (.load 3 (oT 39)) 3,
 oQ 41 (.binOp .neq 3 (oT 40) (.const (.int .i64 (-1))) 3) 4,
 oM 42 41 4,
 oG 43 (.fieldAddr 46 (oT 5) 3) 0 42 true,
 oG 44 (.load 3 (oT 43)) 3 42 true,
 oG 45 (.fieldAddr 46 (oT 5) 2) 0 42 true,
 oG 46 (.load 3 (oT 45)) 3 42 true,
 oG 47 (.binOp .lss 3 (oT 44) (oT 46) 3) 4 42 true,
 oQ 48 (.pick (oT 42) (oT 47) (.const (.bool false))) 4]
def f39r13p1:List AOp:=[oA 38 48 4]
def f39r13:List AOp:=f39r13p0 ++ f39r13p1
def f39r14:List AOp:=[oQ 49 (.build 46 #[]) 46,
 oN (.store 46 (oT 2) (oT 49)) 0,
 oQ 3 (.assign (.const (.int .i64 0))) 3,
 oQ 4 (.assign (.const (.int .i64 3))) 23]
def f39r15:List AOp:=[oM 51 0 9,
 oM 52 6 3,
 oQ 53 (.slice 9 (oT 51) (some (oT 52)) none none) 9,
 oQ 54 (.call { callee:=(.value (.func 26)),args:=#[(oT 53),(.const (.string { data:=#[63] }))],argTypes:=#[9,9] }) 4,
 oA 50 54 4]
def f39r16:List AOp:=[oQ 55 (.fieldAddr 46 (oT 5) 4) 0,
 oN (.store 3 (oT 55) (.const (.int .i64 1))) 0]
def f39r17:List AOp:=[oM 56 6 3,
 oQ 57 (.binOp .add 3 (oT 56) (.const (.int .i64 1)) 3) 3,
 oA 6 57 3]
def f39r18:List AOp:=[oM 59 0 9,
 oM 60 6 3,
 oQ 61 (.slice 9 (oT 59) (some (oT 60)) none none) 9,
 oQ 62 (.call { callee:=(.value (.func 26)),args:=#[(oT 61),(.const (.string { data:=#[43] }))],argTypes:=#[9,9] }) 4,
 oA 58 62 4]
def f39r19:List AOp:=[oQ 63 (.fieldAddr 46 (oT 5) 4) 0,
 oN (.store 3 (oT 63) (.const (.int .i64 2))) 0]
def f39r20:List AOp:=[oM 64 6 3,
 oQ 65 (.binOp .add 3 (oT 64) (.const (.int .i64 1)) 3) 3,
 oA 6 65 3]
def f39r21:List AOp:=[oQ 66 (.load 46 (oT 5)) 46,
 oM 67 6 3,
 oN (.store 46 (oT 2) (oT 66)) 0,
 oA 3 67 3,
 oQ 4 (.assign (.const (.int .i64 0))) 23]
def f39:AFun:=⟨68,[(.cell 2 46),(.tmp 3),(.tmp 4)],(.seq (.ops false f39r0) (.seq (.ops false f39r1) (.seq (.seq (.ops false f39r2) (.block 0 (.seq (.ops false f39r3) (.cond (.tmp 10) (.ops false f39r4) (.seq (.ops false f39r5) (.cond (.tmp 13) (.ops false f39r6) (.seq (.ops false f39r7) (.cond (.tmp 16) (.seq (.ops false f39r8) (.block 1 (.seq (.ops false f39r9) (.cond (.tmp 26) (.seq (.ops false f39r10) .ret) (.seq (.ops false f39r11) (.cond (.tmp 30) (.seq (.ops false f39r12) .ret) (.seq (.ops false f39r13) (.cond (.tmp 38) (.seq (.ops false f39r14) .ret) .skip)))))))) .skip)))))))) (.seq (.block 2 (.seq (.ops false f39r15) (.cond (.tmp 50) (.seq (.ops false f39r16) (.ops false f39r17)) (.seq (.ops false f39r18) (.cond (.tmp 58) (.seq (.ops false f39r19) (.ops false f39r20)) .skip))))) (.seq (.ops false f39r21) .ret)))))⟩
def f40r0:List AOp:=[oQ 2 (.alloc 46) 0,
 oQ 3 (.assign (.const (.int .i64 0))) 3,
 oQ 4 (.assign (.const (.int .i64 0))) 23]
def f40r1:List AOp:=[oM 8 0 9,
 oQ 9 (.slice 9 (oT 8) (some (.const (.int .i64 1))) none none) 9,
 oA 5 9 9]
def f40r2:List AOp:=[oM 11 5 9,
 oQ 12 (.call { callee:=(.value (.func 26)),args:=#[(oT 11),(.const (.string { data:=#[98] }))],argTypes:=#[9,9] }) 4,
 oA 10 12 4]
def f40r3:List AOp:=[oQ 13 (.build 46 #[(0,(.const (.int .i64 4)))]) 46,
 oN (.store 46 (oT 2) (oT 13)) 0,
 oQ 3 (.assign (.const (.int .i64 2))) 3,
 oQ 4 (.assign (.const (.int .i64 0))) 23]
def f40r4:List AOp:=[oM 15 5 9,
 oQ 16 (.call { callee:=(.value (.func 26)),args:=#[(oT 15),(.const (.string { data:=#[66] }))],argTypes:=#[9,9] }) 4,
 oA 14 16 4]
def f40r5:List AOp:=[oQ 17 (.build 46 #[(0,(.const (.int .i64 5)))]) 46,
 oN (.store 46 (oT 2) (oT 17)) 0,
 oQ 3 (.assign (.const (.int .i64 2))) 3,
 oQ 4 (.assign (.const (.int .i64 0))) 23]
def f40r6p0:List AOp:=[oM 19 5 9,
 oQ 20 (.binOp .neq 9 (oT 19) (.const (.string { data:=#[] })) 9) 4,
 oM 21 20 4,
 oG 22 (.move (oT 5)) 9 21 true,
 oG 23 (.index 9 (oT 22) (.const (.int .i64 0))) 5 21 true,
 oG 24 (cF 52 #[(oT 23),(.const (.int .i64 10))] #[5,3]) 3 21 true,
 oG 25 (.binOp .gtr 3 (oT 24) (.const (.int .i64 0)) 3) 4 21 true,
 oQ 26 (.pick (oT 21) (oT 25) (.const (.bool false))) 4]
def f40r6p1:List AOp:=[oA 18 26 4]
def f40r6:List AOp:=f40r6p0 ++ f40r6p1
def f40r7:List AOp:=[oM 27 5 9,
 oQ 28 (.index 9 (oT 27) (.const (.int .i64 0))) 5,
 oQ 29 (cF 52 #[(oT 28),(.const (.int .i64 10))] #[5,3]) 3,
 oQ 30 (.build 46 #[(0,(.const (.int .i64 17))),(5,(oT 29))]) 46,
 oN (.store 46 (oT 2) (oT 30)) 0,
 oQ 3 (.assign (.const (.int .i64 2))) 3,
 oQ 4 (.assign (.const (.int .i64 0))) 23]
def f40r8:List AOp:=[oM 32 5 9,
 oQ 33 (cF 53 #[(oT 32)] #[9]) 63,
 oM 31 33 63,
 oQ 34 (.extract (oT 31) 0) 36,
 oQ 35 (.extract (oT 31) 1) 3,
 oQ 6 (.alloc 36) 0,
 oN (.store 36 (oT 6) (oT 34)) 0,
 oA 7 35 3]
def f40r9:List AOp:=[oM 36 7 3,
 oQ 37 (.binOp .eql 3 (oT 36) (.const (.int .i64 0)) 3) 4]
def f40r10:List AOp:=[oQ 38 (.build 46 #[]) 46,
 oN (.store 46 (oT 2) (oT 38)) 0,
 oQ 3 (.assign (.const (.int .i64 0))) 3,
 oQ 4 (.assign (.const (.int .i64 3))) 23]
def f40r11:List AOp:=[oQ 39 (.load 36 (oT 6)) 36,
 oQ 40 (.build 46 #[(1,(oT 39))]) 46,
 oM 41 7 3,
 oQ 42 (.binOp .add 3 (oT 41) (.const (.int .i64 1)) 3) 3,
 oN (.store 46 (oT 2) (oT 40)) 0,
 oA 3 42 3,
 oQ 4 (.assign (.const (.int .i64 0))) 23]
def f40:AFun:=⟨43,[(.cell 2 46),(.tmp 3),(.tmp 4)],(.seq (.ops false f40r0) (.seq (.ops false f40r1) (.seq (.block 0 (.seq (.ops false f40r2) (.cond (.tmp 10) (.seq (.ops false f40r3) .ret) (.seq (.ops false f40r4) (.cond (.tmp 14) (.seq (.ops false f40r5) .ret) (.seq (.ops false f40r6) (.cond (.tmp 18) (.seq (.ops false f40r7) .ret) .skip))))))) (.seq (.ops false f40r8) (.seq (.seq (.ops false f40r9) (.cond (.tmp 37) (.seq (.ops false f40r10) .ret) .skip)) (.seq (.ops false f40r11) .ret))))))⟩
def f41r0:List AOp:=[oQ 4 (.alloc 59) 0,
 oQ 5 (.assign (.const (.int .i64 0))) 3,
 oQ 6 (.assign (.const (.int .i64 0))) 23]
def f41r1:List AOp:=[oQ 7 (.assign (.const (.string { data:=#[] }))) 9]
def f41r2:List AOp:=[oM 11 1 3,
 oQ 12 (.binOp .add 3 (oT 11) (.const (.int .i64 2)) 3) 3,
 oA 8 12 3]
def f41r3:List AOp:=[oM 13 8 3,
 oM 14 0 9,
 oQ 15 (cB .len #[(oT 14)] #[9]) 3,
 oQ 16 (.binOp .lss 3 (oT 13) (oT 15) 3) 4]
def f41r5:List AOp:=[oM 19 0 9,
 oM 20 8 3,
 oQ 21 (.index 9 (oT 19) (oT 20)) 5,
 oA 9 21 5]
def f41r6:List AOp:=[oM 22 9 5,
 oQ 23 (.binOp .eql 5 (oT 22) (.const (.int .u8 58)) 5) 4,
 oM 24 23 4,
 oG 25 (.move (oT 7)) 9 24 true,
 oG 26 (.binOp .neq 9 (oT 25) (.const (.string { data:=#[] })) 9) 4 24 true,
 oQ 27 (.pick (oT 24) (oT 26) (.const (.bool false))) 4]
def f41r7:List AOp:=[oM 28 7 9,
 oQ 29 (.build 59 #[(0,(.const (.int .i64 14))),(6,(oT 28))]) 59,
 oM 30 8 3,
 oQ 31 (.binOp .add 3 (oT 30) (.const (.int .i64 1)) 3) 3,
 oN (.store 59 (oT 4) (oT 29)) 0,
 oA 5 31 3,
 oQ 6 (.assign (.const (.int .i64 0))) 23]
def f41r8p0:List AOp:=[oM 32 9 5,
 oQ 33 (.binOp .neq 5 (oT 32) (.const (.int .u8 105)) 5) 4,
 oM 34 33 4,
 oG 35 (.move (oT 9)) 5 34 true,
 oG 36 (.binOp .neq 5 (oT 35) (.const (.int .u8 109)) 5) 4 34 true,
 oQ 37 (.pick (oT 34) (oT 36) (.const (.bool false))) 4]
def f41r8p1:List AOp:=[oM 38 37 4,
 oG 39 (.move (oT 9)) 5 38 true,
 oG 40 (.binOp .neq 5 (oT 39) (.const (.int .u8 115)) 5) 4 38 true,
 oQ 41 (.pick (oT 38) (oT 40) (.const (.bool false))) 4]
def f41r8:List AOp:=f41r8p0 ++ f41r8p1
def f41r9:List AOp:=[oQ 42 (.build 59 #[]) 59,
 oN (.store 59 (oT 4) (oT 42)) 0,
 oQ 5 (.assign (.const (.int .i64 0))) 3,
 oQ 6 (.assign (.const (.int .i64 3))) 23]
def f41r10:List AOp:=[oQ 10 (.assign (.const (.int .i64 0))) 3]
def f41r11:List AOp:=[oM 43 10 3,
 oM 44 7 9,
 oQ 45 (cB .len #[(oT 44)] #[9]) 3,
 oQ 46 (.binOp .lss 3 (oT 43) (oT 45) 3) 4]
def f41r13:List AOp:=[oM 49 7 9,
 oM 50 10 3,
 oQ 51 (.index 9 (oT 49) (oT 50)) 5,
 oM 52 9 5,
 oQ 53 (.binOp .eql 5 (oT 51) (oT 52) 5) 4]
def f41r14:List AOp:=[oQ 54 (.build 59 #[]) 59,
 oN (.store 59 (oT 4) (oT 54)) 0,
 oQ 5 (.assign (.const (.int .i64 0))) 3,
 oQ 6 (.assign (.const (.int .i64 3))) 23]
def f41r12:List AOp:=[oM 47 10 3,
 oQ 48 (.binOp .add 3 (oT 47) (.const (.int .i64 1)) 3) 3,
 oA 10 48 3]
def f41b0:AC:=(.seq (.seq (.ops false f41r11) (.cond (oT 46) .skip (.exit 2))) (.seq (.block 3 (.seq (.ops false f41r13) (.cond (oT 53) (.seq (.ops false f41r14) .ret) .skip))) (.ops false f41r12)))
def f41r15:List AOp:=[oM 55 7 9,
 oM 56 9 5,
 oQ 57 (.buildSlice 43 1 #[(0,(oT 56))]) 43,
 oQ 58 (.convert 43 9 (oT 57)) 9,
 oQ 59 (.binOp .add 9 (oT 55) (oT 58) 9) 9,
 oA 7 59 9]
def f41r4:List AOp:=[oM 17 8 3,
 oQ 18 (.binOp .add 3 (oT 17) (.const (.int .i64 1)) 3) 3,
 oA 8 18 3]
def f41b1:AC:=(.seq (.seq (.ops false f41r3) (.cond (oT 16) .skip (.exit 0))) (.seq (.block 1 (.seq (.ops false f41r5) (.seq (.seq (.ops false f41r6) (.cond (oT 27) (.seq (.ops false f41r7) .ret) .skip)) (.seq (.seq (.ops false f41r8) (.cond (oT 41) (.seq (.ops false f41r9) .ret) .skip)) (.seq (.seq (.ops false f41r10) (.block 2 (.loop [0,4,7,8,9,10] f41b0))) (.ops false f41r15)))))) (.ops false f41r4)))
def f41r16:List AOp:=[oQ 60 (.build 59 #[]) 59,
 oN (.store 59 (oT 4) (oT 60)) 0,
 oQ 5 (.assign (.const (.int .i64 0))) 3,
 oQ 6 (.assign (.const (.int .i64 3))) 23]
def f41:AFun:=⟨61,[(.cell 4 59),(.tmp 5),(.tmp 6)],(.seq (.ops false f41r0) (.seq (.ops false f41r1) (.seq (.seq (.ops false f41r2) (.block 0 (.loop [0,4,7,8] f41b1))) (.seq (.ops false f41r16) .ret))))⟩
def f42r0:List AOp:=[oQ 4 (.alloc 59) 0,
 oQ 5 (.assign (.const (.int .i64 0))) 3,
 oQ 6 (.assign (.const (.int .i64 0))) 23]
def f42r1:List AOp:=[oQ 12 (.build 59 #[(0,(.const (.int .i64 16))),(3,(.const (.int .i64 (-1))))]) 59,
 oM 13 1 3,
 oQ 14 (.binOp .add 3 (oT 13) (.const (.int .i64 1)) 3) 3,
 oQ 7 (.alloc 59) 0,
 oN (.store 59 (oT 7) (oT 12)) 0,
 oA 8 14 3]
def f42r2:List AOp:=[oM 15 0 9,
 oM 16 1 3,
 oQ 17 (.index 9 (oT 15) (oT 16)) 5,
 oQ 18 (.binOp .eql 5 (oT 17) (.const (.int .u8 43)) 5) 4]
def f42r3:List AOp:=[oQ 19 (.fieldAddr 59 (oT 7) 2) 0,
 oN (.store 3 (oT 19) (.const (.int .i64 1))) 0]
def f42r4:List AOp:=[oM 20 0 9,
 oM 21 1 3,
 oQ 22 (.index 9 (oT 20) (oT 21)) 5,
 oQ 23 (.binOp .eql 5 (oT 22) (.const (.int .u8 63)) 5) 4]
def f42r5:List AOp:=[oQ 24 (.fieldAddr 59 (oT 7) 3) 0,
 oN (.store 3 (oT 24) (.const (.int .i64 1))) 0]
def f42r6:List AOp:=[oM 25 0 9,
 oM 26 1 3,
 oQ 27 (.index 9 (oT 25) (oT 26)) 5,
 oQ 28 (.binOp .eql 5 (oT 27) (.const (.int .u8 123)) 5) 4]
def f42r7:List AOp:=[oM 30 0 9,
 oM 31 1 3,
 oQ 32 (cF 54 #[(oT 30),(oT 31)] #[9,3]) 60,
 oM 29 32 60,
 oQ 33 (.extract (oT 29) 0) 59,
 oQ 34 (.extract (oT 29) 1) 3,
 oQ 35 (.extract (oT 29) 2) 23,
 oQ 9 (.alloc 59) 0,
 oN (.store 59 (oT 9) (oT 33)) 0,
 oA 10 34 3,
 oA 11 35 23]
def f42r8:List AOp:=[oM 36 11 23,
 oQ 37 (.binOp .neq 23 (oT 36) (.const (.int .i64 0)) 23) 4]
def f42r9:List AOp:=[oQ 38 (.build 59 #[]) 59,
 oM 39 11 23,
 oN (.store 59 (oT 4) (oT 38)) 0,
 oQ 5 (.assign (.const (.int .i64 0))) 3,
 oA 6 39 23]
def f42r10:List AOp:=[oQ 40 (.load 59 (oT 9)) 59,
 oN (.store 59 (oT 7) (oT 40)) 0]
def f42r11:List AOp:=[oM 41 10 3,
 oA 8 41 3]
def f42r12:List AOp:=[oM 42 0 9,
 oM 43 8 3,
 oQ 44 (.call { callee:=(.value (.func 28)),args:=#[(oT 42),(oT 43),(.const (.string { data:=#[63] }))],argTypes:=#[9,3,9] }) 4]
def f42r13:List AOp:=[oQ 45 (.fieldAddr 59 (oT 7) 4) 0,
 oN (.store 3 (oT 45) (.const (.int .i64 1))) 0]
def f42r14:List AOp:=[oM 46 8 3,
 oQ 47 (.binOp .add 3 (oT 46) (.const (.int .i64 1)) 3) 3,
 oA 8 47 3]
def f42r15:List AOp:=[oM 48 0 9,
 oM 49 8 3,
 oQ 50 (.call { callee:=(.value (.func 28)),args:=#[(oT 48),(oT 49),(.const (.string { data:=#[43] }))],argTypes:=#[9,3,9] }) 4]
def f42r16:List AOp:=[oQ 51 (.fieldAddr 59 (oT 7) 4) 0,
 oN (.store 3 (oT 51) (.const (.int .i64 2))) 0]
def f42r17:List AOp:=[oM 52 8 3,
 oQ 53 (.binOp .add 3 (oT 52) (.const (.int .i64 1)) 3) 3,
 oA 8 53 3]
def f42r18:List AOp:=[oQ 54 (.load 59 (oT 7)) 59,
 oM 55 8 3,
 oN (.store 59 (oT 4) (oT 54)) 0,
 oA 5 55 3,
 oQ 6 (.assign (.const (.int .i64 0))) 23]
def f42:AFun:=⟨56,[(.cell 4 59),(.tmp 5),(.tmp 6)],(.seq (.ops false f42r0) (.seq (.ops false f42r1) (.seq (.seq (.ops false f42r2) (.cond (.tmp 18) (.ops false f42r3) .skip)) (.seq (.seq (.ops false f42r4) (.cond (.tmp 23) (.ops false f42r5) .skip)) (.seq (.seq (.ops false f42r6) (.cond (.tmp 28) (.seq (.ops false f42r7) (.seq (.seq (.ops false f42r8) (.cond (.tmp 37) (.seq (.ops false f42r9) .ret) .skip)) (.seq (.ops false f42r10) (.ops false f42r11)))) .skip)) (.seq (.seq (.ops false f42r12) (.cond (.tmp 44) (.seq (.ops false f42r13) (.ops false f42r14)) (.seq (.ops false f42r15) (.cond (.tmp 50) (.seq (.ops false f42r16) (.ops false f42r17)) .skip)))) (.seq (.ops false f42r18) .ret)))))))⟩
def f43r0:List AOp:=[oQ 2 (.alloc 68) 0]
def f43r1:List AOp:=[oM 3 0 5,
 oM 4 0 5,
 oQ 5 (cF 32 #[(oT 3),(oT 4)] #[5,5]) 68,
 oN (.store 68 (oT 2) (oT 5)) 0]
def f43:AFun:=⟨6,[(.cell 2 68)],(.seq (.ops false f43r0) (.seq (.ops false f43r1) .ret))⟩
def f44r0:List AOp:=[oQ 4 (.alloc 68) 0,
 oQ 5 (.assign (.const (.int .i64 0))) 3]
def f44r1:List AOp:=[oQ 13 (.build 68 #[]) 68,
 oQ 6 (.alloc 68) 0,
 oN (.store 68 (oT 6) (oT 13)) 0]
def f44r2:List AOp:=[oM 14 1 3,
 oQ 15 (.binOp .add 3 (oT 14) (.const (.int .i64 1)) 3) 3,
 oM 16 0 9,
 oQ 17 (cB .len #[(oT 16)] #[9]) 3,
 oQ 18 (.binOp .geq 3 (oT 15) (oT 17) 3) 4]
def f44r3:List AOp:=[oQ 19 (.load 68 (oT 6)) 68,
 oN (.store 68 (oT 4) (oT 19)) 0,
 oQ 5 (.assign (.const (.int .i64 0))) 3]
def f44r4:List AOp:=[oM 20 0 9,
 oM 21 1 3,
 oQ 22 (.binOp .add 3 (oT 21) (.const (.int .i64 1)) 3) 3,
 oQ 23 (.index 9 (oT 20) (oT 22)) 5,
 oM 24 1 3,
 oQ 25 (.binOp .add 3 (oT 24) (.const (.int .i64 2)) 3) 3,
 oA 7 23 5,
 oA 8 25 3]
def f44r5:List AOp:=[oQ 26 (cF 32 #[(.const (.int .u8 48)),(.const (.int .u8 57))] #[5,5]) 68,
 oQ 27 (cF 32 #[(.const (.int .u8 48)),(.const (.int .u8 57))] #[5,5]) 68,
 oQ 28 (cF 34 #[(oT 27)] #[68]) 68,
 oQ 29 (cF 55 #[] #[]) 68,
 oQ 30 (cF 55 #[] #[]) 68,
 oQ 31 (cF 34 #[(oT 30)] #[68]) 68,
 oQ 32 (cF 56 #[] #[]) 68,
 oQ 33 (cF 56 #[] #[]) 68,
 oQ 34 (cF 34 #[(oT 33)] #[68]) 68,
 oQ 35 (cF 43 #[(.const (.int .u8 10))] #[5]) 68,
 oQ 36 (cF 43 #[(.const (.int .u8 9))] #[5]) 68,
 oQ 37 (cF 43 #[(.const (.int .u8 13))] #[5]) 68,
 oQ 38 (cF 43 #[(.const (.int .u8 12))] #[5]) 68,
 oQ 39 (cF 43 #[(.const (.int .u8 11))] #[5]) 68,
 oQ 40 (.buildSlice 94 11 #[(0,(oT 26)),(1,(oT 28)),(2,(oT 29)),(3,(oT 31)),(4,(oT 32)),(5,(oT 34)),(6,(oT 35)),(7,(oT 36)),(8,(oT 37)),(9,(oT 38)),(10,(oT 39))]) 94,
 oQ 9 (.assign (.const (.string { data:=#[100,68,119,87,115,83,110,116,114,102,118] }))) 9,
 oA 10 40 94]
def f44r6:List AOp:=[oQ 11 (.assign (.const (.int .i64 0))) 3]
def f44r7:List AOp:=[oM 41 11 3,
 oM 42 9 9,
 oQ 43 (cB .len #[(oT 42)] #[9]) 3,
 oQ 44 (.binOp .lss 3 (oT 41) (oT 43) 3) 4]
def f44r9:List AOp:=[oM 47 9 9,
 oM 48 11 3,
 oQ 49 (.index 9 (oT 47) (oT 48)) 5,
 oM 50 7 5,
 oQ 51 (.binOp .eql 5 (oT 49) (oT 50) 5) 4]
def f44r10:List AOp:=[oM 52 10 94,
 oM 53 11 3,
 oQ 54 (.indexAddr 94 (oT 52) (oT 53)) 0,
 oQ 55 (.load 68 (oT 54)) 68,
 oM 56 8 3,
 oN (.store 68 (oT 4) (oT 55)) 0,
 oA 5 56 3]
def f44r8:List AOp:=[oM 45 11 3,
 oQ 46 (.binOp .add 3 (oT 45) (.const (.int .i64 1)) 3) 3,
 oA 11 46 3]
def f44b0:AC:=(.seq (.seq (.ops false f44r7) (.cond (oT 44) .skip (.exit 0))) (.seq (.block 1 (.seq (.ops false f44r9) (.cond (oT 51) (.seq (.ops false f44r10) .ret) .skip))) (.ops false f44r8)))
def f44r11p0:List AOp:=[oM 57 7 5,
 oQ 58 (.binOp .eql 5 (oT 57) (.const (.int .u8 120)) 5) 4,
 oM 59 58 4,
 oG 60 (.move (oT 1)) 3 59 true,
 oG 61 (.binOp .add 3 (oT 60) (.const (.int .i64 3)) 3) 3 59 true,
 oG 62 (.move (oT 0)) 9 59 true,
 oG 63 (cB .len #[(oT 62)] #[9]) 3 59 true,
 oG 64 (.binOp .lss 3 (oT 61) (oT 63) 3) 4 59 true,
 oQ 65 (.pick (oT 59) (oT 64) (.const (.bool false))) 4]
def f44r11p1:List AOp:=[oM 66 65 4,
 oG 67 (.move (oT 0)) 9 66 true,
 oG 68 (.move (oT 1)) 3 66 true,
 oG 69 (.binOp .add 3 (oT 68) (.const (.int .i64 2)) 3) 3 66 true,
 oG 70 (.index 9 (oT 67) (oT 69)) 5 66 true,
 oG 71 (cF 57 #[(oT 70)] #[5]) 3 66 true,
 oG 72 (.binOp .geq 3 (oT 71) (.const (.int .i64 0)) 3) 4 66 true,
 oQ 73 (.pick (oT 66) (oT 72) (.const (.bool false))) 4]
def f44r11p2:List AOp:=[oM 74 73 4,
 oG 75 (.move (oT 0)) 9 74 true,
 oG 76 (.move (oT 1)) 3 74 true,
 oG 77 (.binOp .add 3 (oT 76) (.const (.int .i64 3)) 3) 3 74 true,
 oG 78 (.index 9 (oT 75) (oT 77)) 5 74 true,
 oG 79 (cF 57 #[(oT 78)] #[5]) 3 74 true,
 oG 80 (.binOp .geq 3 (oT 79) (.const (.int .i64 0)) 3) 4 74 true,
 oQ 81 (.pick (oT 74) (oT 80) (.const (.bool false))) 4]
def f44r11:List AOp:=f44r11p0 ++ (f44r11p1 ++ f44r11p2)
def f44r12:List AOp:=[oM 82 0 9,
 oM 83 1 3,
 oQ 84 (.binOp .add 3 (oT 83) (.const (.int .i64 2)) 3) 3,
 oQ 85 (.index 9 (oT 82) (oT 84)) 5,
 oQ 86 (cF 57 #[(oT 85)] #[5]) 3,
 oQ 87 (.binOp .mul 3 (.const (.int .i64 16)) (oT 86) 3) 3,
 oM 88 0 9,
 oM 89 1 3,
 oQ 90 (.binOp .add 3 (oT 89) (.const (.int .i64 3)) 3) 3,
 oQ 91 (.index 9 (oT 88) (oT 90)) 5,
 oQ 92 (cF 57 #[(oT 91)] #[5]) 3,
 oQ 93 (.binOp .add 3 (oT 87) (oT 92) 3) 3,
 oQ 94 (.convert 3 5 (oT 93)) 5,
 oQ 95 (cF 43 #[(oT 94)] #[5]) 68,
 oM 96 1 3,
 oQ 97 (.binOp .add 3 (oT 96) (.const (.int .i64 4)) 3) 3,
 oN (.store 68 (oT 4) (oT 95)) 0,
 oA 5 97 3]
def f44r13:List AOp:=[oQ 98 (cF 55 #[] #[]) 68,
 oQ 12 (.alloc 68) 0,
 oN (.store 68 (oT 12) (oT 98)) 0]
def f44r14:List AOp:=[oM 99 7 5,
 oQ 100 (.binOp .eql 5 (oT 99) (.const (.int .u8 95)) 5) 4,
 oM 101 100 4,
 oG 102 (.move (oT 7)) 5 101 false,
 oG 103 (.convert 5 3 (oT 102)) 3 101 false,
 oG 104 (.fieldAddr 68 (oT 12) 0) 0 101 false,
 oG 105 (.indexAddr 66 (oT 104) (oT 103)) 0 101 false,
 oG 106 (.load 4 (oT 105)) 4 101 false,
 oG 107 (.unOp .not 4 (oT 106)) 4 101 false,
 oQ 108 (.pick (oT 101) (.const (.bool true)) (oT 107)) 4]
def f44r15:List AOp:=[oM 109 7 5,
 oQ 110 (cF 43 #[(oT 109)] #[5]) 68,
 oM 111 8 3,
 oN (.store 68 (oT 4) (oT 110)) 0,
 oA 5 111 3]
def f44r16:List AOp:=[oQ 112 (.load 68 (oT 6)) 68,
 oN (.store 68 (oT 4) (oT 112)) 0,
 oQ 5 (.assign (.const (.int .i64 0))) 3]
def f44:AFun:=⟨113,[(.cell 4 68),(.tmp 5)],(.seq (.ops false f44r0) (.seq (.ops false f44r1) (.seq (.seq (.ops false f44r2) (.cond (.tmp 18) (.seq (.ops false f44r3) .ret) .skip)) (.seq (.ops false f44r4) (.seq (.ops false f44r5) (.seq (.seq (.ops false f44r6) (.block 0 (.loop [0,1,4,6,7,8,9,10,11] f44b0))) (.seq (.seq (.ops false f44r11) (.cond (.tmp 81) (.seq (.ops false f44r12) .ret) .skip)) (.seq (.ops false f44r13) (.seq (.seq (.ops false f44r14) (.cond (.tmp 108) (.seq (.ops false f44r15) .ret) .skip)) (.seq (.ops false f44r16) .ret))))))))))⟩
def f45r0:List AOp:=[oQ 4 (.assign (.const (.bool false))) 4]
def f45r1p0:List AOp:=[oM 5 0 9,
 oQ 6 (cB .len #[(oT 5)] #[9]) 3,
 oM 7 1 9,
 oQ 8 (cB .len #[(oT 7)] #[9]) 3,
 oQ 9 (.binOp .geq 3 (oT 6) (oT 8) 3) 4,
 oM 10 9 4,
 oG 11 (.move (oT 0)) 9 10 true,
 oG 12 (.move (oT 1)) 9 10 true,
 oG 13 (cB .len #[(oT 12)] #[9]) 3 10 true,
 oG 14 (.slice 9 (oT 11) none (some (oT 13)) none) 9 10 true,
 oG 15 (.move (oT 1)) 9 10 true,
 oG 16 (.binOp .eql 9 (oT 14) (oT 15) 9) 4 10 true,
 oQ 17 (.pick (oT 10) (oT 16) (.const (.bool false))) 4]
def f45r1p1:List AOp:=[oA 4 17 4]
def f45r1:List AOp:=f45r1p0 ++ f45r1p1
def f45:AFun:=⟨18,[(.tmp 4)],(.seq (.ops false f45r0) (.seq (.ops false f45r1) .ret))⟩
def f46r0:List AOp:=[oQ 2 (.alloc 36) 0,
 oQ 3 (.assign (.const (.int .i64 0))) 3]
def f46r1p0:List AOp:=[oM 7 0 9,
 oQ 8 (.binOp .eql 9 (oT 7) (.const (.string { data:=#[] })) 9) 4,
 oM 9 8 4,
 oG 10 (.move (oT 0)) 9 9 false,
 oG 11 (.index 9 (oT 10) (.const (.int .i64 0))) 5 9 false,
 oG 12 (.call { callee:=(.value (.func 49)),args:=#[(.const (.string { data:=#[91,93,45] })),(oT 11)],argTypes:=#[9,5] }) 3 9 false,
 oG 13 (.binOp .geq 3 (oT 12) (.const (.int .i64 0)) 3) 4 9 false,
 oQ 14 (.pick (oT 9) (.const (.bool true)) (oT 13)) 4]
def f46r1p1:List AOp:=[oA 6 14 4]
def f46r1:List AOp:=f46r1p0 ++ f46r1p1
def f46r2:List AOp:=[oQ 15 (.build 36 #[]) 36,
 oN (.store 36 (oT 2) (oT 15)) 0,
 oQ 3 (.assign (.const (.int .i64 0))) 3]
def f46r3:List AOp:=[oM 17 0 9,
 oQ 18 (.index 9 (oT 17) (.const (.int .i64 0))) 5,
 oQ 19 (.binOp .eql 5 (oT 18) (.const (.int .u8 92)) 5) 4,
 oA 16 19 4]
def f46r4:List AOp:=[oM 21 0 9,
 oQ 22 (.slice 9 (oT 21) (some (.const (.int .i64 1))) none none) 9,
 oQ 23 (cF 53 #[(oT 22)] #[9]) 63,
 oM 20 23 63,
 oQ 24 (.extract (oT 20) 0) 36,
 oQ 25 (.extract (oT 20) 1) 3,
 oQ 4 (.alloc 36) 0,
 oN (.store 36 (oT 4) (oT 24)) 0,
 oA 5 25 3]
def f46r5:List AOp:=[oM 26 5 3,
 oQ 27 (.binOp .eql 3 (oT 26) (.const (.int .i64 0)) 3) 4]
def f46r6:List AOp:=[oQ 28 (.build 36 #[]) 36,
 oN (.store 36 (oT 2) (oT 28)) 0,
 oQ 3 (.assign (.const (.int .i64 0))) 3]
def f46r7:List AOp:=[oQ 29 (.load 36 (oT 4)) 36,
 oM 30 5 3,
 oQ 31 (.binOp .add 3 (oT 30) (.const (.int .i64 1)) 3) 3,
 oN (.store 36 (oT 2) (oT 29)) 0,
 oA 3 31 3]
def f46r8:List AOp:=[oM 32 0 9,
 oQ 33 (.index 9 (oT 32) (.const (.int .i64 0))) 5,
 oQ 34 (cF 17 #[(oT 33)] #[5]) 36,
 oN (.store 36 (oT 2) (oT 34)) 0,
 oQ 3 (.assign (.const (.int .i64 1))) 3]
def f46:AFun:=⟨35,[(.cell 2 36),(.tmp 3)],(.seq (.ops false f46r0) (.seq (.block 0 (.seq (.ops false f46r1) (.cond (.tmp 6) (.seq (.ops false f46r2) .ret) (.seq (.ops false f46r3) (.cond (.tmp 16) (.seq (.ops false f46r4) (.seq (.seq (.ops false f46r5) (.cond (.tmp 27) (.seq (.ops false f46r6) .ret) .skip)) (.seq (.ops false f46r7) .ret))) .skip))))) (.seq (.ops false f46r8) .ret)))⟩
def f47r0:List AOp:=[oQ 1 (.box 36 (oT 0)) 0,
 oQ 2 (.assign (.const (.int .u8 0))) 5,
 oQ 3 (.assign (.const (.bool false))) 4]
def f47r1:List AOp:=[oQ 6 (.fieldAddr 36 (oT 1) 0) 0,
 oQ 7 (.load 34 (oT 6)) 34,
 oQ 8 (.move (.const (.int .i64 0))) 3]
def f47r2:List AOp:=[oQ 9 (.binOp .lss 3 (oT 8) (.const (.int .i64 4)) 3) 0]
def f47r3:List AOp:=[oM 10 8 3,
 oQ 11 (.index 34 (oT 7) (oT 8)) 33,
 oA 4 10 3,
 oA 5 11 33]
def f47r4:List AOp:=[oM 12 5 33,
 oQ 13 (.binOp .neq 33 (oT 12) (.const (.int .u64 0)) 33) 4]
def f47r5:List AOp:=[oM 14 4 3,
 oQ 15 (.binOp .mul 3 (oT 14) (.const (.int .i64 64)) 3) 3,
 oM 16 5 33,
 oQ 17 (cF 58 #[(oT 16)] #[33]) 3,
 oQ 18 (.binOp .add 3 (oT 15) (oT 17) 3) 3,
 oQ 19 (.convert 3 5 (oT 18)) 5,
 oA 2 19 5,
 oQ 3 (.assign (.const (.bool true))) 4]
def f47r6:List AOp:=[oQ 20 (.binOp .add 3 (oT 8) (.const (.int .i64 1)) 3) 3,
 oM 8 20 3]
def f47b0:AC:=(.seq (.ops false f47r2) (.seq (.cond (oT 9) .skip (.exit 0)) (.seq (.block 1 (.seq (.ops false f47r3) (.seq (.ops false f47r4) (.cond (oT 13) (.seq (.ops false f47r5) .ret) .skip)))) (.ops false f47r6))))
def f47r7:List AOp:=[oQ 2 (.assign (.const (.int .u8 0))) 5,
 oQ 3 (.assign (.const (.bool false))) 4]
def f47:AFun:=⟨21,[(.tmp 2),(.tmp 3)],(.seq (.ops false f47r0) (.seq (.seq (.ops false f47r1) (.block 0 (.loop [7,8] f47b0))) (.seq (.ops false f47r7) .ret)))⟩
def f48r0:List AOp:=[oQ 1 (.box 36 (oT 0)) 0,
 oQ 2 (.assign (.const (.int .i64 0))) 3]
def f48r1:List AOp:=[oQ 3 (.assign (.const (.int .i64 0))) 3]
def f48r2:List AOp:=[oQ 6 (.fieldAddr 36 (oT 1) 0) 0,
 oQ 7 (.load 34 (oT 6)) 34,
 oQ 8 (.move (.const (.int .i64 0))) 3]
def f48r3:List AOp:=[oQ 9 (.binOp .lss 3 (oT 8) (.const (.int .i64 4)) 3) 0]
def f48r4:List AOp:=[oQ 10 (.index 34 (oT 7) (oT 8)) 33,
 oA 5 10 33]
def f48r5:List AOp:=[oM 11 3 3,
 oM 12 5 33,
 oQ 13 (cF 59 #[(oT 12)] #[33]) 3,
 oQ 14 (.binOp .add 3 (oT 11) (oT 13) 3) 3,
 oA 3 14 3]
def f48r6:List AOp:=[oQ 15 (.binOp .add 3 (oT 8) (.const (.int .i64 1)) 3) 3,
 oM 8 15 3]
def f48b0:AC:=(.seq (.ops false f48r3) (.seq (.cond (oT 9) .skip (.exit 0)) (.seq (.block 1 (.seq (.ops false f48r4) (.ops false f48r5))) (.ops false f48r6))))
def f48r7:List AOp:=[oM 16 3 3,
 oA 2 16 3]
def f48:AFun:=⟨17,[(.tmp 2)],(.seq (.ops false f48r0) (.seq (.ops false f48r1) (.seq (.seq (.ops false f48r2) (.block 0 (.loop [3,7,8] f48b0))) (.seq (.ops false f48r7) .ret))))⟩
def f49r0:List AOp:=[oQ 4 (.assign (.const (.int .i64 0))) 3]
def f49r1:List AOp:=[oM 5 0 9,
 oM 6 1 5,
 oQ 7 (cF 60 #[(oT 5),(oT 6)] #[9,5]) 3,
 oA 4 7 3]
def f49:AFun:=⟨8,[(.tmp 4)],(.seq (.ops false f49r0) (.seq (.ops false f49r1) .ret))⟩
def f50r0:List AOp:=[oQ 4 (.assign (.const (.bool false))) 4]
def f50r1:List AOp:=[oM 7 0 9,
 oQ 8 (.range 9 (oT 7)) 0]
def f50r2:List AOp:=[oQ 9 (.next (oT 8) true) 0,
 oQ 10 (.extract (oT 9) 0) 4]
def f50r3:List AOp:=[oQ 11 (.extract (oT 9) 2) 21,
 oA 6 11 21]
def f50r4:List AOp:=[oM 12 6 21,
 oM 13 1 21,
 oQ 14 (.binOp .eql 21 (oT 12) (oT 13) 21) 4]
def f50r5:List AOp:=[oQ 4 (.assign (.const (.bool true))) 4]
def f50b0:AC:=(.seq (.ops false f50r2) (.seq (.cond (oT 10) .skip (.exit 0)) (.block 1 (.seq (.ops false f50r3) (.seq (.ops false f50r4) (.cond (oT 14) (.seq (.ops false f50r5) .ret) .skip))))))
def f50r6:List AOp:=[oQ 4 (.assign (.const (.bool false))) 4]
def f50:AFun:=⟨15,[(.tmp 4)],(.seq (.ops false f50r0) (.seq (.seq (.ops false f50r1) (.block 0 (.loop [1,8] f50b0))) (.seq (.ops false f50r6) .ret)))⟩
def f51r0:List AOp:=[oQ 2 (.assign (.const (.int .i64 0))) 3,
 oQ 3 (.assign (.const (.int .i64 0))) 3,
 oQ 4 (.assign (.const (.int .i64 0))) 3]
def f51r1:List AOp:=[oM 11 0 9,
 oQ 12 (.slice 9 (oT 11) (some (.const (.int .i64 1))) none none) 9,
 oQ 13 (cF 61 #[(oT 12)] #[9]) 97,
 oM 10 13 97,
 oQ 14 (.extract (oT 10) 0) 3,
 oQ 15 (.extract (oT 10) 1) 3,
 oA 5 14 3,
 oA 6 15 3]
def f51r2:List AOp:=[oM 16 6 3,
 oQ 17 (.binOp .add 3 (.const (.int .i64 1)) (oT 16) 3) 3,
 oA 7 17 3]
def f51r3:List AOp:=[oM 18 5 3,
 oA 8 18 3]
def f51r4p0:List AOp:=[oM 19 6 3,
 oQ 20 (.binOp .gtr 3 (oT 19) (.const (.int .i64 0)) 3) 4,
 oM 21 20 4,
 oG 22 (.move (oT 7)) 3 21 true,
 oG 23 (.move (oT 0)) 9 21 true,
 oG 24 (cB .len #[(oT 23)] #[9]) 3 21 true,
 oG 25 (.binOp .lss 3 (oT 22) (oT 24) 3) 4 21 true,
 oQ 26 (.pick (oT 21) (oT 25) (.const (.bool false))) 4]
def f51r4p1:List AOp:=[oM 27 26 4,
 oG 28 (.move (oT 0)) 9 27 true,
 oG 29 (.move (oT 7)) 3 27 true,
 oG 30 (.index 9 (oT 28) (oT 29)) 5 27 true,
 oG 31 (.binOp .eql 5 (oT 30) (.const (.int .u8 44)) 5) 4 27 true,
 oQ 32 (.pick (oT 27) (oT 31) (.const (.bool false))) 4]
def f51r4:List AOp:=f51r4p0 ++ f51r4p1
def f51r5:List AOp:=[oM 33 7 3,
 oQ 34 (.binOp .add 3 (oT 33) (.const (.int .i64 1)) 3) 3,
 oA 7 34 3]
def f51r6:List AOp:=[oQ 9 (.assign (.const (.int .i64 0))) 3]
def f51r7:List AOp:=[oM 36 0 9,
 oM 37 7 3,
 oQ 38 (.slice 9 (oT 36) (some (oT 37)) none none) 9,
 oQ 39 (cF 61 #[(oT 38)] #[9]) 97,
 oM 35 39 97,
 oQ 40 (.extract (oT 35) 0) 3,
 oQ 41 (.extract (oT 35) 1) 3,
 oA 8 40 3,
 oA 9 41 3]
def f51r8:List AOp:=[oM 42 7 3,
 oM 43 9 3,
 oQ 44 (.binOp .add 3 (oT 42) (oT 43) 3) 3,
 oA 7 44 3]
def f51r9:List AOp:=[oM 45 9 3,
 oQ 46 (.binOp .eql 3 (oT 45) (.const (.int .i64 0)) 3) 4]
def f51r10:List AOp:=[oQ 8 (.assign (.const (.int .i64 (-1)))) 3]
def f51r11p0:List AOp:=[oM 47 6 3,
 oQ 48 (.binOp .eql 3 (oT 47) (.const (.int .i64 0)) 3) 4,
 oM 49 48 4,
 oG 50 (.move (oT 7)) 3 49 false,
 oG 51 (.move (oT 0)) 9 49 false,
 oG 52 (cB .len #[(oT 51)] #[9]) 3 49 false,
 oG 53 (.binOp .geq 3 (oT 50) (oT 52) 3) 4 49 false,
 oQ 54 (.pick (oT 49) (.const (.bool true)) (oT 53)) 4]
def f51r11p1:List AOp:=[oM 55 54 4,
 oG 56 (.move (oT 0)) 9 55 false,
 oG 57 (.move (oT 7)) 3 55 false,
 oG 58 (.index 9 (oT 56) (oT 57)) 5 55 false,
 oG 59 (.binOp .neq 5 (oT 58) (.const (.int .u8 125)) 5) 4 55 false,
 oQ 60 (.pick (oT 55) (.const (.bool true)) (oT 59)) 4]
def f51r11:List AOp:=f51r11p0 ++ f51r11p1
def f51r12:List AOp:=[oQ 2 (.assign (.const (.int .i64 0))) 3,
 oQ 3 (.assign (.const (.int .i64 0))) 3,
 oQ 4 (.assign (.const (.int .i64 0))) 3]
def f51r13:List AOp:=[oM 61 5 3,
 oM 62 8 3,
 oM 63 7 3,
 oQ 64 (.binOp .add 3 (oT 63) (.const (.int .i64 1)) 3) 3,
 oA 2 61 3,
 oA 3 62 3,
 oA 4 64 3]
def f51:AFun:=⟨65,[(.tmp 2),(.tmp 3),(.tmp 4)],(.seq (.ops false f51r0) (.seq (.ops false f51r1) (.seq (.ops false f51r2) (.seq (.ops false f51r3) (.seq (.seq (.ops false f51r4) (.cond (.tmp 32) (.seq (.ops false f51r5) (.seq (.ops false f51r6) (.seq (.ops false f51r7) (.seq (.ops false f51r8) (.seq (.ops false f51r9) (.cond (.tmp 46) (.ops false f51r10) .skip)))))) .skip)) (.seq (.seq (.ops false f51r11) (.cond (.tmp 60) (.seq (.ops false f51r12) .ret) .skip)) (.seq (.ops false f51r13) .ret)))))))⟩
def f52r0:List AOp:=[oQ 4 (.assign (.const (.int .i64 0))) 3]
def f52r1:List AOp:=[oQ 5 (.assign (.const (.int .i64 (-1)))) 3]
def f52r2p0:List AOp:=[oM 7 0 5,
 oQ 8 (.binOp .geq 5 (oT 7) (.const (.int .u8 48)) 5) 4,
 oM 9 8 4,
 oG 10 (.move (oT 0)) 5 9 true,
 oG 11 (.binOp .leq 5 (oT 10) (.const (.int .u8 57)) 5) 4 9 true,
 oQ 12 (.pick (oT 9) (oT 11) (.const (.bool false))) 4]
def f52r2p1:List AOp:=[oA 6 12 4]
def f52r2:List AOp:=f52r2p0 ++ f52r2p1
def f52r3:List AOp:=[oM 13 0 5,
 oQ 14 (.binOp .sub 5 (oT 13) (.const (.int .u8 48)) 5) 5,
 oQ 15 (.convert 5 3 (oT 14)) 3,
 oA 5 15 3]
def f52r4p0:List AOp:=[oM 17 0 5,
 oQ 18 (.binOp .geq 5 (oT 17) (.const (.int .u8 97)) 5) 4,
 oM 19 18 4,
 oG 20 (.move (oT 0)) 5 19 true,
 oG 21 (.binOp .leq 5 (oT 20) (.const (.int .u8 102)) 5) 4 19 true,
 oQ 22 (.pick (oT 19) (oT 21) (.const (.bool false))) 4]
def f52r4p1:List AOp:=[oA 16 22 4]
def f52r4:List AOp:=f52r4p0 ++ f52r4p1
def f52r5:List AOp:=[oM 23 0 5,
 oQ 24 (.binOp .sub 5 (oT 23) (.const (.int .u8 97)) 5) 5,
 oQ 25 (.convert 5 3 (oT 24)) 3,
 oQ 26 (.binOp .add 3 (oT 25) (.const (.int .i64 10)) 3) 3,
 oA 5 26 3]
def f52r6p0:List AOp:=[oM 28 0 5,
 oQ 29 (.binOp .geq 5 (oT 28) (.const (.int .u8 65)) 5) 4,
 oM 30 29 4,
 oG 31 (.move (oT 0)) 5 30 true,
 oG 32 (.binOp .leq 5 (oT 31) (.const (.int .u8 70)) 5) 4 30 true,
 oQ 33 (.pick (oT 30) (oT 32) (.const (.bool false))) 4]
def f52r6p1:List AOp:=[oA 27 33 4]
def f52r6:List AOp:=f52r6p0 ++ f52r6p1
def f52r7:List AOp:=[oM 34 0 5,
 oQ 35 (.binOp .sub 5 (oT 34) (.const (.int .u8 65)) 5) 5,
 oQ 36 (.convert 5 3 (oT 35)) 3,
 oQ 37 (.binOp .add 3 (oT 36) (.const (.int .i64 10)) 3) 3,
 oA 5 37 3]
def f52r8:List AOp:=[oM 38 5 3,
 oM 39 1 3,
 oQ 40 (.binOp .geq 3 (oT 38) (oT 39) 3) 4]
def f52r9:List AOp:=[oQ 4 (.assign (.const (.int .i64 (-1)))) 3]
def f52r10:List AOp:=[oM 41 5 3,
 oA 4 41 3]
def f52:AFun:=⟨42,[(.tmp 4)],(.seq (.ops false f52r0) (.seq (.ops false f52r1) (.seq (.block 0 (.seq (.ops false f52r2) (.cond (.tmp 6) (.ops false f52r3) (.seq (.ops false f52r4) (.cond (.tmp 16) (.ops false f52r5) (.seq (.ops false f52r6) (.cond (.tmp 27) (.ops false f52r7) .skip))))))) (.seq (.seq (.ops false f52r8) (.cond (.tmp 40) (.seq (.ops false f52r9) .ret) .skip)) (.seq (.ops false f52r10) .ret)))))⟩
def f53r0:List AOp:=[oQ 2 (.alloc 36) 0,
 oQ 3 (.assign (.const (.int .i64 0))) 3]
def f53r1:List AOp:=[oM 6 0 9,
 oQ 7 (.binOp .eql 9 (oT 6) (.const (.string { data:=#[] })) 9) 4]
def f53r2:List AOp:=[oQ 8 (.build 36 #[]) 36,
 oN (.store 36 (oT 2) (oT 8)) 0,
 oQ 3 (.assign (.const (.int .i64 0))) 3]
def f53r3:List AOp:=[oM 9 0 9,
 oQ 10 (.index 9 (oT 9) (.const (.int .i64 0))) 5,
 oA 4 10 5]
def f53r4:List AOp:=[oM 11 4 5]
def f53r11:List AOp:=[oQ 25 (.binOp .eql 5 (oT 11) (.const (.int .u8 100)) 5) 4,
 oA 24 25 4]
def f53r12:List AOp:=[oQ 26 (cF 62 #[] #[]) 36,
 oN (.store 36 (oT 2) (oT 26)) 0,
 oQ 3 (.assign (.const (.int .i64 1))) 3]
def f53r13:List AOp:=[oQ 28 (.binOp .eql 5 (oT 11) (.const (.int .u8 68)) 5) 4,
 oA 27 28 4]
def f53r14:List AOp:=[oQ 29 (cF 62 #[] #[]) 36,
 oQ 30 (cF 25 #[(oT 29)] #[36]) 36,
 oN (.store 36 (oT 2) (oT 30)) 0,
 oQ 3 (.assign (.const (.int .i64 1))) 3]
def f53r15:List AOp:=[oQ 32 (.binOp .eql 5 (oT 11) (.const (.int .u8 119)) 5) 4,
 oA 31 32 4]
def f53r16:List AOp:=[oQ 33 (cF 63 #[] #[]) 36,
 oN (.store 36 (oT 2) (oT 33)) 0,
 oQ 3 (.assign (.const (.int .i64 1))) 3]
def f53r17:List AOp:=[oQ 35 (.binOp .eql 5 (oT 11) (.const (.int .u8 87)) 5) 4,
 oA 34 35 4]
def f53r18:List AOp:=[oQ 36 (cF 63 #[] #[]) 36,
 oQ 37 (cF 25 #[(oT 36)] #[36]) 36,
 oN (.store 36 (oT 2) (oT 37)) 0,
 oQ 3 (.assign (.const (.int .i64 1))) 3]
def f53r19:List AOp:=[oQ 39 (.binOp .eql 5 (oT 11) (.const (.int .u8 115)) 5) 4,
 oA 38 39 4]
def f53r20:List AOp:=[oQ 40 (cF 64 #[] #[]) 36,
 oN (.store 36 (oT 2) (oT 40)) 0,
 oQ 3 (.assign (.const (.int .i64 1))) 3]
def f53r21:List AOp:=[oQ 42 (.binOp .eql 5 (oT 11) (.const (.int .u8 83)) 5) 4,
 oA 41 42 4]
def f53r22:List AOp:=[oQ 43 (cF 64 #[] #[]) 36,
 oQ 44 (cF 25 #[(oT 43)] #[36]) 36,
 oN (.store 36 (oT 2) (oT 44)) 0,
 oQ 3 (.assign (.const (.int .i64 1))) 3]
def f53r23:List AOp:=[oQ 46 (.binOp .eql 5 (oT 11) (.const (.int .u8 120)) 5) 4,
 oA 45 46 4]
def f53r24p0:List AOp:=[oM 47 0 9,
 oQ 48 (cB .len #[(oT 47)] #[9]) 3,
 oQ 49 (.binOp .lss 3 (oT 48) (.const (.int .i64 3)) 3) 4,
 oM 50 49 4,
 oG 51 (.move (oT 0)) 9 50 false,
 oG 52 (.index 9 (oT 51) (.const (.int .i64 1))) 5 50 false,
 oG 53 (cF 52 #[(oT 52),(.const (.int .i64 16))] #[5,3]) 3 50 false,
 oG 54 (.binOp .lss 3 (oT 53) (.const (.int .i64 0)) 3) 4 50 false,
 oQ 55 (.pick (oT 50) (.const (.bool true)) (oT 54)) 4]
def f53r24p1:List AOp:=[oM 56 55 4,
 oG 57 (.move (oT 0)) 9 56 false,
 oG 58 (.index 9 (oT 57) (.const (.int .i64 2))) 5 56 false,
 oG 59 (cF 52 #[(oT 58),(.const (.int .i64 16))] #[5,3]) 3 56 false,
 oG 60 (.binOp .lss 3 (oT 59) (.const (.int .i64 0)) 3) 4 56 false,
 oQ 61 (.pick (oT 56) (.const (.bool true)) (oT 60)) 4]
def f53r24:List AOp:=f53r24p0 ++ f53r24p1
def f53r25:List AOp:=[oQ 62 (.build 36 #[]) 36,
 oN (.store 36 (oT 2) (oT 62)) 0,
 oQ 3 (.assign (.const (.int .i64 0))) 3]
def f53r26:List AOp:=[oM 63 0 9,
 oQ 64 (.index 9 (oT 63) (.const (.int .i64 1))) 5,
 oQ 65 (cF 52 #[(oT 64),(.const (.int .i64 16))] #[5,3]) 3,
 oQ 66 (.binOp .mul 3 (oT 65) (.const (.int .i64 16)) 3) 3,
 oM 67 0 9,
 oQ 68 (.index 9 (oT 67) (.const (.int .i64 2))) 5,
 oQ 69 (cF 52 #[(oT 68),(.const (.int .i64 16))] #[5,3]) 3,
 oQ 70 (.binOp .add 3 (oT 66) (oT 69) 3) 3,
 oQ 71 (.convert 3 5 (oT 70)) 5,
 oQ 72 (cF 17 #[(oT 71)] #[5]) 36,
 oN (.store 36 (oT 2) (oT 72)) 0,
 oQ 3 (.assign (.const (.int .i64 3))) 3]
def f53r5:List AOp:=[oM 12 4 5,
 oQ 13 (.call { callee:=(.value (.func 49)),args:=#[(.const (.string { data:=#[110,116,114,102,118] })),(oT 12)],argTypes:=#[9,5] }) 3,
 oA 5 13 3]
def f53r6:List AOp:=[oM 14 5 3,
 oQ 15 (.binOp .geq 3 (oT 14) (.const (.int .i64 0)) 3) 4]
def f53r7:List AOp:=[oM 16 5 3,
 oQ 17 (.index 9 (.const (.string { data:=#[10,9,13,12,11] })) (oT 16)) 5,
 oQ 18 (cF 17 #[(oT 17)] #[5]) 36,
 oN (.store 36 (oT 2) (oT 18)) 0,
 oQ 3 (.assign (.const (.int .i64 1))) 3]
def f53r8:List AOp:=[oM 19 4 5,
 oQ 20 (cF 65 #[(oT 19)] #[5]) 4]
def f53r9:List AOp:=[oQ 21 (.build 36 #[]) 36,
 oN (.store 36 (oT 2) (oT 21)) 0,
 oQ 3 (.assign (.const (.int .i64 0))) 3]
def f53r10:List AOp:=[oM 22 4 5,
 oQ 23 (cF 17 #[(oT 22)] #[5]) 36,
 oN (.store 36 (oT 2) (oT 23)) 0,
 oQ 3 (.assign (.const (.int .i64 1))) 3]
def f53:AFun:=⟨73,[(.cell 2 36),(.tmp 3)],(.seq (.ops false f53r0) (.seq (.seq (.ops false f53r1) (.cond (.tmp 7) (.seq (.ops false f53r2) .ret) .skip)) (.seq (.ops false f53r3) (.seq (.ops false f53r4) (.block 0 (.seq (.ops false f53r11) (.cond (.tmp 24) (.seq (.ops false f53r12) .ret) (.seq (.ops false f53r13) (.cond (.tmp 27) (.seq (.ops false f53r14) .ret) (.seq (.ops false f53r15) (.cond (.tmp 31) (.seq (.ops false f53r16) .ret) (.seq (.ops false f53r17) (.cond (.tmp 34) (.seq (.ops false f53r18) .ret) (.seq (.ops false f53r19) (.cond (.tmp 38) (.seq (.ops false f53r20) .ret) (.seq (.ops false f53r21) (.cond (.tmp 41) (.seq (.ops false f53r22) .ret) (.seq (.ops false f53r23) (.cond (.tmp 45) (.seq (.seq (.ops false f53r24) (.cond (.tmp 61) (.seq (.ops false f53r25) .ret) .skip)) (.seq (.ops false f53r26) .ret)) (.seq (.seq (.ops false f53r5) (.seq (.ops false f53r6) (.cond (.tmp 15) (.seq (.ops false f53r7) .ret) .skip))) (.seq (.seq (.ops false f53r8) (.cond (.tmp 20) (.seq (.ops false f53r9) .ret) .skip)) (.seq (.ops false f53r10) .ret))))))))))))))))))))))⟩
def f54r0:List AOp:=[oQ 4 (.alloc 59) 0,
 oQ 5 (.assign (.const (.int .i64 0))) 3,
 oQ 6 (.assign (.const (.int .i64 0))) 23]
def f54r1:List AOp:=[oM 13 0 9,
 oM 14 1 3,
 oQ 15 (.binOp .add 3 (oT 14) (.const (.int .i64 1)) 3) 3,
 oQ 16 (cF 66 #[(oT 13),(oT 15)] #[9,3]) 97,
 oM 12 16 97,
 oQ 17 (.extract (oT 12) 0) 3,
 oQ 18 (.extract (oT 12) 1) 3,
 oA 7 17 3,
 oA 8 18 3]
def f54r2:List AOp:=[oM 19 8 3,
 oM 20 1 3,
 oQ 21 (.binOp .add 3 (oT 20) (.const (.int .i64 1)) 3) 3,
 oQ 22 (.binOp .eql 3 (oT 19) (oT 21) 3) 4]
def f54r3:List AOp:=[oQ 23 (.build 59 #[]) 59,
 oN (.store 59 (oT 4) (oT 23)) 0,
 oQ 5 (.assign (.const (.int .i64 0))) 3,
 oQ 6 (.assign (.const (.int .i64 3))) 23]
def f54r4:List AOp:=[oM 24 7 3,
 oA 9 24 3]
def f54r5:List AOp:=[oM 25 0 9,
 oM 26 8 3,
 oQ 27 (.call { callee:=(.value (.func 28)),args:=#[(oT 25),(oT 26),(.const (.string { data:=#[44] }))],argTypes:=#[9,3,9] }) 4]
def f54r6:List AOp:=[oM 29 0 9,
 oM 30 8 3,
 oQ 31 (.binOp .add 3 (oT 30) (.const (.int .i64 1)) 3) 3,
 oQ 32 (cF 66 #[(oT 29),(oT 31)] #[9,3]) 97,
 oM 28 32 97,
 oQ 33 (.extract (oT 28) 0) 3,
 oQ 34 (.extract (oT 28) 1) 3,
 oA 10 33 3,
 oA 11 34 3]
def f54r7:List AOp:=[oM 35 10 3,
 oA 9 35 3]
def f54r8:List AOp:=[oM 36 11 3,
 oM 37 8 3,
 oQ 38 (.binOp .add 3 (oT 37) (.const (.int .i64 1)) 3) 3,
 oQ 39 (.binOp .eql 3 (oT 36) (oT 38) 3) 4]
def f54r9:List AOp:=[oQ 9 (.assign (.const (.int .i64 (-1)))) 3]
def f54r10:List AOp:=[oM 40 11 3,
 oA 8 40 3]
def f54r11:List AOp:=[oM 41 0 9,
 oM 42 8 3,
 oQ 43 (.call { callee:=(.value (.func 28)),args:=#[(oT 41),(oT 42),(.const (.string { data:=#[125] }))],argTypes:=#[9,3,9] }) 4,
 oQ 44 (.unOp .not 4 (oT 43)) 4]
def f54r12:List AOp:=[oQ 45 (.build 59 #[]) 59,
 oN (.store 59 (oT 4) (oT 45)) 0,
 oQ 5 (.assign (.const (.int .i64 0))) 3,
 oQ 6 (.assign (.const (.int .i64 3))) 23]
def f54r13:List AOp:=[oM 46 7 3,
 oQ 47 (.binOp .gtr 3 (oT 46) (.const (.int .i64 100)) 3) 4,
 oM 48 47 4,
 oG 49 (.move (oT 9)) 3 48 false,
 oG 50 (.binOp .gtr 3 (oT 49) (.const (.int .i64 100)) 3) 4 48 false,
 oQ 51 (.pick (oT 48) (.const (.bool true)) (oT 50)) 4]
def f54r14:List AOp:=[oQ 52 (.build 59 #[]) 59,
 oN (.store 59 (oT 4) (oT 52)) 0,
 oQ 5 (.assign (.const (.int .i64 0))) 3,
 oQ 6 (.assign (.const (.int .i64 4))) 23]
def f54r15:List AOp:=[oM 53 9 3,
 oQ 54 (.binOp .geq 3 (oT 53) (.const (.int .i64 0)) 3) 4,
 oM 55 54 4,
 oG 56 (.move (oT 9)) 3 55 true,
 oG 57 (.move (oT 7)) 3 55 true,
 oG 58 (.binOp .lss 3 (oT 56) (oT 57) 3) 4 55 true,
 oQ 59 (.pick (oT 55) (oT 58) (.const (.bool false))) 4]
def f54r16:List AOp:=[oQ 60 (.build 59 #[]) 59,
 oN (.store 59 (oT 4) (oT 60)) 0,
 oQ 5 (.assign (.const (.int .i64 0))) 3,
 oQ 6 (.assign (.const (.int .i64 3))) 23]
def f54r17:List AOp:=[oM 61 7 3,
 oM 62 9 3,
 oQ 63 (.build 59 #[(0,(.const (.int .i64 16))),(2,(oT 61)),(3,(oT 62))]) 59,
 oM 64 8 3,
 oQ 65 (.binOp .add 3 (oT 64) (.const (.int .i64 1)) 3) 3,
 oN (.store 59 (oT 4) (oT 63)) 0,
 oA 5 65 3,
 oQ 6 (.assign (.const (.int .i64 0))) 23]
def f54:AFun:=⟨66,[(.cell 4 59),(.tmp 5),(.tmp 6)],(.seq (.ops false f54r0) (.seq (.ops false f54r1) (.seq (.seq (.ops false f54r2) (.cond (.tmp 22) (.seq (.ops false f54r3) .ret) .skip)) (.seq (.ops false f54r4) (.seq (.seq (.ops false f54r5) (.cond (.tmp 27) (.seq (.ops false f54r6) (.seq (.ops false f54r7) (.seq (.seq (.ops false f54r8) (.cond (.tmp 39) (.ops false f54r9) .skip)) (.ops false f54r10)))) .skip)) (.seq (.seq (.ops false f54r11) (.cond (.tmp 44) (.seq (.ops false f54r12) .ret) .skip)) (.seq (.seq (.ops false f54r13) (.cond (.tmp 51) (.seq (.ops false f54r14) .ret) .skip)) (.seq (.seq (.ops false f54r15) (.cond (.tmp 59) (.seq (.ops false f54r16) .ret) .skip)) (.seq (.ops false f54r17) .ret)))))))))⟩
def f55r0:List AOp:=[oQ 0 (.alloc 68) 0]
def f55r1:List AOp:=[oQ 1 (cF 32 #[(.const (.int .u8 48)),(.const (.int .u8 57))] #[5,5]) 68,
 oQ 2 (cF 32 #[(.const (.int .u8 97)),(.const (.int .u8 122))] #[5,5]) 68,
 oQ 3 (cF 33 #[(oT 1),(oT 2)] #[68,68]) 68,
 oQ 4 (cF 32 #[(.const (.int .u8 65)),(.const (.int .u8 90))] #[5,5]) 68,
 oQ 5 (cF 43 #[(.const (.int .u8 95))] #[5]) 68,
 oQ 6 (cF 33 #[(oT 4),(oT 5)] #[68,68]) 68,
 oQ 7 (cF 33 #[(oT 3),(oT 6)] #[68,68]) 68,
 oN (.store 68 (oT 0) (oT 7)) 0]
def f55:AFun:=⟨8,[(.cell 0 68)],(.seq (.ops false f55r0) (.seq (.ops false f55r1) .ret))⟩
def f56r0:List AOp:=[oQ 0 (.alloc 68) 0]
def f56r1:List AOp:=[oQ 1 (cF 32 #[(.const (.int .u8 9)),(.const (.int .u8 13))] #[5,5]) 68,
 oQ 2 (cF 43 #[(.const (.int .u8 32))] #[5]) 68,
 oQ 3 (cF 33 #[(oT 1),(oT 2)] #[68,68]) 68,
 oN (.store 68 (oT 0) (oT 3)) 0]
def f56:AFun:=⟨4,[(.cell 0 68)],(.seq (.ops false f56r0) (.seq (.ops false f56r1) .ret))⟩
def f57r0:List AOp:=[oQ 2 (.assign (.const (.int .i64 0))) 3]
def f57r1:List AOp:=[oQ 3 (.assign (.const (.int .i64 0))) 3]
def f57r2:List AOp:=[oM 4 3 3,
 oQ 5 (.binOp .lss 3 (oT 4) (.const (.int .i64 16)) 3) 4]
def f57r4:List AOp:=[oM 8 0 5,
 oM 9 3 3,
 oQ 10 (.index 9 (.const (.string { data:=#[48,49,50,51,52,53,54,55,56,57,97,98,99,100,101,102] })) (oT 9)) 5,
 oQ 11 (.binOp .eql 5 (oT 8) (oT 10) 5) 4,
 oM 12 11 4,
 oG 13 (.move (oT 0)) 5 12 false,
 oG 14 (.move (oT 3)) 3 12 false,
 oG 15 (.index 9 (.const (.string { data:=#[48,49,50,51,52,53,54,55,56,57,65,66,67,68,69,70] })) (oT 14)) 5 12 false,
 oG 16 (.binOp .eql 5 (oT 13) (oT 15) 5) 4 12 false,
 oQ 17 (.pick (oT 12) (.const (.bool true)) (oT 16)) 4]
def f57r5:List AOp:=[oM 18 3 3,
 oA 2 18 3]
def f57r3:List AOp:=[oM 6 3 3,
 oQ 7 (.binOp .add 3 (oT 6) (.const (.int .i64 1)) 3) 3,
 oA 3 7 3]
def f57b0:AC:=(.seq (.seq (.ops false f57r2) (.cond (oT 5) .skip (.exit 0))) (.seq (.block 1 (.seq (.ops false f57r4) (.cond (oT 17) (.seq (.ops false f57r5) .ret) .skip))) (.ops false f57r3)))
def f57r6:List AOp:=[oQ 2 (.assign (.const (.int .i64 (-1)))) 3]
def f57:AFun:=⟨19,[(.tmp 2)],(.seq (.ops false f57r0) (.seq (.seq (.ops false f57r1) (.block 0 (.loop [0,3] f57b0))) (.seq (.ops false f57r6) .ret)))⟩
def f58r0:List AOp:=[oQ 2 (.assign (.const (.int .i64 0))) 3]
def f58r1:List AOp:=[oM 3 0 33,
 oQ 4 (.binOp .eql 33 (oT 3) (.const (.int .u64 0)) 33) 4]
def f58r2:List AOp:=[oQ 2 (.assign (.const (.int .i64 64))) 3]
def f58r3:List AOp:=[oM 5 0 33,
 oM 6 0 33,
 oQ 7 (.unOp .neg 33 (oT 6)) 33,
 oQ 8 (.binOp .and 33 (oT 5) (oT 7) 33) 33,
 oQ 9 (.binOp .mul 33 (oT 8) (.const (.int .u64 285870213051353865)) 33) 33,
 oQ 10 (.binOp .shr 33 (oT 9) (.const (.int .u64 58)) 101) 33,
 oQ 11 (.indexAddr 100 (.global 0) (oT 10)) 0,
 oQ 12 (.load 5 (oT 11)) 5,
 oQ 13 (.convert 5 3 (oT 12)) 3,
 oA 2 13 3]
def f58:AFun:=⟨14,[(.tmp 2)],(.seq (.ops false f58r0) (.seq (.seq (.ops false f58r1) (.cond (.tmp 4) (.seq (.ops false f58r2) .ret) .skip)) (.seq (.ops false f58r3) .ret)))⟩
def f59r0:List AOp:=[oQ 2 (.assign (.const (.int .i64 0))) 3]
def f59r1:List AOp:=[oM 3 0 33,
 oQ 4 (.binOp .shr 33 (oT 3) (.const (.int .u64 1)) 101) 33,
 oQ 5 (.binOp .and 33 (oT 4) (.const (.int .u64 6148914691236517205)) 33) 33,
 oM 6 0 33,
 oQ 7 (.binOp .and 33 (oT 6) (.const (.int .u64 6148914691236517205)) 33) 33,
 oQ 8 (.binOp .add 33 (oT 5) (oT 7) 33) 33,
 oA 0 8 33]
def f59r2:List AOp:=[oM 9 0 33,
 oQ 10 (.binOp .shr 33 (oT 9) (.const (.int .u64 2)) 101) 33,
 oQ 11 (.binOp .and 33 (oT 10) (.const (.int .u64 3689348814741910323)) 33) 33,
 oM 12 0 33,
 oQ 13 (.binOp .and 33 (oT 12) (.const (.int .u64 3689348814741910323)) 33) 33,
 oQ 14 (.binOp .add 33 (oT 11) (oT 13) 33) 33,
 oA 0 14 33]
def f59r3:List AOp:=[oM 15 0 33,
 oQ 16 (.binOp .shr 33 (oT 15) (.const (.int .u64 4)) 101) 33,
 oM 17 0 33,
 oQ 18 (.binOp .add 33 (oT 16) (oT 17) 33) 33,
 oQ 19 (.binOp .and 33 (oT 18) (.const (.int .u64 1085102592571150095)) 33) 33,
 oA 0 19 33]
def f59r4:List AOp:=[oM 20 0 33,
 oM 21 0 33,
 oQ 22 (.binOp .shr 33 (oT 21) (.const (.int .u64 8)) 101) 33,
 oQ 23 (.binOp .add 33 (oT 20) (oT 22) 33) 33,
 oA 0 23 33]
def f59r5:List AOp:=[oM 24 0 33,
 oM 25 0 33,
 oQ 26 (.binOp .shr 33 (oT 25) (.const (.int .u64 16)) 101) 33,
 oQ 27 (.binOp .add 33 (oT 24) (oT 26) 33) 33,
 oA 0 27 33]
def f59r6:List AOp:=[oM 28 0 33,
 oM 29 0 33,
 oQ 30 (.binOp .shr 33 (oT 29) (.const (.int .u64 32)) 101) 33,
 oQ 31 (.binOp .add 33 (oT 28) (oT 30) 33) 33,
 oA 0 31 33]
def f59r7:List AOp:=[oM 32 0 33,
 oQ 33 (.convert 33 3 (oT 32)) 3,
 oQ 34 (.binOp .and 3 (oT 33) (.const (.int .i64 127)) 3) 3,
 oA 2 34 3]
def f59:AFun:=⟨35,[(.tmp 2)],(.seq (.ops false f59r0) (.seq (.ops false f59r1) (.seq (.ops false f59r2) (.seq (.ops false f59r3) (.seq (.ops false f59r4) (.seq (.ops false f59r5) (.seq (.ops false f59r6) (.seq (.ops false f59r7) .ret))))))))⟩
def f60r0:List AOp:=[oQ 4 (.assign (.const (.int .i64 0))) 3]
def f60r1:List AOp:=[oM 5 0 9,
 oM 6 1 5,
 oQ 7 (cF 67 #[(oT 5),(oT 6)] #[9,5]) 3,
 oA 4 7 3]
def f60:AFun:=⟨8,[(.tmp 4)],(.seq (.ops false f60r0) (.seq (.ops false f60r1) .ret))⟩
def f61r0:List AOp:=[oQ 2 (.assign (.const (.int .i64 0))) 3,
 oQ 3 (.assign (.const (.int .i64 0))) 3]
def f61r1:List AOp:=[oQ 4 (.assign (.const (.int .i64 0))) 3,
 oQ 5 (.assign (.const (.int .i64 0))) 3]
def f61r2p0:List AOp:=[oM 6 5 3,
 oM 7 0 9,
 oQ 8 (cB .len #[(oT 7)] #[9]) 3,
 oQ 9 (.binOp .lss 3 (oT 6) (oT 8) 3) 4,
 oM 10 9 4,
 oG 11 (.move (oT 5)) 3 10 true,
 oG 12 (.binOp .lss 3 (oT 11) (.const (.int .i64 3)) 3) 4 10 true,
 oQ 13 (.pick (oT 10) (oT 12) (.const (.bool false))) 4]
def f61r2p1:List AOp:=[oM 14 13 4,
 oG 15 (.move (oT 0)) 9 14 true,
 oG 16 (.move (oT 5)) 3 14 true,
 oG 17 (.index 9 (oT 15) (oT 16)) 5 14 true,
 oG 18 (cF 52 #[(oT 17),(.const (.int .i64 10))] #[5,3]) 3 14 true,
 oG 19 (.binOp .geq 3 (oT 18) (.const (.int .i64 0)) 3) 4 14 true,
 oQ 20 (.pick (oT 14) (oT 19) (.const (.bool false))) 4]
def f61r2:List AOp:=f61r2p0 ++ f61r2p1
def f61r3:List AOp:=[oM 21 4 3,
 oQ 22 (.binOp .mul 3 (oT 21) (.const (.int .i64 10)) 3) 3,
 oM 23 0 9,
 oM 24 5 3,
 oQ 25 (.index 9 (oT 23) (oT 24)) 5,
 oQ 26 (cF 52 #[(oT 25),(.const (.int .i64 10))] #[5,3]) 3,
 oQ 27 (.binOp .add 3 (oT 22) (oT 26) 3) 3,
 oA 4 27 3]
def f61r4:List AOp:=[oM 28 5 3,
 oQ 29 (.binOp .add 3 (oT 28) (.const (.int .i64 1)) 3) 3,
 oA 5 29 3]
def f61b0:AC:=(.seq (.seq (.ops false f61r2) (.cond (oT 20) .skip (.exit 0))) (.block 1 (.seq (.ops false f61r3) (.ops false f61r4))))
def f61r5:List AOp:=[oM 30 4 3,
 oM 31 5 3,
 oA 2 30 3,
 oA 3 31 3]
def f61:AFun:=⟨32,[(.tmp 2),(.tmp 3)],(.seq (.ops false f61r0) (.seq (.ops false f61r1) (.seq (.block 0 (.loop [0,4,5] f61b0)) (.seq (.ops false f61r5) .ret))))⟩
def f62r0:List AOp:=[oQ 0 (.alloc 36) 0]
def f62r1:List AOp:=[oQ 1 (cF 20 #[(.const (.int .u8 48)),(.const (.int .u8 57))] #[5,5]) 36,
 oN (.store 36 (oT 0) (oT 1)) 0]
def f62:AFun:=⟨2,[(.cell 0 36)],(.seq (.ops false f62r0) (.seq (.ops false f62r1) .ret))⟩
def f63r0:List AOp:=[oQ 0 (.alloc 36) 0]
def f63r1:List AOp:=[oQ 1 (cF 62 #[] #[]) 36,
 oQ 2 (cF 20 #[(.const (.int .u8 97)),(.const (.int .u8 122))] #[5,5]) 36,
 oQ 3 (cF 21 #[(oT 1),(oT 2)] #[36,36]) 36,
 oQ 4 (cF 20 #[(.const (.int .u8 65)),(.const (.int .u8 90))] #[5,5]) 36,
 oQ 5 (cF 21 #[(oT 3),(oT 4)] #[36,36]) 36,
 oQ 6 (cF 17 #[(.const (.int .u8 95))] #[5]) 36,
 oQ 7 (cF 21 #[(oT 5),(oT 6)] #[36,36]) 36,
 oN (.store 36 (oT 0) (oT 7)) 0]
def f63:AFun:=⟨8,[(.cell 0 36)],(.seq (.ops false f63r0) (.seq (.ops false f63r1) .ret))⟩
def f64r0:List AOp:=[oQ 0 (.alloc 36) 0]
def f64r1:List AOp:=[oQ 1 (cF 20 #[(.const (.int .u8 9)),(.const (.int .u8 13))] #[5,5]) 36,
 oQ 2 (cF 17 #[(.const (.int .u8 32))] #[5]) 36,
 oQ 3 (cF 21 #[(oT 1),(oT 2)] #[36,36]) 36,
 oN (.store 36 (oT 0) (oT 3)) 0]
def f64:AFun:=⟨4,[(.cell 0 36)],(.seq (.ops false f64r0) (.seq (.ops false f64r1) .ret))⟩
def f65r0:List AOp:=[oQ 2 (.assign (.const (.bool false))) 4]
def f65r1p0:List AOp:=[oM 3 0 5,
 oQ 4 (.binOp .neq 5 (oT 3) (.const (.int .u8 95)) 5) 4,
 oM 5 4 4,
 oG 6 (cF 63 #[] #[]) 36 5 true,
 oG 7 (.move (oT 0)) 5 5 true,
 oG 8 (cF 19 #[(oT 6),(oT 7)] #[36,5]) 4 5 true,
 oQ 9 (.pick (oT 5) (oT 8) (.const (.bool false))) 4]
def f65r1p1:List AOp:=[oA 2 9 4]
def f65r1:List AOp:=f65r1p0 ++ f65r1p1
def f65:AFun:=⟨10,[(.tmp 2)],(.seq (.ops false f65r0) (.seq (.ops false f65r1) .ret))⟩
def f66r0:List AOp:=[oQ 4 (.assign (.const (.int .i64 0))) 3,
 oQ 5 (.assign (.const (.int .i64 0))) 3]
def f66r1:List AOp:=[oM 8 1 3,
 oQ 6 (.assign (.const (.int .i64 0))) 3,
 oA 7 8 3]
def f66r2p0:List AOp:=[oM 9 7 3,
 oM 10 0 9,
 oQ 11 (cB .len #[(oT 10)] #[9]) 3,
 oQ 12 (.binOp .lss 3 (oT 9) (oT 11) 3) 4,
 oM 13 12 4,
 oG 14 (.move (oT 7)) 3 13 true,
 oG 15 (.move (oT 1)) 3 13 true,
 oG 16 (.binOp .add 3 (oT 15) (.const (.int .i64 3)) 3) 3 13 true,
 oG 17 (.binOp .lss 3 (oT 14) (oT 16) 3) 4 13 true,
 oQ 18 (.pick (oT 13) (oT 17) (.const (.bool false))) 4]
def f66r2p1:List AOp:=[oM 19 18 4,
 oG 20 (.move (oT 0)) 9 19 true,
 oG 21 (.move (oT 7)) 3 19 true,
 oG 22 (.index 9 (oT 20) (oT 21)) 5 19 true,
 oG 23 (.binOp .geq 5 (oT 22) (.const (.int .u8 48)) 5) 4 19 true,
 oQ 24 (.pick (oT 19) (oT 23) (.const (.bool false))) 4]
def f66r2p2:List AOp:=[oM 25 24 4,
 oG 26 (.move (oT 0)) 9 25 true,
 oG 27 (.move (oT 7)) 3 25 true,
 oG 28 (.index 9 (oT 26) (oT 27)) 5 25 true,
 oG 29 (.binOp .leq 5 (oT 28) (.const (.int .u8 57)) 5) 4 25 true,
 oQ 30 (.pick (oT 25) (oT 29) (.const (.bool false))) 4]
def f66r2:List AOp:=f66r2p0 ++ (f66r2p1 ++ f66r2p2)
def f66r3:List AOp:=[oM 31 6 3,
 oQ 32 (.binOp .mul 3 (.const (.int .i64 10)) (oT 31) 3) 3,
 oM 33 0 9,
 oM 34 7 3,
 oQ 35 (.index 9 (oT 33) (oT 34)) 5,
 oQ 36 (.convert 5 3 (oT 35)) 3,
 oQ 37 (.binOp .add 3 (oT 32) (oT 36) 3) 3,
 oQ 38 (.binOp .sub 3 (oT 37) (.const (.int .i64 48)) 3) 3,
 oA 6 38 3]
def f66r4:List AOp:=[oM 39 7 3,
 oQ 40 (.binOp .add 3 (oT 39) (.const (.int .i64 1)) 3) 3,
 oA 7 40 3]
def f66b0:AC:=(.seq (.seq (.ops false f66r2) (.cond (oT 30) .skip (.exit 0))) (.block 1 (.seq (.ops false f66r3) (.ops false f66r4))))
def f66r5:List AOp:=[oM 41 6 3,
 oM 42 7 3,
 oA 4 41 3,
 oA 5 42 3]
def f66:AFun:=⟨43,[(.tmp 4),(.tmp 5)],(.seq (.ops false f66r0) (.seq (.ops false f66r1) (.seq (.block 0 (.loop [0,1,6,7] f66b0)) (.seq (.ops false f66r5) .ret))))⟩
def F:FuncId → Option AFun
  | 3=>some f3
  | 10=>some f10
  | 11=>some f11
  | 12=>some f12
  | 13=>some f13
  | 14=>some f14
  | 15=>some f15
  | 16=>some f16
  | 17=>some f17
  | 18=>some f18
  | 19=>some f19
  | 20=>some f20
  | 21=>some f21
  | 23=>some f23
  | 24=>some f24
  | 25=>some f25
  | 26=>some f26
  | 27=>some f27
  | 28=>some f28
  | 29=>some f29
  | 30=>some f30
  | 31=>some f31
  | 32=>some f32
  | 33=>some f33
  | 34=>some f34
  | 35=>some f35
  | 36=>some f36
  | 37=>some f37
  | 38=>some f38
  | 39=>some f39
  | 40=>some f40
  | 41=>some f41
  | 42=>some f42
  | 43=>some f43
  | 44=>some f44
  | 45=>some f45
  | 46=>some f46
  | 47=>some f47
  | 48=>some f48
  | 49=>some f49
  | 50=>some f50
  | 51=>some f51
  | 52=>some f52
  | 53=>some f53
  | 54=>some f54
  | 55=>some f55
  | 56=>some f56
  | 57=>some f57
  | 58=>some f58
  | 59=>some f59
  | 60=>some f60
  | 61=>some f61
  | 62=>some f62
  | 63=>some f63
  | 64=>some f64
  | 65=>some f65
  | 66=>some f66
  | _=>none
end Go.Proofs.YtcjnmmeibppblaaDoor.C
