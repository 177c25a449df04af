import Derived.Test.YtaadjlpfdajggaaGreatDoorBtAm24
import Derived.Test.YtaadjlpfdajggaaGreatDoorProg
namespace Go.Proofs.YtaadjlpfdajggaaGreatDoor.C
open Go Go.AM
def f4r0:List AOp:=[oQ 2 (.box 37 (oT 0)) 0,
 oQ 4 (.assign (.const (.bool false))) 4]
def f4r1:List AOp:=[oQ 16 (.load 37 (oT 2)) 37,
 oQ 17 (cF 18 #[(oT 16),(.const (.int .i64 60))] #[37,3]) 37,
 oN (.store 37 (oT 2) (oT 17)) 0]
def f4r2:List AOp:=[oQ 18 (.load 37 (oT 2)) 37,
 oQ 19 (cF 19 #[(oT 18)] #[37]) 39,
 oA 5 19 39]
def f4r3:List AOp:=[oQ 21 (.load 37 (oT 2)) 37,
 oM 22 1 3,
 oQ 23 (cF 20 #[(oT 21),(oT 22)] #[37,3]) 41,
 oM 20 23 41,
 oQ 24 (.extract (oT 20) 0) 3,
 oQ 25 (.extract (oT 20) 1) 28,
 oA 6 24 3,
 oA 7 25 28]
def f4r4:List AOp:=[oM 27 5 39,
 oM 28 1 3,
 oQ 29 (cF 21 #[(oT 27),(oT 28)] #[39,3]) 41,
 oM 26 29 41,
 oQ 30 (.extract (oT 26) 0) 3,
 oQ 31 (.extract (oT 26) 1) 28,
 oA 8 30 3,
 oA 9 31 28]
def f4r5:List AOp:=[oQ 33 (.load 37 (oT 2)) 37,
 oM 34 1 3,
 oQ 35 (cF 22 #[(oT 33),(oT 34)] #[37,3]) 45,
 oM 32 35 45,
 oQ 36 (.extract (oT 32) 0) 44,
 oQ 37 (.extract (oT 32) 1) 28,
 oA 10 36 44,
 oA 11 37 28]
def f4r6:List AOp:=[oM 39 5 39,
 oM 40 1 3,
 oQ 41 (cF 23 #[(oT 39),(oT 40)] #[39,3]) 45,
 oM 38 41 45,
 oQ 42 (.extract (oT 38) 0) 44,
 oQ 43 (.extract (oT 38) 1) 28,
 oA 12 42 44,
 oA 13 43 28]
def f4r7:List AOp:=[oQ 45 (.load 37 (oT 2)) 37,
 oM 46 1 3,
 oQ 47 (cF 24 #[(oT 45),(oT 46)] #[37,3]) 50,
 oM 44 47 50,
 oQ 48 (.extract (oT 44) 0) 49,
 oQ 49 (.extract (oT 44) 1) 28,
 oQ 14 (.alloc 49) 0,
 oN (.store 49 (oT 14) (oT 48)) 0,
 oA 15 49 28]
def f4r8p0:List AOp:=[oM 50 6 3,
 oM 51 8 3,
 oQ 52 (.binOp .eql 3 (oT 50) (oT 51) 3) 4,
 oM 53 52 4,
 oG 54 (.move (oT 7)) 28 53 true,
 oG 55 (.move (oT 9)) 28 53 true,
 oG 56 (.binOp .eql 28 (oT 54) (oT 55) 28) 4 53 true,
 oQ 57 (.pick (oT 53) (oT 56) (.const (.bool false))) 4]
def f4r8p1:List AOp:=[oM 58 57 4,
 oG 59 (.move (oT 10)) 44 58 true,
 oG 60 (.move (oT 12)) 44 58 true,
 oG 61 (.binOp .eql 44 (oT 59) (oT 60) 44) 4 58 true,
 oQ 62 (.pick (oT 58) (oT 61) (.const (.bool false))) 4]
def f4r8p2:List AOp:=[oM 63 62 4,
 oG 64 (.move (oT 11)) 28 63 true,
 oG 65 (.move (oT 13)) 28 63 true,
 oG 66 (.binOp .eql 28 (oT 64) (oT 65) 28) 4 63 true,
 oQ 67 (.pick (oT 63) (oT 66) (.const (.bool false))) 4]
def f4r8p3:List AOp:=[oM 68 67 4,
 oG 69 (.fieldAddr 49 (oT 14) 0) 0 68 true,
 oG 70 (.load 44 (oT 69)) 44 68 true,
 oG 71 (.move (oT 12)) 44 68 true,
 oG 72 (.binOp .eql 44 (oT 70) (oT 71) 44) 4 68 true,
 oQ 73 (.pick (oT 68) (oT 72) (.const (.bool false))) 4]
def f4r8p4:List AOp:=[oM 74 73 4,
 oG 75 (.fieldAddr 49 (oT 14) 1) 0 74 true,
 oG 76 (.load 44 (oT 75)) 44 74 true,
 oG 77 (.move (oT 12)) 44 74 true,
 oG 78 (.binOp .eql 44 (oT 76) (oT 77) 44) 4 74 true,
 oQ 79 (.pick (oT 74) (oT 78) (.const (.bool false))) 4]
def f4r8p5:List AOp:=[oM 80 79 4,
 oG 81 (.move (oT 15)) 28 80 true,
 oG 82 (.move (oT 9)) 28 80 true,
 oG 83 (.binOp .eql 28 (oT 81) (oT 82) 28) 4 80 true,
 oQ 84 (.pick (oT 80) (oT 83) (.const (.bool false))) 4]
def f4r8p6:List AOp:=[oM 85 84 4,
 oG 86 (cF 25 #[] #[]) 4 85 true,
 oQ 87 (.pick (oT 85) (oT 86) (.const (.bool false))) 4]
def f4r8p7:List AOp:=[oA 4 87 4]
def f4r8:List AOp:=f4r8p0 ++ (f4r8p1 ++ (f4r8p2 ++ (f4r8p3 ++ (f4r8p4 ++ (f4r8p5 ++ (f4r8p6 ++ f4r8p7))))))
def f4:AFun:=⟨88,[(.tmp 4)],(.seq (.ops false f4r0) (.seq (.ops false f4r1) (.seq (.ops false f4r2) (.seq (.ops false f4r3) (.seq (.ops false f4r4) (.seq (.ops false f4r5) (.seq (.ops false f4r6) (.seq (.ops false f4r7) (.seq (.ops false f4r8) .ret)))))))))⟩
noncomputable def f16:AFun:=⟨30,[(.tmp 2),(.tmp 3)],cvF Tryz.f16 (.seq hO (.seq (.seq hO (hC (.seq hO .ret) .skip)) (.seq hO (.seq (.block 0 (.loop [0,4] (.seq (.seq hO (hC .skip (.exit 0))) (.block 1 (.seq hO (.seq (.seq hO (hC (.seq hO .ret) .skip)) hO)))))) (.seq hO .ret)))))⟩
def f18r0:List AOp:=[oQ 2 (.box 37 (oT 0)) 0,
 oQ 4 (.alloc 37) 0]
def f18r1:List AOp:=[oQ 5 (.fieldAddr 37 (oT 2) 0) 0,
 oQ 6 (.load 35 (oT 5)) 35,
 oQ 7 (.fieldAddr 37 (oT 2) 0) 0,
 oQ 8 (.load 35 (oT 7)) 35,
 oQ 9 (cB .len #[(oT 8)] #[35]) 3,
 oM 10 1 3,
 oQ 11 (cB .min #[(oT 9),(oT 10)] #[3,3]) 3,
 oQ 12 (.slice 35 (oT 6) none (some (oT 11)) none) 35,
 oQ 13 (.build 37 #[(0,(oT 12))]) 37,
 oN (.store 37 (oT 4) (oT 13)) 0]
def f18:AFun:=⟨14,[(.cell 4 37)],(.seq (.ops false f18r0) (.seq (.ops false f18r1) .ret))⟩
def f19r0:List AOp:=[oQ 1 (.box 37 (oT 0)) 0,
 oQ 2 (.assign (.const (.slice none 0 0))) 39]
def f19r1:List AOp:=[oQ 5 (.buildSlice 39 0 #[]) 39,
 oA 3 5 39]
def f19r2:List AOp:=[oQ 4 (.assign (.const (.int .i64 0))) 3]
def f19r3:List AOp:=[oM 6 4 3,
 oQ 7 (.fieldAddr 37 (oT 1) 0) 0,
 oQ 8 (.load 35 (oT 7)) 35,
 oQ 9 (cB .len #[(oT 8)] #[35]) 3,
 oQ 10 (.binOp .lss 3 (oT 6) (oT 9) 3) 4]
def f19r5:List AOp:=[oM 13 3 39,
 oQ 14 (.fieldAddr 37 (oT 1) 0) 0,
 oQ 15 (.load 35 (oT 14)) 35,
 oM 16 4 3,
 oQ 17 (.indexAddr 35 (oT 15) (oT 16)) 0,
 oQ 18 (.load 72 (oT 17)) 72,
 oQ 19 (cF 50 #[(oT 18)] #[72]) 97,
 oQ 20 (.buildSlice 39 1 #[(0,(oT 19))]) 39,
 oQ 21 (cB .append #[(oT 13),(oT 20)] #[39,39]) 39,
 oA 3 21 39]
def f19r4:List AOp:=[oM 11 4 3,
 oQ 12 (.binOp .add 3 (oT 11) (.const (.int .i64 1)) 3) 3,
 oA 4 12 3]
def f19b0:AC:=(.seq (.seq (.ops false f19r3) (.cond (oT 10) .skip (.exit 0))) (.seq (.block 1 (.ops false f19r5)) (.ops false f19r4)))
def f19r6:List AOp:=[oM 22 3 39,
 oA 2 22 39]
def f19:AFun:=⟨23,[(.tmp 2)],(.seq (.ops false f19r0) (.seq (.ops false f19r1) (.seq (.seq (.ops false f19r2) (.block 0 (.loop [1,3,4] f19b0))) (.seq (.ops false f19r6) .ret))))⟩
def f20r0:List AOp:=[oQ 2 (.box 37 (oT 0)) 0,
 oQ 4 (.assign (.const (.int .i64 0))) 3,
 oQ 5 (.assign (.const (.int .i64 0))) 28]
def f20r1:List AOp:=[oQ 7 (.load 37 (oT 2)) 37,
 oQ 8 (cF 40 #[(oT 7)] #[37]) 28,
 oA 6 8 28]
def f20r2:List AOp:=[oM 9 6 28,
 oQ 10 (.binOp .neq 28 (oT 9) (.const (.int .i64 0)) 28) 4]
def f20r3:List AOp:=[oM 11 6 28,
 oQ 4 (.assign (.const (.int .i64 0))) 3,
 oA 5 11 28]
def f20r4:List AOp:=[oM 12 1 3,
 oQ 13 (.binOp .lss 3 (oT 12) (.const (.int .i64 0)) 3) 4,
 oM 14 13 4,
 oG 15 (.move (oT 1)) 3 14 false,
 oG 16 (.binOp .gtr 3 (oT 15) (.const (.int .i64 10000)) 3) 4 14 false,
 oQ 17 (.pick (oT 14) (.const (.bool true)) (oT 16)) 4]
def f20r5:List AOp:=[oQ 4 (.assign (.const (.int .i64 0))) 3,
 oQ 5 (.assign (.const (.int .i64 1))) 28]
def f20r6:List AOp:=[oQ 18 (.load 37 (oT 2)) 37,
 oM 19 1 3,
 oQ 20 (cF 52 #[(oT 18),(oT 19)] #[37,3]) 100,
 oQ 21 (.fieldAddr 37 (oT 2) 0) 0,
 oQ 22 (.load 35 (oT 21)) 35,
 oQ 23 (cB .len #[(oT 22)] #[35]) 3,
 oQ 24 (.binOp .sub 3 (oT 23) (.const (.int .i64 1)) 3) 3,
 oQ 25 (.indexAddr 100 (oT 20) (oT 24)) 0,
 oQ 26 (.load 3 (oT 25)) 3,
 oQ 27 (cF 51 #[(oT 26)] #[3]) 3,
 oQ 28 (.binOp .add 3 (oT 27) (.const (.int .i64 1)) 3) 3,
 oA 4 28 3,
 oQ 5 (.assign (.const (.int .i64 0))) 28]
def f20:AFun:=⟨29,[(.tmp 4),(.tmp 5)],(.seq (.ops false f20r0) (.seq (.seq (.ops false f20r1) (.seq (.ops false f20r2) (.cond (.tmp 10) (.seq (.ops false f20r3) .ret) .skip))) (.seq (.seq (.ops false f20r4) (.cond (.tmp 17) (.seq (.ops false f20r5) .ret) .skip)) (.seq (.ops true f20r6) .ret))))⟩
def f21r0:List AOp:=[oQ 4 (.assign (.const (.int .i64 0))) 3,
 oQ 5 (.assign (.const (.int .i64 0))) 28]
def f21r1:List AOp:=[oM 7 0 39,
 oQ 8 (cF 53 #[(oT 7)] #[39]) 28,
 oA 6 8 28]
def f21r2:List AOp:=[oM 9 6 28,
 oQ 10 (.binOp .neq 28 (oT 9) (.const (.int .i64 0)) 28) 4]
def f21r3:List AOp:=[oM 11 6 28,
 oQ 4 (.assign (.const (.int .i64 0))) 3,
 oA 5 11 28]
def f21r4:List AOp:=[oM 12 1 3,
 oQ 13 (.binOp .lss 3 (oT 12) (.const (.int .i64 0)) 3) 4,
 oM 14 13 4,
 oG 15 (.move (oT 1)) 3 14 false,
 oG 16 (.binOp .gtr 3 (oT 15) (.const (.int .i64 10000)) 3) 4 14 false,
 oQ 17 (.pick (oT 14) (.const (.bool true)) (oT 16)) 4]
def f21r5:List AOp:=[oQ 4 (.assign (.const (.int .i64 0))) 3,
 oQ 5 (.assign (.const (.int .i64 1))) 28]
def f21r6:List AOp:=[oM 18 0 39,
 oM 19 0 39,
 oQ 20 (cB .len #[(oT 19)] #[39]) 3,
 oQ 21 (.binOp .sub 3 (oT 20) (.const (.int .i64 1)) 3) 3,
 oM 22 1 3,
 oQ 23 (cF 54 #[(oT 18),(oT 21),(oT 22)] #[39,3,3]) 3,
 oQ 24 (.binOp .add 3 (oT 23) (.const (.int .i64 1)) 3) 3,
 oA 4 24 3,
 oQ 5 (.assign (.const (.int .i64 0))) 28]
def f21:AFun:=⟨25,[(.tmp 4),(.tmp 5)],(.seq (.ops false f21r0) (.seq (.ops false f21r1) (.seq (.seq (.ops false f21r2) (.cond (.tmp 10) (.seq (.ops false f21r3) .ret) .skip)) (.seq (.seq (.ops false f21r4) (.cond (.tmp 17) (.seq (.ops false f21r5) .ret) .skip)) (.seq (.ops false f21r6) .ret)))))⟩
def f22r0:List AOp:=[oQ 2 (.box 37 (oT 0)) 0,
 oQ 4 (.assign (.const (.float .f64 0))) 44,
 oQ 5 (.assign (.const (.int .i64 0))) 28]
def f22r1:List AOp:=[oQ 10 (.load 37 (oT 2)) 37,
 oM 11 1 3,
 oQ 12 (cF 20 #[(oT 10),(oT 11)] #[37,3]) 41,
 oM 9 12 41,
 oQ 13 (.extract (oT 9) 0) 3,
 oQ 14 (.extract (oT 9) 1) 28,
 oA 6 13 3,
 oA 7 14 28]
def f22r2:List AOp:=[oM 15 7 28,
 oQ 16 (.binOp .neq 28 (oT 15) (.const (.int .i64 0)) 28) 4]
def f22r3:List AOp:=[oM 17 7 28,
 oQ 4 (.assign (.const (.float .f64 0))) 44,
 oA 5 17 28]
def f22r4:List AOp:=[oM 18 1 3,
 oQ 19 (.convert 3 44 (oT 18)) 44,
 oQ 20 (.binOp .add 44 (oT 19) (.const (.float .f64 4607182418800017408)) 44) 44,
 oA 8 20 44]
def f22r5:List AOp:=[oM 21 6 3,
 oQ 22 (cB .min #[(oT 21),(.const (.int .i64 2000))] #[3,3]) 3,
 oQ 23 (.move (.const (.int .i64 0))) 3]
def f22r6:List AOp:=[oQ 24 (.binOp .lss 3 (oT 23) (oT 22) 3) 4]
def f22r7:List AOp:=[oM 25 8 44,
 oM 26 8 44,
 oQ 27 (.binOp .add 44 (oT 25) (oT 26) 44) 44,
 oA 8 27 44]
def f22r8:List AOp:=[oQ 28 (.binOp .add 3 (oT 23) (.const (.int .i64 1)) 3) 3,
 oM 23 28 3]
def f22b0:AC:=(.seq (.ops false f22r6) (.seq (.cond (oT 24) .skip (.exit 0)) (.seq (.block 1 (.ops false f22r7)) (.ops false f22r8))))
def f22r9:List AOp:=[oM 29 6 3,
 oQ 30 (.binOp .gtr 3 (oT 29) (.const (.int .i64 2000)) 3) 4,
 oM 31 30 4,
 oG 32 (.move (oT 8)) 44 31 true,
 oG 33 (cF 55 #[(oT 32),(.const (.int .i64 1))] #[44,3]) 4 31 true,
 oG 34 (.unOp .not 4 (oT 33)) 4 31 true,
 oQ 35 (.pick (oT 31) (oT 34) (.const (.bool false))) 4]
def f22r10:List AOp:=[oQ 36 (cF 56 #[(.const (.int .i64 1))] #[3]) 44,
 oA 4 36 44,
 oQ 5 (.assign (.const (.int .i64 0))) 28]
def f22r11:List AOp:=[oM 37 8 44,
 oA 4 37 44,
 oQ 5 (.assign (.const (.int .i64 0))) 28]
def f22:AFun:=⟨38,[(.tmp 4),(.tmp 5)],(.seq (.ops false f22r0) (.seq (.ops false f22r1) (.seq (.seq (.ops false f22r2) (.cond (.tmp 16) (.seq (.ops false f22r3) .ret) .skip)) (.seq (.ops false f22r4) (.seq (.seq (.ops false f22r5) (.block 0 (.loop [6,8,22,23] f22b0))) (.seq (.seq (.ops false f22r9) (.cond (.tmp 35) (.seq (.ops false f22r10) .ret) .skip)) (.seq (.ops false f22r11) .ret)))))))⟩
def f23r0:List AOp:=[oQ 4 (.assign (.const (.float .f64 0))) 44,
 oQ 5 (.assign (.const (.int .i64 0))) 28]
def f23r1:List AOp:=[oM 11 0 39,
 oM 12 1 3,
 oQ 13 (cF 21 #[(oT 11),(oT 12)] #[39,3]) 41,
 oM 10 13 41,
 oQ 14 (.extract (oT 10) 0) 3,
 oQ 15 (.extract (oT 10) 1) 28,
 oA 6 14 3,
 oA 7 15 28]
def f23r2:List AOp:=[oM 16 7 28,
 oQ 17 (.binOp .neq 28 (oT 16) (.const (.int .i64 0)) 28) 4]
def f23r3:List AOp:=[oM 18 7 28,
 oQ 4 (.assign (.const (.float .f64 0))) 44,
 oA 5 18 28]
def f23r4:List AOp:=[oM 19 6 3,
 oQ 20 (.binOp .gtr 3 (oT 19) (.const (.int .i64 1100)) 3) 4]
def f23r5:List AOp:=[oQ 21 (cF 56 #[(.const (.int .i64 1))] #[3]) 44,
 oA 4 21 44,
 oQ 5 (.assign (.const (.int .i64 0))) 28]
def f23r6:List AOp:=[oM 22 1 3,
 oQ 23 (.binOp .add 3 (oT 22) (.const (.int .i64 1)) 3) 3,
 oQ 24 (.convert 3 44 (oT 23)) 44,
 oA 8 24 44]
def f23r7:List AOp:=[oQ 9 (.assign (.const (.int .i64 0))) 3]
def f23r8:List AOp:=[oM 25 9 3,
 oM 26 6 3,
 oQ 27 (.binOp .lss 3 (oT 25) (oT 26) 3) 4]
def f23r10:List AOp:=[oM 30 8 44,
 oQ 31 (.binOp .mul 44 (oT 30) (.const (.float .f64 4611686018427387904)) 44) 44,
 oA 8 31 44]
def f23r9:List AOp:=[oM 28 9 3,
 oQ 29 (.binOp .add 3 (oT 28) (.const (.int .i64 1)) 3) 3,
 oA 9 29 3]
def f23b0:AC:=(.seq (.seq (.ops false f23r8) (.cond (oT 27) .skip (.exit 0))) (.seq (.block 1 (.ops false f23r10)) (.ops false f23r9)))
def f23r11:List AOp:=[oM 32 8 44,
 oA 4 32 44,
 oQ 5 (.assign (.const (.int .i64 0))) 28]
def f23:AFun:=⟨33,[(.tmp 4),(.tmp 5)],(.seq (.ops false f23r0) (.seq (.ops false f23r1) (.seq (.seq (.ops false f23r2) (.cond (.tmp 17) (.seq (.ops false f23r3) .ret) .skip)) (.seq (.seq (.ops false f23r4) (.cond (.tmp 20) (.seq (.ops false f23r5) .ret) .skip)) (.seq (.ops false f23r6) (.seq (.seq (.ops false f23r7) (.block 0 (.loop [6,8,9] f23b0))) (.seq (.ops false f23r11) .ret)))))))⟩
def f24r0:List AOp:=[oQ 2 (.box 37 (oT 0)) 0,
 oQ 4 (.alloc 49) 0,
 oQ 5 (.assign (.const (.int .i64 0))) 28]
def f24r1:List AOp:=[oQ 9 (.load 37 (oT 2)) 37,
 oM 10 1 3,
 oQ 11 (cF 22 #[(oT 9),(oT 10)] #[37,3]) 45,
 oM 8 11 45,
 oQ 12 (.extract (oT 8) 0) 44,
 oQ 13 (.extract (oT 8) 1) 28,
 oA 6 12 44,
 oA 7 13 28]
def f24r2:List AOp:=[oM 14 6 44,
 oM 15 6 44,
 oQ 16 (.build 49 #[(0,(oT 14)),(1,(oT 15))]) 49,
 oM 17 7 28,
 oN (.store 49 (oT 4) (oT 16)) 0,
 oA 5 17 28]
def f24:AFun:=⟨18,[(.cell 4 49),(.tmp 5)],(.seq (.ops false f24r0) (.seq (.ops false f24r1) (.seq (.ops false f24r2) .ret)))⟩
noncomputable def f25:AFun:=⟨134,[(.tmp 0)],cvF Tryz.f25 (.seq hO (.seq hO (.seq hO (.seq hO (.seq hO (.seq hO (.seq hO (.seq hO (.seq hO (.seq hO (.seq hO (.seq hO (.seq hO (.seq hO .ret))))))))))))))⟩
noncomputable def f33:AFun:=⟨28,[(.cell 4 37)],cvF Tryz.f33 (.seq hO (.seq hO (.seq hO (.seq hO (.seq hO .ret)))))⟩
noncomputable def f35:AFun:=⟨15,[(.tmp 4)],cvF Tryz.f35 (.seq hO (.seq hO .ret))⟩
noncomputable def f37:AFun:=⟨74,[(.cell 6 37)],cvF Tryz.f37 (.seq hO (.seq hO (.seq hO (.seq hO (.seq (.seq hO (.block 0 (.loop [2,6,7,8,31,32,33] (.seq hO (.seq (hC .skip (.exit 0)) (.seq (.block 1 (.seq hO (.seq (.seq hO (hC hO .skip)) (.seq (.seq hO (hC hO .skip)) hO)))) hO)))))) (.seq hO .ret))))))⟩
noncomputable def f38:AFun:=⟨22,[(.cell 4 25)],cvF Tryz.f38 (.seq hO (.seq (.seq hO (.block 0 (.loop [2,3,4,6] (.seq hO (.seq (hC .skip (.exit 0)) (.seq (.block 1 (.seq hO hQ)) hO)))))) (.seq hO .ret)))⟩
def f40r0:List AOp:=[oQ 1 (.box 37 (oT 0)) 0,
 oQ 2 (.assign (.const (.int .i64 0))) 28]
def f40r1:List AOp:=[oQ 8 (.load 37 (oT 1)) 37,
 oQ 9 (cF 64 #[(oT 8)] #[37]) 28,
 oA 3 9 28]
def f40r2:List AOp:=[oM 10 3 28,
 oQ 11 (.binOp .neq 28 (oT 10) (.const (.int .i64 0)) 28) 4]
def f40r3:List AOp:=[oM 12 3 28,
 oA 2 12 28]
def f40r4:List AOp:=[oQ 13 (.load 37 (oT 1)) 37,
 oQ 14 (cF 68 #[(oT 13)] #[37]) 4,
 oQ 15 (.unOp .not 4 (oT 14)) 4]
def f40r5:List AOp:=[oQ 2 (.assign (.const (.int .i64 6))) 28]
def f40r6:List AOp:=[oQ 17 (.load 37 (oT 1)) 37,
 oQ 18 (cF 65 #[(oT 17)] #[37]) 118,
 oM 16 18 118,
 oQ 19 (.extract (oT 16) 0) 100,
 oQ 20 (.extract (oT 16) 1) 100,
 oA 4 19 100,
 oA 5 20 100]
def f40r7:List AOp:=[oQ 21 (.fieldAddr 37 (oT 1) 0) 0,
 oQ 22 (.load 35 (oT 21)) 35,
 oQ 23 (cB .len #[(oT 22)] #[35]) 3,
 oQ 24 (.move (.const (.int .i64 0))) 3]
def f40r8:List AOp:=[oQ 25 (.binOp .lss 3 (oT 24) (oT 23) 3) 0]
def f40r9:List AOp:=[oQ 26 (.indexAddr 35 (oT 22) (oT 24)) 0,
 oQ 27 (.load 72 (oT 26)) 72,
 oQ 7 (.alloc 72) 0,
 oN (.store 72 (oT 7) (oT 27)) 0]
def f40r10:List AOp:=[oQ 28 (.fieldAddr 72 (oT 7) 0) 0,
 oQ 29 (.load 3 (oT 28)) 3,
 oQ 30 (.binOp .neq 3 (oT 29) (.const (.int .i64 15)) 3) 4,
 oM 31 30 4,
 oG 32 (.fieldAddr 72 (oT 7) 0) 0 31 true,
 oG 33 (.load 3 (oT 32)) 3 31 true,
 oG 34 (.binOp .neq 3 (oT 33) (.const (.int .i64 16)) 3) 4 31 true,
 oQ 35 (.pick (oT 31) (oT 34) (.const (.bool false))) 4]
def f40r11:List AOp:=[oM 36 4 100,
 oQ 37 (.fieldAddr 72 (oT 7) 1) 0,
 oQ 38 (.load 3 (oT 37)) 3,
 oQ 39 (.indexAddr 100 (oT 36) (oT 38)) 0,
 oQ 40 (.load 3 (oT 39)) 3,
 oM 41 5 100,
 oQ 42 (.fieldAddr 72 (oT 7) 1) 0,
 oQ 43 (.load 3 (oT 42)) 3,
 oQ 44 (.indexAddr 100 (oT 41) (oT 43)) 0,
 oQ 45 (.load 3 (oT 44)) 3,
 oQ 46 (.binOp .neq 3 (oT 40) (oT 45) 3) 4,
 oM 47 46 4,
 oG 48 (.move (oT 4)) 100 47 false,
 oG 49 (.fieldAddr 72 (oT 7) 1) 0 47 false,
 oG 50 (.load 3 (oT 49)) 3 47 false,
 oG 51 (.indexAddr 100 (oT 48) (oT 50)) 0 47 false,
 oG 52 (.load 3 (oT 51)) 3 47 false,
 oG 53 (.binOp .gtr 3 (oT 52) (.const (.int .i64 255)) 3) 4 47 false,
 oQ 54 (.pick (oT 47) (.const (.bool true)) (oT 53)) 4]
def f40r12:List AOp:=[oQ 2 (.assign (.const (.int .i64 7))) 28]
def f40r13:List AOp:=[oQ 55 (.binOp .add 3 (oT 24) (.const (.int .i64 1)) 3) 3,
 oM 24 55 3]
def f40b0:AC:=(.seq (.ops false f40r8) (.seq (.cond (oT 25) .skip (.exit 0)) (.seq (.block 1 (.seq (.ops false f40r9) (.seq (.seq (.ops false f40r10) (.cond (oT 35) (.exit 1) .skip)) (.seq (.ops true f40r11) (.cond (oT 54) (.seq (.ops false f40r12) .ret) .skip))))) (.ops false f40r13))))
def f40r14:List AOp:=[oQ 2 (.assign (.const (.int .i64 0))) 28]
def f40:AFun:=⟨56,[(.tmp 2)],(.seq (.ops false f40r0) (.seq (.seq (.ops false f40r1) (.seq (.ops false f40r2) (.cond (.tmp 11) (.seq (.ops false f40r3) .ret) .skip))) (.seq (.seq (.ops false f40r4) (.cond (.tmp 15) (.seq (.ops false f40r5) .ret) .skip)) (.seq (.ops false f40r6) (.seq (.seq (.ops false f40r7) (.block 0 (.loop [4,5,22,23,24] f40b0))) (.seq (.ops false f40r14) .ret))))))⟩
noncomputable def f41:AFun:=⟨33,[(.cell 2 37),(.tmp 3)],cvF Tryz.f41 (.seq hO (.seq hO (.seq (.seq hO (hC (.seq hO .ret) .skip)) (.seq hO (.seq (.seq hO (hC (.seq hO .ret) .skip)) (.seq (.seq hO (.seq hO (hC (.seq hO .ret) .skip))) (.seq hO .ret)))))))⟩
noncomputable def f44:AFun:=⟨17,[(.tmp 2)],cvF Tryz.f44 (.seq hO (.seq hO (.seq (.seq hO (.block 0 (.loop [3,7,8] (.seq hO (.seq (hC .skip (.exit 0)) (.seq (.block 1 (.seq hO hO)) hO)))))) (.seq hO .ret))))⟩
noncomputable def f46:AFun:=⟨66,[(.cell 2 33),(.tmp 3),(.tmp 4)],cvF Tryz.f46 (.seq hO (.seq (.seq hO (.seq hO (hC (.seq hO .ret) .skip))) (.seq (.seq hO (.block 0 (.seq (.block 6 (.block 5 (.seq (.block 4 (.seq (.block 3 (.seq (.block 2 (.seq (.block 1 (.seq (.seq (.seq hO (hC (.exit 1) .skip)) (.seq (.seq (.seq hO (hC .skip (.seq hO (hC .skip (.seq hO (hC .skip hO)))))) (hC (.exit 2) .skip)) (.seq (.seq hO (hC (.exit 3) .skip)) (.seq (.seq hO (hC (.exit 4) .skip)) (.seq (.seq hO (hC (.exit 5) .skip)) (.seq hO (hC (.exit 6) .skip))))))) (.exit 0))) (.seq (.seq hO .ret) (.exit 0)))) (.seq (.seq hO .ret) (.exit 0)))) (.seq (.seq hO (.seq hO .ret)) (.exit 0)))) (.seq (.seq hO .ret) (.exit 0))))) (.seq (.seq hO .ret) (.exit 0))))) (.seq hO .ret))))⟩
noncomputable def f47:AFun:=⟨6,[(.cell 2 37)],cvF Tryz.f47 (.seq hO (.seq hO .ret))⟩
noncomputable def f49:AFun:=⟨7,[(.cell 2 25)],cvF Tryz.f49 (.seq hO (.seq hO (.seq hO (.seq hO .ret))))⟩
def f50r0:List AOp:=[oQ 1 (.box 72 (oT 0)) 0,
 oQ 2 (.alloc 97) 0]
def f50r1:List AOp:=[oQ 3 (.fieldAddr 72 (oT 1) 0) 0,
 oQ 4 (.load 3 (oT 3)) 3,
 oQ 5 (.fieldAddr 72 (oT 1) 1) 0,
 oQ 6 (.load 3 (oT 5)) 3,
 oQ 7 (.fieldAddr 72 (oT 1) 2) 0,
 oQ 8 (.load 3 (oT 7)) 3,
 oQ 9 (.fieldAddr 72 (oT 1) 3) 0,
 oQ 10 (.fieldAddr 25 (oT 9) 0) 0,
 oQ 11 (.load 23 (oT 10)) 23,
 oQ 12 (.fieldAddr 72 (oT 1) 4) 0,
 oQ 13 (.load 3 (oT 12)) 3,
 oQ 14 (.fieldAddr 72 (oT 1) 5) 0,
 oQ 15 (.load 3 (oT 14)) 3,
 oQ 16 (.fieldAddr 72 (oT 1) 6) 0,
 oQ 17 (.load 3 (oT 16)) 3,
 oQ 18 (.fieldAddr 72 (oT 1) 7) 0,
 oQ 19 (.load 3 (oT 18)) 3,
 oQ 20 (.fieldAddr 72 (oT 1) 8) 0,
 oQ 21 (.load 4 (oT 20)) 4,
 oQ 22 (.build 97 #[(0,(oT 4)),(1,(oT 6)),(2,(oT 8)),(3,(oT 11)),(4,(oT 13)),(5,(oT 15)),(6,(oT 17)),(7,(oT 19)),(8,(oT 21))]) 97,
 oN (.store 97 (oT 2) (oT 22)) 0]
def f50:AFun:=⟨23,[(.cell 2 97)],(.seq (.ops false f50r0) (.seq (.ops false f50r1) .ret))⟩
def f51r0:List AOp:=[oQ 2 (.assign (.const (.int .i64 0))) 3]
def f51r1:List AOp:=[oM 3 0 3,
 oQ 4 (cB .min #[(oT 3),(.const (.int .i64 1099511627776))] #[3,3]) 3,
 oA 2 4 3]
def f51:AFun:=⟨5,[(.tmp 2)],(.seq (.ops false f51r0) (.seq (.ops false f51r1) .ret))⟩
def f52r0:List AOp:=[oQ 2 (.box 37 (oT 0)) 0,
 oQ 4 (.assign (.const (.slice none 0 0))) 100]
def f52r1:List AOp:=[oQ 8 (.fieldAddr 37 (oT 2) 0) 0,
 oQ 9 (.load 35 (oT 8)) 35,
 oQ 10 (cB .len #[(oT 9)] #[35]) 3,
 oQ 11 (.makeSlice 100 (oT 10) (oT 10)) 100,
 oA 5 11 100]
def f52r2:List AOp:=[oQ 12 (.fieldAddr 37 (oT 2) 0) 0,
 oQ 13 (.load 35 (oT 12)) 35,
 oQ 14 (cB .len #[(oT 13)] #[35]) 3,
 oQ 15 (.move (.const (.int .i64 0))) 3]
def f52r3:List AOp:=[oQ 16 (.binOp .lss 3 (oT 15) (oT 14) 3) 0]
def f52r4:List AOp:=[oM 17 15 3,
 oQ 18 (.indexAddr 35 (oT 13) (oT 15)) 0,
 oQ 19 (.load 72 (oT 18)) 72,
 oQ 7 (.alloc 72) 0,
 oA 6 17 3,
 oN (.store 72 (oT 7) (oT 19)) 0]
def f52r5:List AOp:=[oQ 20 (.fieldAddr 72 (oT 7) 0) 0,
 oQ 21 (.load 3 (oT 20)) 3]
def f52r7:List AOp:=[oQ 26 (.binOp .eql 3 (oT 21) (.const (.int .i64 8)) 3) 4,
 oA 25 26 4]
def f52r8:List AOp:=[oM 27 5 100,
 oM 28 6 3,
 oM 29 5 100,
 oQ 30 (.fieldAddr 72 (oT 7) 1) 0,
 oQ 31 (.load 3 (oT 30)) 3,
 oQ 32 (.indexAddr 100 (oT 29) (oT 31)) 0,
 oQ 33 (.load 3 (oT 32)) 3,
 oQ 34 (.binOp .add 3 (.const (.int .i64 1)) (oT 33) 3) 3,
 oM 35 5 100,
 oQ 36 (.fieldAddr 72 (oT 7) 2) 0,
 oQ 37 (.load 3 (oT 36)) 3,
 oQ 38 (.indexAddr 100 (oT 35) (oT 37)) 0,
 oQ 39 (.load 3 (oT 38)) 3,
 oQ 40 (.binOp .add 3 (oT 34) (oT 39) 3) 3,
 oQ 41 (cF 51 #[(oT 40)] #[3]) 3,
 oQ 42 (.indexAddr 100 (oT 27) (oT 28)) 0,
 oN (.store 3 (oT 42) (oT 41)) 0]
def f52r9:List AOp:=[oQ 44 (.binOp .eql 3 (oT 21) (.const (.int .i64 9)) 3) 4,
 oA 43 44 4]
def f52r10:List AOp:=[oM 45 5 100,
 oM 46 6 3,
 oM 47 5 100,
 oQ 48 (.fieldAddr 72 (oT 7) 1) 0,
 oQ 49 (.load 3 (oT 48)) 3,
 oQ 50 (.indexAddr 100 (oT 47) (oT 49)) 0,
 oQ 51 (.load 3 (oT 50)) 3,
 oM 52 5 100,
 oQ 53 (.fieldAddr 72 (oT 7) 2) 0,
 oQ 54 (.load 3 (oT 53)) 3,
 oQ 55 (.indexAddr 100 (oT 52) (oT 54)) 0,
 oQ 56 (.load 3 (oT 55)) 3,
 oQ 57 (cB .max #[(oT 51),(oT 56)] #[3,3]) 3,
 oQ 58 (.binOp .add 3 (.const (.int .i64 1)) (oT 57) 3) 3,
 oQ 59 (cF 51 #[(oT 58)] #[3]) 3,
 oQ 60 (.indexAddr 100 (oT 45) (oT 46)) 0,
 oN (.store 3 (oT 60) (oT 59)) 0]
def f52r11:List AOp:=[oQ 62 (.binOp .eql 3 (oT 21) (.const (.int .i64 11)) 3) 4,
 oA 61 62 4]
def f52r12:List AOp:=[oM 63 5 100,
 oM 64 6 3,
 oM 65 5 100,
 oQ 66 (.fieldAddr 72 (oT 7) 1) 0,
 oQ 67 (.load 3 (oT 66)) 3,
 oQ 68 (.indexAddr 100 (oT 65) (oT 67)) 0,
 oQ 69 (.load 3 (oT 68)) 3,
 oQ 70 (.binOp .add 3 (.const (.int .i64 2)) (oT 69) 3) 3,
 oQ 71 (cF 51 #[(oT 70)] #[3]) 3,
 oQ 72 (.indexAddr 100 (oT 63) (oT 64)) 0,
 oN (.store 3 (oT 72) (oT 71)) 0]
def f52r13:List AOp:=[oQ 74 (.binOp .eql 3 (oT 21) (.const (.int .i64 13)) 3) 4,
 oA 73 74 4]
def f52r14:List AOp:=[oQ 75 (.binOp .eql 3 (oT 21) (.const (.int .i64 14)) 3) 4,
 oA 73 75 4]
def f52r15:List AOp:=[oQ 76 (.binOp .eql 3 (oT 21) (.const (.int .i64 15)) 3) 4,
 oA 73 76 4]
def f52r16:List AOp:=[oQ 77 (.binOp .eql 3 (oT 21) (.const (.int .i64 16)) 3) 4,
 oA 73 77 4]
def f52r17:List AOp:=[oQ 78 (.binOp .eql 3 (oT 21) (.const (.int .i64 17)) 3) 4,
 oA 73 78 4]
def f52r18:List AOp:=[oM 79 5 100,
 oM 80 6 3,
 oM 81 5 100,
 oQ 82 (.fieldAddr 72 (oT 7) 1) 0,
 oQ 83 (.load 3 (oT 82)) 3,
 oQ 84 (.indexAddr 100 (oT 81) (oT 83)) 0,
 oQ 85 (.load 3 (oT 84)) 3,
 oQ 86 (.binOp .add 3 (.const (.int .i64 3)) (oT 85) 3) 3,
 oQ 87 (cF 51 #[(oT 86)] #[3]) 3,
 oQ 88 (.indexAddr 100 (oT 79) (oT 80)) 0,
 oN (.store 3 (oT 88) (oT 87)) 0]
def f52r19:List AOp:=[oQ 90 (.binOp .eql 3 (oT 21) (.const (.int .i64 10)) 3) 4,
 oA 89 90 4]
def f52r20:List AOp:=[oM 91 5 100,
 oM 92 6 3,
 oQ 93 (.load 72 (oT 7)) 72,
 oM 94 1 3,
 oQ 95 (cF 79 #[(oT 93),(oT 94)] #[72,3]) 3,
 oM 96 5 100,
 oQ 97 (.fieldAddr 72 (oT 7) 1) 0,
 oQ 98 (.load 3 (oT 97)) 3,
 oQ 99 (.indexAddr 100 (oT 96) (oT 98)) 0,
 oQ 100 (.load 3 (oT 99)) 3,
 oQ 101 (.binOp .add 3 (.const (.int .i64 1)) (oT 100) 3) 3,
 oQ 102 (.binOp .mul 3 (oT 95) (oT 101) 3) 3,
 oQ 103 (.binOp .add 3 (.const (.int .i64 4)) (oT 102) 3) 3,
 oQ 104 (cF 51 #[(oT 103)] #[3]) 3,
 oQ 105 (.indexAddr 100 (oT 91) (oT 92)) 0,
 oN (.store 3 (oT 105) (oT 104)) 0]
def f52r6:List AOp:=[oM 22 5 100,
 oM 23 6 3,
 oQ 24 (.indexAddr 100 (oT 22) (oT 23)) 0,
 oN (.store 3 (oT 24) (.const (.int .i64 1))) 0]
def f52r21:List AOp:=[oQ 106 (.binOp .add 3 (oT 15) (.const (.int .i64 1)) 3) 3,
 oM 15 106 3]
def f52b0:AC:=(.seq (.ops false f52r3) (.seq (.cond (oT 16) .skip (.exit 0)) (.seq (.block 1 (.seq (.ops false f52r4) (.seq (.ops false f52r5) (.block 2 (.seq (.ops false f52r7) (.cond (oT 25) (.ops true f52r8) (.seq (.ops false f52r9) (.cond (oT 43) (.ops true f52r10) (.seq (.ops false f52r11) (.cond (oT 61) (.ops false f52r12) (.seq (.seq (.ops false f52r13) (.cond (oT 73) .skip (.seq (.ops false f52r14) (.cond (oT 73) .skip (.seq (.ops false f52r15) (.cond (oT 73) .skip (.seq (.ops false f52r16) (.cond (oT 73) .skip (.ops false f52r17))))))))) (.cond (oT 73) (.ops false f52r18) (.seq (.ops false f52r19) (.cond (oT 89) (.ops true f52r20) (.ops false f52r6))))))))))))))) (.ops false f52r21))))
def f52r22:List AOp:=[oM 107 5 100,
 oA 4 107 100]
def f52:AFun:=⟨108,[(.tmp 4)],(.seq (.ops false f52r0) (.seq (.ops false f52r1) (.seq (.seq (.ops false f52r2) (.block 0 (.loop [1,5,13,14,15] f52b0))) (.seq (.ops false f52r22) .ret))))⟩
def f53r0:List AOp:=[oQ 2 (.assign (.const (.int .i64 0))) 28]
def f53r1:List AOp:=[oM 10 0 39,
 oQ 11 (cF 80 #[(oT 10)] #[39]) 28,
 oA 3 11 28]
def f53r2:List AOp:=[oM 12 3 28,
 oQ 13 (.binOp .neq 28 (oT 12) (.const (.int .i64 0)) 28) 4]
def f53r3:List AOp:=[oM 14 3 28,
 oA 2 14 28]
def f53r4:List AOp:=[oM 15 0 39,
 oM 16 0 39,
 oQ 17 (cB .len #[(oT 16)] #[39]) 3,
 oQ 18 (.binOp .sub 3 (oT 17) (.const (.int .i64 1)) 3) 3,
 oQ 19 (cF 81 #[(oT 15),(oT 18)] #[39,3]) 100,
 oA 4 19 100]
def f53r5:List AOp:=[oM 20 4 100,
 oQ 21 (cB .len #[(oT 20)] #[100]) 3,
 oQ 22 (.binOp .gtr 3 (oT 21) (.const (.int .i64 9)) 3) 4]
def f53r6:List AOp:=[oQ 2 (.assign (.const (.int .i64 6))) 28]
def f53r7:List AOp:=[oQ 5 (.assign (.const (.int .i64 0))) 3]
def f53r8:List AOp:=[oM 23 5 3,
 oM 24 4 100,
 oQ 25 (cB .len #[(oT 24)] #[100]) 3,
 oQ 26 (.binOp .lss 3 (oT 23) (oT 25) 3) 4]
def f53r10:List AOp:=[oM 29 4 100,
 oM 30 5 3,
 oQ 31 (.indexAddr 100 (oT 29) (oT 30)) 0,
 oQ 32 (.load 3 (oT 31)) 3,
 oM 33 5 3,
 oQ 34 (.binOp .add 3 (oT 33) (.const (.int .i64 1)) 3) 3,
 oQ 35 (.binOp .neq 3 (oT 32) (oT 34) 3) 4]
def f53r11:List AOp:=[oQ 2 (.assign (.const (.int .i64 6))) 28]
def f53r9:List AOp:=[oM 27 5 3,
 oQ 28 (.binOp .add 3 (oT 27) (.const (.int .i64 1)) 3) 3,
 oA 5 28 3]
def f53b0:AC:=(.seq (.seq (.ops false f53r8) (.cond (oT 26) .skip (.exit 0))) (.seq (.block 1 (.seq (.ops false f53r10) (.cond (oT 35) (.seq (.ops false f53r11) .ret) .skip))) (.ops false f53r9)))
def f53r12:List AOp:=[oQ 6 (.assign (.const (.int .i64 0))) 3]
def f53r13:List AOp:=[oM 36 6 3,
 oM 37 0 39,
 oQ 38 (cB .len #[(oT 37)] #[39]) 3,
 oQ 39 (.binOp .lss 3 (oT 36) (oT 38) 3) 4]
def f53r15:List AOp:=[oM 42 0 39,
 oM 43 6 3,
 oQ 44 (.indexAddr 39 (oT 42) (oT 43)) 0,
 oQ 45 (.fieldAddr 97 (oT 44) 0) 0,
 oQ 46 (.load 3 (oT 45)) 3,
 oQ 47 (.binOp .eql 3 (oT 46) (.const (.int .i64 12)) 3) 4,
 oM 48 47 4,
 oG 49 (.move (oT 0)) 39 48 true,
 oG 50 (.move (oT 6)) 3 48 true,
 oG 51 (.indexAddr 39 (oT 49) (oT 50)) 0 48 true,
 oG 52 (.fieldAddr 97 (oT 51) 7) 0 48 true,
 oG 53 (.load 3 (oT 52)) 3 48 true,
 oG 54 (.binOp .lss 3 (oT 53) (.const (.int .i64 1)) 3) 4 48 true,
 oG 55 (.move (oT 54)) 4 48 true,
 oG 56 (.move (oT 0)) 39 55 false,
 oG 57 (.move (oT 6)) 3 55 false,
 oG 58 (.indexAddr 39 (oT 56) (oT 57)) 0 55 false,
 oG 59 (.fieldAddr 97 (oT 58) 7) 0 55 false,
 oG 60 (.load 3 (oT 59)) 3 55 false,
 oG 61 (.move (oT 4)) 100 55 false,
 oG 62 (cB .len #[(oT 61)] #[100]) 3 55 false,
 oG 63 (.binOp .gtr 3 (oT 60) (oT 62) 3) 4 55 false,
 oG 64 (.pick (oT 55) (.const (.bool true)) (oT 63)) 4 48 true,
 oQ 65 (.pick (oT 48) (oT 64) (.const (.bool false))) 4]
def f53r16:List AOp:=[oQ 2 (.assign (.const (.int .i64 6))) 28]
def f53r14:List AOp:=[oM 40 6 3,
 oQ 41 (.binOp .add 3 (oT 40) (.const (.int .i64 1)) 3) 3,
 oA 6 41 3]
def f53b1:AC:=(.seq (.seq (.ops false f53r13) (.cond (oT 39) .skip (.exit 2))) (.seq (.block 3 (.seq (.ops false f53r15) (.cond (oT 65) (.seq (.ops false f53r16) .ret) .skip))) (.ops false f53r14)))
def f53r17:List AOp:=[oQ 7 (.assign (.const (.int .i64 0))) 3]
def f53r18:List AOp:=[oM 66 7 3,
 oM 67 0 39,
 oQ 68 (cB .len #[(oT 67)] #[39]) 3,
 oQ 69 (.binOp .lss 3 (oT 66) (oT 68) 3) 4]
def f53r20:List AOp:=[oM 72 0 39,
 oM 73 7 3,
 oQ 74 (.indexAddr 39 (oT 72) (oT 73)) 0,
 oQ 75 (.fieldAddr 97 (oT 74) 0) 0,
 oQ 76 (.load 3 (oT 75)) 3,
 oQ 77 (.binOp .eql 3 (oT 76) (.const (.int .i64 15)) 3) 4,
 oM 78 77 4,
 oG 79 (.move (oT 0)) 39 78 false,
 oG 80 (.move (oT 7)) 3 78 false,
 oG 81 (.indexAddr 39 (oT 79) (oT 80)) 0 78 false,
 oG 82 (.fieldAddr 97 (oT 81) 0) 0 78 false,
 oG 83 (.load 3 (oT 82)) 3 78 false,
 oG 84 (.binOp .eql 3 (oT 83) (.const (.int .i64 16)) 3) 4 78 false,
 oQ 85 (.pick (oT 78) (.const (.bool true)) (oT 84)) 4]
def f53r21:List AOp:=[oM 87 0 39,
 oM 88 0 39,
 oM 89 7 3,
 oQ 90 (.indexAddr 39 (oT 88) (oT 89)) 0,
 oQ 91 (.fieldAddr 97 (oT 90) 1) 0,
 oQ 92 (.load 3 (oT 91)) 3,
 oQ 93 (cF 82 #[(oT 87),(oT 92)] #[39,3]) 136,
 oM 86 93 136,
 oQ 94 (.extract (oT 86) 0) 3,
 oQ 95 (.extract (oT 86) 1) 3,
 oA 8 94 3,
 oA 9 95 3]
def f53r22:List AOp:=[oM 96 8 3,
 oM 97 9 3,
 oQ 98 (.binOp .neq 3 (oT 96) (oT 97) 3) 4,
 oM 99 98 4,
 oG 100 (.move (oT 8)) 3 99 false,
 oG 101 (.binOp .gtr 3 (oT 100) (.const (.int .i64 255)) 3) 4 99 false,
 oQ 102 (.pick (oT 99) (.const (.bool true)) (oT 101)) 4]
def f53r23:List AOp:=[oQ 2 (.assign (.const (.int .i64 7))) 28]
def f53r19:List AOp:=[oM 70 7 3,
 oQ 71 (.binOp .add 3 (oT 70) (.const (.int .i64 1)) 3) 3,
 oA 7 71 3]
def f53b2:AC:=(.seq (.seq (.ops false f53r18) (.cond (oT 69) .skip (.exit 4))) (.seq (.block 5 (.seq (.ops false f53r20) (.cond (oT 85) (.seq (.ops false f53r21) (.seq (.ops false f53r22) (.cond (oT 102) (.seq (.ops false f53r23) .ret) .skip))) .skip))) (.ops false f53r19)))
def f53r24:List AOp:=[oQ 2 (.assign (.const (.int .i64 0))) 28]
def f53:AFun:=⟨103,[(.tmp 2)],(.seq (.ops false f53r0) (.seq (.ops false f53r1) (.seq (.seq (.ops false f53r2) (.cond (.tmp 13) (.seq (.ops false f53r3) .ret) .skip)) (.seq (.ops false f53r4) (.seq (.seq (.ops false f53r5) (.cond (.tmp 22) (.seq (.ops false f53r6) .ret) .skip)) (.seq (.seq (.ops false f53r7) (.block 0 (.loop [0,4,5] f53b0))) (.seq (.seq (.ops false f53r12) (.block 2 (.loop [0,4,6] f53b1))) (.seq (.seq (.ops false f53r17) (.block 4 (.loop [0,7] f53b2))) (.seq (.ops false f53r24) .ret)))))))))⟩
def f54r0:List AOp:=[oQ 6 (.assign (.const (.int .i64 0))) 3]
def f54r1:List AOp:=[oM 11 0 39,
 oM 12 1 3,
 oQ 13 (.indexAddr 39 (oT 11) (oT 12)) 0,
 oQ 14 (.load 97 (oT 13)) 97,
 oQ 7 (.alloc 97) 0,
 oN (.store 97 (oT 7) (oT 14)) 0]
def f54r2:List AOp:=[oQ 15 (.fieldAddr 97 (oT 7) 0) 0,
 oQ 16 (.load 3 (oT 15)) 3,
 oQ 17 (cF 83 #[(oT 16)] #[3]) 3,
 oA 8 17 3]
def f54r3:List AOp:=[oM 18 8 3,
 oQ 19 (.binOp .eql 3 (oT 18) (.const (.int .i64 0)) 3) 4]
def f54r4:List AOp:=[oQ 6 (.assign (.const (.int .i64 1))) 3]
def f54r5:List AOp:=[oM 20 0 39,
 oQ 21 (.fieldAddr 97 (oT 7) 1) 0,
 oQ 22 (.load 3 (oT 21)) 3,
 oM 23 2 3,
 oQ 24 (cF 54 #[(oT 20),(oT 22),(oT 23)] #[39,3,3]) 3,
 oA 9 24 3]
def f54r6:List AOp:=[oQ 25 (.fieldAddr 97 (oT 7) 0) 0,
 oQ 26 (.load 3 (oT 25)) 3,
 oQ 27 (.binOp .eql 3 (oT 26) (.const (.int .i64 8)) 3) 4]
def f54r7:List AOp:=[oM 28 9 3,
 oQ 29 (.binOp .add 3 (.const (.int .i64 1)) (oT 28) 3) 3,
 oM 30 0 39,
 oQ 31 (.fieldAddr 97 (oT 7) 2) 0,
 oQ 32 (.load 3 (oT 31)) 3,
 oM 33 2 3,
 oQ 34 (cF 54 #[(oT 30),(oT 32),(oT 33)] #[39,3,3]) 3,
 oQ 35 (.binOp .add 3 (oT 29) (oT 34) 3) 3,
 oQ 36 (cB .min #[(oT 35),(.const (.int .i64 1099511627776))] #[3,3]) 3,
 oA 6 36 3]
def f54r8:List AOp:=[oQ 37 (.fieldAddr 97 (oT 7) 0) 0,
 oQ 38 (.load 3 (oT 37)) 3,
 oQ 39 (.binOp .eql 3 (oT 38) (.const (.int .i64 9)) 3) 4]
def f54r9:List AOp:=[oM 40 9 3,
 oM 41 0 39,
 oQ 42 (.fieldAddr 97 (oT 7) 2) 0,
 oQ 43 (.load 3 (oT 42)) 3,
 oM 44 2 3,
 oQ 45 (cF 54 #[(oT 41),(oT 43),(oT 44)] #[39,3,3]) 3,
 oQ 46 (cB .max #[(oT 40),(oT 45)] #[3,3]) 3,
 oQ 47 (.binOp .add 3 (.const (.int .i64 1)) (oT 46) 3) 3,
 oQ 48 (cB .min #[(oT 47),(.const (.int .i64 1099511627776))] #[3,3]) 3,
 oA 6 48 3]
def f54r10:List AOp:=[oQ 49 (.fieldAddr 97 (oT 7) 0) 0,
 oQ 50 (.load 3 (oT 49)) 3,
 oQ 51 (.binOp .eql 3 (oT 50) (.const (.int .i64 11)) 3) 4]
def f54r11:List AOp:=[oM 52 9 3,
 oQ 53 (.binOp .add 3 (.const (.int .i64 2)) (oT 52) 3) 3,
 oQ 54 (cB .min #[(oT 53),(.const (.int .i64 1099511627776))] #[3,3]) 3,
 oA 6 54 3]
def f54r12:List AOp:=[oQ 55 (.fieldAddr 97 (oT 7) 0) 0,
 oQ 56 (.load 3 (oT 55)) 3,
 oQ 57 (.binOp .neq 3 (oT 56) (.const (.int .i64 10)) 3) 4]
def f54r13:List AOp:=[oM 58 9 3,
 oQ 59 (.binOp .add 3 (.const (.int .i64 3)) (oT 58) 3) 3,
 oQ 60 (cB .min #[(oT 59),(.const (.int .i64 1099511627776))] #[3,3]) 3,
 oA 6 60 3]
def f54r14:List AOp:=[oQ 61 (.fieldAddr 97 (oT 7) 4) 0,
 oQ 62 (.load 3 (oT 61)) 3,
 oM 63 2 3,
 oQ 64 (.binOp .add 3 (oT 62) (oT 63) 3) 3,
 oA 10 64 3]
def f54r15:List AOp:=[oQ 65 (.fieldAddr 97 (oT 7) 5) 0,
 oQ 66 (.load 3 (oT 65)) 3,
 oQ 67 (.binOp .geq 3 (oT 66) (.const (.int .i64 0)) 3) 4,
 oM 68 67 4,
 oG 69 (.fieldAddr 97 (oT 7) 5) 0 68 true,
 oG 70 (.load 3 (oT 69)) 3 68 true,
 oG 71 (.move (oT 10)) 3 68 true,
 oG 72 (.binOp .lss 3 (oT 70) (oT 71) 3) 4 68 true,
 oQ 73 (.pick (oT 68) (oT 72) (.const (.bool false))) 4]
def f54r16:List AOp:=[oQ 74 (.fieldAddr 97 (oT 7) 5) 0,
 oQ 75 (.load 3 (oT 74)) 3,
 oA 10 75 3]
def f54r17:List AOp:=[oM 76 10 3,
 oQ 77 (.binOp .add 3 (oT 76) (.const (.int .i64 1)) 3) 3,
 oM 78 9 3,
 oQ 79 (.binOp .add 3 (.const (.int .i64 1)) (oT 78) 3) 3,
 oQ 80 (.binOp .mul 3 (oT 77) (oT 79) 3) 3,
 oQ 81 (.binOp .add 3 (.const (.int .i64 4)) (oT 80) 3) 3,
 oQ 82 (cB .min #[(oT 81),(.const (.int .i64 1099511627776))] #[3,3]) 3,
 oA 6 82 3]
def f54:AFun:=⟨83,[(.tmp 6)],(.seq (.ops false f54r0) (.seq (.ops false f54r1) (.seq (.ops false f54r2) (.seq (.seq (.ops false f54r3) (.cond (.tmp 19) (.seq (.ops false f54r4) .ret) .skip)) (.seq (.ops false f54r5) (.seq (.seq (.ops false f54r6) (.cond (.tmp 27) (.seq (.ops false f54r7) .ret) .skip)) (.seq (.seq (.ops false f54r8) (.cond (.tmp 39) (.seq (.ops false f54r9) .ret) .skip)) (.seq (.seq (.ops false f54r10) (.cond (.tmp 51) (.seq (.ops false f54r11) .ret) .skip)) (.seq (.seq (.ops false f54r12) (.cond (.tmp 57) (.seq (.ops false f54r13) .ret) .skip)) (.seq (.ops false f54r14) (.seq (.seq (.ops false f54r15) (.cond (.tmp 73) (.ops false f54r16) .skip)) (.seq (.ops false f54r17) .ret))))))))))))⟩
def f55r0:List AOp:=[oQ 4 (.assign (.const (.bool false))) 4]
def f55r1:List AOp:=[oM 5 1 3,
 oQ 6 (.binOp .eql 3 (oT 5) (.const (.int .i64 0)) 3) 4]
def f55r2:List AOp:=[oM 7 0 44,
 oQ 8 (cF 84 #[(oT 7)] #[44]) 44,
 oA 0 8 44]
def f55r3:List AOp:=[oM 9 1 3,
 oQ 10 (.binOp .lss 3 (oT 9) (.const (.int .i64 0)) 3) 4]
def f55r4:List AOp:=[oM 11 0 44,
 oQ 12 (.unOp .neg 44 (oT 11)) 44,
 oA 0 12 44]
def f55r5:List AOp:=[oM 13 0 44,
 oQ 14 (.binOp .gtr 44 (oT 13) (.const (.float .f64 9218868437227405311)) 44) 4,
 oA 4 14 4]
def f55:AFun:=⟨15,[(.tmp 4)],(.seq (.ops false f55r0) (.seq (.seq (.ops false f55r1) (.cond (.tmp 6) (.ops false f55r2) (.seq (.ops false f55r3) (.cond (.tmp 10) (.ops false f55r4) .skip)))) (.seq (.ops false f55r5) .ret)))⟩
def f56r0:List AOp:=[oQ 2 (.assign (.const (.float .f64 0))) 44]
def f56r1:List AOp:=[oQ 3 (.assign (.const (.int .u64 0))) 22]
def f56r2:List AOp:=[oM 4 0 3,
 oQ 5 (.binOp .geq 3 (oT 4) (.const (.int .i64 0)) 3) 4]
def f56r3:List AOp:=[oQ 3 (.assign (.const (.int .u64 9218868437227405312))) 22]
def f56r4:List AOp:=[oQ 3 (.assign (.const (.int .u64 18442240474082181120))) 22]
def f56r5:List AOp:=[oM 6 3 22,
 oQ 7 (cF 85 #[(oT 6)] #[22]) 44,
 oA 2 7 44]
def f56:AFun:=⟨8,[(.tmp 2)],(.seq (.ops false f56r0) (.seq (.ops false f56r1) (.seq (.seq (.ops false f56r2) (.cond (.tmp 5) (.ops false f56r3) (.ops false f56r4))) (.seq (.ops false f56r5) .ret))))⟩
noncomputable def f61:AFun:=⟨8,[(.tmp 4)],cvF Tryz.f61 (.seq hO (.seq hO .ret))⟩
def f62r0:List AOp:=[oQ 1 (.box 37 (oT 0)) 0,
 oQ 2 (.assign (.const (.slice none 0 0))) 100,
 oQ 3 (.assign (.const (.bool false))) 4]
def f62r1:List AOp:=[oQ 11 (.fieldAddr 37 (oT 1) 0) 0,
 oQ 12 (.load 35 (oT 11)) 35,
 oQ 13 (cB .len #[(oT 12)] #[35]) 3,
 oQ 14 (.makeSlice 100 (oT 13) (oT 13)) 100,
 oA 4 14 100]
def f62r2:List AOp:=[oQ 15 (.fieldAddr 37 (oT 1) 0) 0,
 oQ 16 (.load 35 (oT 15)) 35,
 oQ 17 (cB .len #[(oT 16)] #[35]) 3,
 oQ 18 (.move (.const (.int .i64 0))) 3]
def f62r3:List AOp:=[oQ 19 (.binOp .lss 3 (oT 18) (oT 17) 3) 0]
def f62r4:List AOp:=[oM 20 18 3,
 oQ 21 (.indexAddr 35 (oT 16) (oT 18)) 0,
 oQ 22 (.load 72 (oT 21)) 72,
 oQ 6 (.alloc 72) 0,
 oA 5 20 3,
 oN (.store 72 (oT 6) (oT 22)) 0]
def f62r5:List AOp:=[oQ 7 (.assign (.const (.int .i64 0))) 3,
 oQ 8 (.assign (.const (.int .i64 0))) 3,
 oQ 9 (.assign (.const (.int .i64 1))) 3]
def f62r6:List AOp:=[oQ 23 (.fieldAddr 72 (oT 6) 0) 0,
 oQ 24 (.load 3 (oT 23)) 3,
 oQ 25 (cF 66 #[(oT 24)] #[3]) 3]
def f62r7:List AOp:=[oQ 27 (.binOp .eql 3 (oT 25) (.const (.int .i64 1)) 3) 4,
 oA 26 27 4]
def f62r8:List AOp:=[oM 28 5 3,
 oQ 29 (.binOp .sub 3 (oT 28) (.const (.int .i64 1)) 3) 3,
 oA 7 29 3]
def f62r9:List AOp:=[oM 30 7 3,
 oQ 31 (.binOp .lss 3 (oT 30) (.const (.int .i64 0)) 3) 4]
def f62r10:List AOp:=[oQ 2 (.assign (.const (.slice none 0 0))) 100,
 oQ 3 (.assign (.const (.bool false))) 4]
def f62r11:List AOp:=[oM 32 9 3,
 oM 33 4 100,
 oM 34 7 3,
 oQ 35 (.indexAddr 100 (oT 33) (oT 34)) 0,
 oQ 36 (.load 3 (oT 35)) 3,
 oQ 37 (.binOp .add 3 (oT 32) (oT 36) 3) 3,
 oA 9 37 3]
def f62r12:List AOp:=[oQ 39 (.binOp .eql 3 (oT 25) (.const (.int .i64 2)) 3) 4,
 oA 38 39 4]
def f62r13:List AOp:=[oM 40 5 3,
 oQ 41 (.binOp .sub 3 (oT 40) (.const (.int .i64 1)) 3) 3,
 oA 8 41 3]
def f62r14:List AOp:=[oM 42 8 3,
 oQ 43 (.binOp .lss 3 (oT 42) (.const (.int .i64 0)) 3) 4]
def f62r15:List AOp:=[oQ 2 (.assign (.const (.slice none 0 0))) 100,
 oQ 3 (.assign (.const (.bool false))) 4]
def f62r16:List AOp:=[oM 44 8 3,
 oM 45 4 100,
 oM 46 8 3,
 oQ 47 (.indexAddr 100 (oT 45) (oT 46)) 0,
 oQ 48 (.load 3 (oT 47)) 3,
 oQ 49 (.binOp .sub 3 (oT 44) (oT 48) 3) 3,
 oA 7 49 3]
def f62r17:List AOp:=[oM 50 7 3,
 oQ 51 (.binOp .lss 3 (oT 50) (.const (.int .i64 0)) 3) 4]
def f62r18:List AOp:=[oQ 2 (.assign (.const (.slice none 0 0))) 100,
 oQ 3 (.assign (.const (.bool false))) 4]
def f62r19:List AOp:=[oM 52 9 3,
 oM 53 4 100,
 oM 54 7 3,
 oQ 55 (.indexAddr 100 (oT 53) (oT 54)) 0,
 oQ 56 (.load 3 (oT 55)) 3,
 oM 57 4 100,
 oM 58 8 3,
 oQ 59 (.indexAddr 100 (oT 57) (oT 58)) 0,
 oQ 60 (.load 3 (oT 59)) 3,
 oQ 61 (.binOp .add 3 (oT 56) (oT 60) 3) 3,
 oQ 62 (.binOp .add 3 (oT 52) (oT 61) 3) 3,
 oA 9 62 3]
def f62r20p0:List AOp:=[oQ 63 (.load 72 (oT 6)) 72,
 oQ 64 (cF 97 #[(oT 63)] #[72]) 4,
 oQ 65 (.unOp .not 4 (oT 64)) 4,
 oM 66 65 4,
 oG 67 (.fieldAddr 72 (oT 6) 1) 0 66 false,
 oG 68 (.load 3 (oT 67)) 3 66 false,
 oG 69 (.move (oT 7)) 3 66 false,
 oG 70 (.binOp .neq 3 (oT 68) (oT 69) 3) 4 66 false,
 oQ 71 (.pick (oT 66) (.const (.bool true)) (oT 70)) 4]
def f62r20p1:List AOp:=[oM 72 71 4,
 oG 73 (.fieldAddr 72 (oT 6) 2) 0 72 false,
 oG 74 (.load 3 (oT 73)) 3 72 false,
 oG 75 (.move (oT 8)) 3 72 false,
 oG 76 (.binOp .neq 3 (oT 74) (oT 75) 3) 4 72 false,
 oQ 77 (.pick (oT 72) (.const (.bool true)) (oT 76)) 4]
def f62r20:List AOp:=f62r20p0 ++ f62r20p1
def f62r21:List AOp:=[oQ 2 (.assign (.const (.slice none 0 0))) 100,
 oQ 3 (.assign (.const (.bool false))) 4]
def f62r22:List AOp:=[oM 78 4 100,
 oM 79 5 3,
 oM 80 9 3,
 oQ 81 (.indexAddr 100 (oT 78) (oT 79)) 0,
 oN (.store 3 (oT 81) (oT 80)) 0]
def f62r23:List AOp:=[oQ 82 (.binOp .add 3 (oT 18) (.const (.int .i64 1)) 3) 3,
 oM 18 82 3]
def f62b0:AC:=(.seq (.ops false f62r3) (.seq (.cond (oT 19) .skip (.exit 0)) (.seq (.block 1 (.seq (.ops false f62r4) (.seq (.ops false f62r5) (.seq (.seq (.ops false f62r6) (.block 2 (.seq (.ops false f62r7) (.cond (oT 26) (.seq (.ops false f62r8) (.seq (.seq (.ops false f62r9) (.cond (oT 31) (.seq (.ops false f62r10) .ret) .skip)) (.ops false f62r11))) (.seq (.ops false f62r12) (.cond (oT 38) (.seq (.ops false f62r13) (.seq (.seq (.ops false f62r14) (.cond (oT 43) (.seq (.ops false f62r15) .ret) .skip)) (.seq (.ops false f62r16) (.seq (.seq (.ops false f62r17) (.cond (oT 51) (.seq (.ops false f62r18) .ret) .skip)) (.ops true f62r19))))) .skip)))))) (.seq (.seq (.ops false f62r20) (.cond (oT 77) (.seq (.ops false f62r21) .ret) .skip)) (.ops false f62r22)))))) (.ops false f62r23))))
def f62r24:List AOp:=[oQ 83 (.fieldAddr 37 (oT 1) 0) 0,
 oQ 84 (.load 35 (oT 83)) 35,
 oQ 85 (cB .len #[(oT 84)] #[35]) 3,
 oQ 86 (.binOp .sub 3 (oT 85) (.const (.int .i64 1)) 3) 3,
 oA 10 86 3]
def f62r25p0:List AOp:=[oM 87 4 100,
 oM 88 10 3,
 oQ 89 (.binOp .geq 3 (oT 88) (.const (.int .i64 0)) 3) 4,
 oM 90 89 4,
 oG 91 (.move (oT 4)) 100 90 true,
 oG 92 (.move (oT 10)) 3 90 true,
 oG 93 (.indexAddr 100 (oT 91) (oT 92)) 0 90 true,
 oG 94 (.load 3 (oT 93)) 3 90 true,
 oG 95 (.fieldAddr 37 (oT 1) 0) 0 90 true,
 oG 96 (.load 35 (oT 95)) 35 90 true,
 oG 97 (cB .len #[(oT 96)] #[35]) 3 90 true,
 oG 98 (.binOp .eql 3 (oT 94) (oT 97) 3) 4 90 true,
 oQ 99 (.pick (oT 90) (oT 98) (.const (.bool false))) 4]
def f62r25p1:List AOp:=[oA 2 87 100,
 oA 3 99 4]
def f62r25:List AOp:=f62r25p0 ++ f62r25p1
def f62:AFun:=⟨100,[(.tmp 2),(.tmp 3)],(.seq (.ops false f62r0) (.seq (.ops false f62r1) (.seq (.seq (.ops false f62r2) (.block 0 (.loop [1,4,16,17,18] f62b0))) (.seq (.ops false f62r24) (.seq (.ops true f62r25) .ret)))))⟩
def f63r0:List AOp:=[oQ 1 (.box 37 (oT 0)) 0,
 oQ 2 (.assign (.const (.slice none 0 0))) 100]
def f63r1:List AOp:=[oQ 6 (.fieldAddr 37 (oT 1) 0) 0,
 oQ 7 (.load 35 (oT 6)) 35,
 oQ 8 (cB .len #[(oT 7)] #[35]) 3,
 oQ 9 (.makeSlice 100 (oT 8) (oT 8)) 100,
 oA 3 9 100]
def f63r2:List AOp:=[oQ 10 (.fieldAddr 37 (oT 1) 0) 0,
 oQ 11 (.load 35 (oT 10)) 35,
 oQ 12 (cB .len #[(oT 11)] #[35]) 3,
 oQ 13 (.move (.const (.int .i64 0))) 3]
def f63r3:List AOp:=[oQ 14 (.binOp .lss 3 (oT 13) (oT 12) 3) 0]
def f63r4:List AOp:=[oM 15 13 3,
 oQ 16 (.indexAddr 35 (oT 11) (oT 13)) 0,
 oQ 17 (.load 72 (oT 16)) 72,
 oQ 5 (.alloc 72) 0,
 oA 4 15 3,
 oN (.store 72 (oT 5) (oT 17)) 0]
def f63r5:List AOp:=[oQ 18 (.fieldAddr 72 (oT 5) 0) 0,
 oQ 19 (.load 3 (oT 18)) 3,
 oQ 20 (cF 66 #[(oT 19)] #[3]) 3]
def f63r7:List AOp:=[oQ 37 (.binOp .eql 3 (oT 20) (.const (.int .i64 0)) 3) 4,
 oA 36 37 4]
def f63r8:List AOp:=[oM 38 3 100,
 oM 39 4 3,
 oQ 40 (.indexAddr 100 (oT 38) (oT 39)) 0,
 oN (.store 3 (oT 40) (.const (.int .i64 1))) 0]
def f63r9:List AOp:=[oQ 42 (.binOp .eql 3 (oT 20) (.const (.int .i64 1)) 3) 4,
 oA 41 42 4]
def f63r10:List AOp:=[oM 43 3 100,
 oM 44 4 3,
 oM 45 3 100,
 oQ 46 (.fieldAddr 72 (oT 5) 1) 0,
 oQ 47 (.load 3 (oT 46)) 3,
 oQ 48 (.indexAddr 100 (oT 45) (oT 47)) 0,
 oQ 49 (.load 3 (oT 48)) 3,
 oQ 50 (.binOp .add 3 (.const (.int .i64 1)) (oT 49) 3) 3,
 oQ 51 (.indexAddr 100 (oT 43) (oT 44)) 0,
 oN (.store 3 (oT 51) (oT 50)) 0]
def f63r6:List AOp:=[oM 21 3 100,
 oM 22 4 3,
 oM 23 3 100,
 oQ 24 (.fieldAddr 72 (oT 5) 1) 0,
 oQ 25 (.load 3 (oT 24)) 3,
 oQ 26 (.indexAddr 100 (oT 23) (oT 25)) 0,
 oQ 27 (.load 3 (oT 26)) 3,
 oM 28 3 100,
 oQ 29 (.fieldAddr 72 (oT 5) 2) 0,
 oQ 30 (.load 3 (oT 29)) 3,
 oQ 31 (.indexAddr 100 (oT 28) (oT 30)) 0,
 oQ 32 (.load 3 (oT 31)) 3,
 oQ 33 (cB .max #[(oT 27),(oT 32)] #[3,3]) 3,
 oQ 34 (.binOp .add 3 (.const (.int .i64 1)) (oT 33) 3) 3,
 oQ 35 (.indexAddr 100 (oT 21) (oT 22)) 0,
 oN (.store 3 (oT 35) (oT 34)) 0]
def f63r11:List AOp:=[oQ 52 (.binOp .add 3 (oT 13) (.const (.int .i64 1)) 3) 3,
 oM 13 52 3]
def f63b0:AC:=(.seq (.ops false f63r3) (.seq (.cond (oT 14) .skip (.exit 0)) (.seq (.block 1 (.seq (.ops false f63r4) (.seq (.ops false f63r5) (.block 2 (.seq (.ops false f63r7) (.cond (oT 36) (.ops false f63r8) (.seq (.ops false f63r9) (.cond (oT 41) (.ops false f63r10) (.ops true f63r6))))))))) (.ops false f63r11))))
def f63r12:List AOp:=[oM 53 3 100,
 oA 2 53 100]
def f63:AFun:=⟨54,[(.tmp 2)],(.seq (.ops false f63r0) (.seq (.ops false f63r1) (.seq (.seq (.ops false f63r2) (.block 0 (.loop [3,11,12,13] f63b0))) (.seq (.ops false f63r12) .ret))))⟩
def f64r0:List AOp:=[oQ 1 (.box 37 (oT 0)) 0,
 oQ 2 (.assign (.const (.int .i64 0))) 28]
def f64r1:List AOp:=[oQ 5 (.fieldAddr 37 (oT 1) 0) 0,
 oQ 6 (.load 35 (oT 5)) 35,
 oQ 7 (cB .len #[(oT 6)] #[35]) 3,
 oQ 8 (.binOp .gtr 3 (oT 7) (.const (.int .i64 500)) 3) 4]
def f64r2:List AOp:=[oQ 2 (.assign (.const (.int .i64 4))) 28]
def f64r3:List AOp:=[oQ 10 (.load 37 (oT 1)) 37,
 oQ 11 (cF 62 #[(oT 10)] #[37]) 115,
 oM 9 11 115,
 oQ 12 (.extract (oT 9) 0) 100,
 oQ 13 (.extract (oT 9) 1) 4,
 oA 3 12 100,
 oA 4 13 4]
def f64r4:List AOp:=[oM 14 4 4,
 oQ 15 (.unOp .not 4 (oT 14)) 4]
def f64r5:List AOp:=[oQ 2 (.assign (.const (.int .i64 3))) 28]
def f64r6:List AOp:=[oQ 16 (.load 37 (oT 1)) 37,
 oQ 17 (cF 63 #[(oT 16)] #[37]) 100,
 oQ 18 (cF 98 #[(oT 17)] #[100]) 3,
 oQ 19 (.binOp .gtr 3 (oT 18) (.const (.int .i64 40)) 3) 4]
def f64r7:List AOp:=[oQ 2 (.assign (.const (.int .i64 4))) 28]
def f64r8:List AOp:=[oQ 2 (.assign (.const (.int .i64 0))) 28]
def f64:AFun:=⟨20,[(.tmp 2)],(.seq (.ops false f64r0) (.seq (.seq (.ops false f64r1) (.cond (.tmp 8) (.seq (.ops false f64r2) .ret) .skip)) (.seq (.seq (.ops false f64r3) (.seq (.ops false f64r4) (.cond (.tmp 15) (.seq (.ops false f64r5) .ret) .skip))) (.seq (.seq (.ops false f64r6) (.cond (.tmp 19) (.seq (.ops false f64r7) .ret) .skip)) (.seq (.ops false f64r8) .ret)))))⟩
def f65r0:List AOp:=[oQ 1 (.box 37 (oT 0)) 0,
 oQ 2 (.assign (.const (.slice none 0 0))) 100,
 oQ 3 (.assign (.const (.slice none 0 0))) 100]
def f65r1:List AOp:=[oQ 8 (.fieldAddr 37 (oT 1) 0) 0,
 oQ 9 (.load 35 (oT 8)) 35,
 oQ 10 (cB .len #[(oT 9)] #[35]) 3,
 oQ 11 (.makeSlice 100 (oT 10) (oT 10)) 100,
 oQ 12 (.fieldAddr 37 (oT 1) 0) 0,
 oQ 13 (.load 35 (oT 12)) 35,
 oQ 14 (cB .len #[(oT 13)] #[35]) 3,
 oQ 15 (.makeSlice 100 (oT 14) (oT 14)) 100,
 oA 4 11 100,
 oA 5 15 100]
def f65r2:List AOp:=[oQ 16 (.fieldAddr 37 (oT 1) 0) 0,
 oQ 17 (.load 35 (oT 16)) 35,
 oQ 18 (cB .len #[(oT 17)] #[35]) 3,
 oQ 19 (.move (.const (.int .i64 0))) 3]
def f65r3:List AOp:=[oQ 20 (.binOp .lss 3 (oT 19) (oT 18) 3) 0]
def f65r4:List AOp:=[oM 21 19 3,
 oQ 22 (.indexAddr 35 (oT 17) (oT 19)) 0,
 oQ 23 (.load 72 (oT 22)) 72,
 oQ 7 (.alloc 72) 0,
 oA 6 21 3,
 oN (.store 72 (oT 7) (oT 23)) 0]
def f65r5:List AOp:=[oQ 24 (.fieldAddr 72 (oT 7) 0) 0,
 oQ 25 (.load 3 (oT 24)) 3]
def f65r6:List AOp:=[oQ 27 (.binOp .eql 3 (oT 25) (.const (.int .i64 1)) 3) 4,
 oA 26 27 4]
def f65r7:List AOp:=[oM 28 4 100,
 oM 29 6 3,
 oM 30 5 100,
 oM 31 6 3,
 oQ 32 (.indexAddr 100 (oT 28) (oT 29)) 0,
 oN (.store 3 (oT 32) (.const (.int .i64 1))) 0,
 oQ 33 (.indexAddr 100 (oT 30) (oT 31)) 0,
 oN (.store 3 (oT 33) (.const (.int .i64 1))) 0]
def f65r8:List AOp:=[oQ 35 (.binOp .eql 3 (oT 25) (.const (.int .i64 12)) 3) 4,
 oA 34 35 4]
def f65r9:List AOp:=[oM 36 5 100,
 oM 37 6 3,
 oQ 38 (.indexAddr 100 (oT 36) (oT 37)) 0,
 oN (.store 3 (oT 38) (.const (.int .i64 (-1)))) 0]
def f65r10:List AOp:=[oQ 40 (.binOp .eql 3 (oT 25) (.const (.int .i64 8)) 3) 4,
 oA 39 40 4]
def f65r11:List AOp:=[oM 41 4 100,
 oM 42 6 3,
 oM 43 5 100,
 oM 44 6 3,
 oM 45 4 100,
 oQ 46 (.fieldAddr 72 (oT 7) 1) 0,
 oQ 47 (.load 3 (oT 46)) 3,
 oQ 48 (.indexAddr 100 (oT 45) (oT 47)) 0,
 oQ 49 (.load 3 (oT 48)) 3,
 oM 50 4 100,
 oQ 51 (.fieldAddr 72 (oT 7) 2) 0,
 oQ 52 (.load 3 (oT 51)) 3,
 oQ 53 (.indexAddr 100 (oT 50) (oT 52)) 0,
 oQ 54 (.load 3 (oT 53)) 3,
 oQ 55 (cF 99 #[(oT 49),(oT 54)] #[3,3]) 3,
 oM 56 5 100,
 oQ 57 (.fieldAddr 72 (oT 7) 1) 0,
 oQ 58 (.load 3 (oT 57)) 3,
 oQ 59 (.indexAddr 100 (oT 56) (oT 58)) 0,
 oQ 60 (.load 3 (oT 59)) 3,
 oM 61 5 100,
 oQ 62 (.fieldAddr 72 (oT 7) 2) 0,
 oQ 63 (.load 3 (oT 62)) 3,
 oQ 64 (.indexAddr 100 (oT 61) (oT 63)) 0,
 oQ 65 (.load 3 (oT 64)) 3,
 oQ 66 (cF 99 #[(oT 60),(oT 65)] #[3,3]) 3,
 oQ 67 (.indexAddr 100 (oT 41) (oT 42)) 0,
 oN (.store 3 (oT 67) (oT 55)) 0,
 oQ 68 (.indexAddr 100 (oT 43) (oT 44)) 0,
 oN (.store 3 (oT 68) (oT 66)) 0]
def f65r12:List AOp:=[oQ 70 (.binOp .eql 3 (oT 25) (.const (.int .i64 9)) 3) 4,
 oA 69 70 4]
def f65r13:List AOp:=[oM 71 4 100,
 oM 72 6 3,
 oM 73 5 100,
 oM 74 6 3,
 oM 75 4 100,
 oQ 76 (.fieldAddr 72 (oT 7) 1) 0,
 oQ 77 (.load 3 (oT 76)) 3,
 oQ 78 (.indexAddr 100 (oT 75) (oT 77)) 0,
 oQ 79 (.load 3 (oT 78)) 3,
 oM 80 4 100,
 oQ 81 (.fieldAddr 72 (oT 7) 2) 0,
 oQ 82 (.load 3 (oT 81)) 3,
 oQ 83 (.indexAddr 100 (oT 80) (oT 82)) 0,
 oQ 84 (.load 3 (oT 83)) 3,
 oQ 85 (cB .min #[(oT 79),(oT 84)] #[3,3]) 3,
 oM 86 5 100,
 oQ 87 (.fieldAddr 72 (oT 7) 1) 0,
 oQ 88 (.load 3 (oT 87)) 3,
 oQ 89 (.indexAddr 100 (oT 86) (oT 88)) 0,
 oQ 90 (.load 3 (oT 89)) 3,
 oM 91 5 100,
 oQ 92 (.fieldAddr 72 (oT 7) 2) 0,
 oQ 93 (.load 3 (oT 92)) 3,
 oQ 94 (.indexAddr 100 (oT 91) (oT 93)) 0,
 oQ 95 (.load 3 (oT 94)) 3,
 oQ 96 (cB .max #[(oT 90),(oT 95)] #[3,3]) 3,
 oQ 97 (.indexAddr 100 (oT 71) (oT 72)) 0,
 oN (.store 3 (oT 97) (oT 85)) 0,
 oQ 98 (.indexAddr 100 (oT 73) (oT 74)) 0,
 oN (.store 3 (oT 98) (oT 96)) 0]
def f65r14:List AOp:=[oM 99 5 100,
 oQ 100 (.fieldAddr 72 (oT 7) 1) 0,
 oQ 101 (.load 3 (oT 100)) 3,
 oQ 102 (.indexAddr 100 (oT 99) (oT 101)) 0,
 oQ 103 (.load 3 (oT 102)) 3,
 oM 104 5 100,
 oQ 105 (.fieldAddr 72 (oT 7) 2) 0,
 oQ 106 (.load 3 (oT 105)) 3,
 oQ 107 (.indexAddr 100 (oT 104) (oT 106)) 0,
 oQ 108 (.load 3 (oT 107)) 3,
 oQ 109 (cB .min #[(oT 103),(oT 108)] #[3,3]) 3,
 oQ 110 (.binOp .eql 3 (oT 109) (.const (.int .i64 (-1))) 3) 4]
def f65r15:List AOp:=[oM 111 5 100,
 oM 112 6 3,
 oQ 113 (.indexAddr 100 (oT 111) (oT 112)) 0,
 oN (.store 3 (oT 113) (.const (.int .i64 (-1)))) 0]
def f65r16:List AOp:=[oQ 115 (.binOp .eql 3 (oT 25) (.const (.int .i64 10)) 3) 4,
 oA 114 115 4]
def f65r17:List AOp:=[oM 116 4 100,
 oM 117 6 3,
 oM 118 5 100,
 oM 119 6 3,
 oM 120 4 100,
 oQ 121 (.fieldAddr 72 (oT 7) 1) 0,
 oQ 122 (.load 3 (oT 121)) 3,
 oQ 123 (.indexAddr 100 (oT 120) (oT 122)) 0,
 oQ 124 (.load 3 (oT 123)) 3,
 oQ 125 (.fieldAddr 72 (oT 7) 4) 0,
 oQ 126 (.load 3 (oT 125)) 3,
 oQ 127 (cF 100 #[(oT 124),(oT 126)] #[3,3]) 3,
 oM 128 5 100,
 oQ 129 (.fieldAddr 72 (oT 7) 1) 0,
 oQ 130 (.load 3 (oT 129)) 3,
 oQ 131 (.indexAddr 100 (oT 128) (oT 130)) 0,
 oQ 132 (.load 3 (oT 131)) 3,
 oQ 133 (.fieldAddr 72 (oT 7) 5) 0,
 oQ 134 (.load 3 (oT 133)) 3,
 oQ 135 (cF 100 #[(oT 132),(oT 134)] #[3,3]) 3,
 oQ 136 (.indexAddr 100 (oT 116) (oT 117)) 0,
 oN (.store 3 (oT 136) (oT 127)) 0,
 oQ 137 (.indexAddr 100 (oT 118) (oT 119)) 0,
 oN (.store 3 (oT 137) (oT 135)) 0]
def f65r18:List AOp:=[oQ 139 (.binOp .eql 3 (oT 25) (.const (.int .i64 11)) 3) 4,
 oA 138 139 4]
def f65r19:List AOp:=[oQ 140 (.binOp .eql 3 (oT 25) (.const (.int .i64 17)) 3) 4,
 oA 138 140 4]
def f65r20:List AOp:=[oM 141 4 100,
 oM 142 6 3,
 oM 143 5 100,
 oM 144 6 3,
 oM 145 4 100,
 oQ 146 (.fieldAddr 72 (oT 7) 1) 0,
 oQ 147 (.load 3 (oT 146)) 3,
 oQ 148 (.indexAddr 100 (oT 145) (oT 147)) 0,
 oQ 149 (.load 3 (oT 148)) 3,
 oM 150 5 100,
 oQ 151 (.fieldAddr 72 (oT 7) 1) 0,
 oQ 152 (.load 3 (oT 151)) 3,
 oQ 153 (.indexAddr 100 (oT 150) (oT 152)) 0,
 oQ 154 (.load 3 (oT 153)) 3,
 oQ 155 (.indexAddr 100 (oT 141) (oT 142)) 0,
 oN (.store 3 (oT 155) (oT 149)) 0,
 oQ 156 (.indexAddr 100 (oT 143) (oT 144)) 0,
 oN (.store 3 (oT 156) (oT 154)) 0]
def f65r21:List AOp:=[oQ 157 (.binOp .add 3 (oT 19) (.const (.int .i64 1)) 3) 3,
 oM 19 157 3]
def f65b0:AC:=(.seq (.ops false f65r3) (.seq (.cond (oT 20) .skip (.exit 0)) (.seq (.block 1 (.seq (.ops false f65r4) (.seq (.ops false f65r5) (.block 2 (.seq (.ops false f65r6) (.cond (oT 26) (.ops false f65r7) (.seq (.ops false f65r8) (.cond (oT 34) (.ops false f65r9) (.seq (.ops false f65r10) (.cond (oT 39) (.ops true f65r11) (.seq (.ops false f65r12) (.cond (oT 69) (.seq (.ops true f65r13) (.seq (.ops true f65r14) (.cond (oT 110) (.ops false f65r15) .skip))) (.seq (.ops false f65r16) (.cond (oT 114) (.ops true f65r17) (.seq (.seq (.ops false f65r18) (.cond (oT 138) .skip (.ops false f65r19))) (.cond (oT 138) (.ops true f65r20) .skip)))))))))))))))) (.ops false f65r21))))
def f65r22:List AOp:=[oM 158 4 100,
 oM 159 5 100,
 oA 2 158 100,
 oA 3 159 100]
def f65:AFun:=⟨160,[(.tmp 2),(.tmp 3)],(.seq (.ops false f65r0) (.seq (.ops true f65r1) (.seq (.seq (.ops false f65r2) (.block 0 (.loop [4,5,17,18,19] f65b0))) (.seq (.ops false f65r22) .ret))))⟩
def f66r0:List AOp:=[oQ 2 (.assign (.const (.int .i64 0))) 3]
def f66r1:List AOp:=[oM 3 0 3]
def f66r2:List AOp:=[oQ 5 (.binOp .eql 3 (oT 3) (.const (.int .i64 8)) 3) 4,
 oA 4 5 4]
def f66r3:List AOp:=[oQ 6 (.binOp .eql 3 (oT 3) (.const (.int .i64 9)) 3) 4,
 oA 4 6 4]
def f66r4:List AOp:=[oQ 2 (.assign (.const (.int .i64 2))) 3]
def f66r5:List AOp:=[oQ 8 (.binOp .eql 3 (oT 3) (.const (.int .i64 10)) 3) 4,
 oA 7 8 4]
def f66r6:List AOp:=[oQ 9 (.binOp .eql 3 (oT 3) (.const (.int .i64 11)) 3) 4,
 oA 7 9 4]
def f66r7:List AOp:=[oQ 10 (.binOp .eql 3 (oT 3) (.const (.int .i64 13)) 3) 4,
 oA 7 10 4]
def f66r8:List AOp:=[oQ 11 (.binOp .eql 3 (oT 3) (.const (.int .i64 14)) 3) 4,
 oA 7 11 4]
def f66r9:List AOp:=[oQ 12 (.binOp .eql 3 (oT 3) (.const (.int .i64 15)) 3) 4,
 oA 7 12 4]
def f66r10:List AOp:=[oQ 13 (.binOp .eql 3 (oT 3) (.const (.int .i64 16)) 3) 4,
 oA 7 13 4]
def f66r11:List AOp:=[oQ 14 (.binOp .eql 3 (oT 3) (.const (.int .i64 17)) 3) 4,
 oA 7 14 4]
def f66r12:List AOp:=[oQ 2 (.assign (.const (.int .i64 1))) 3]
def f66r13:List AOp:=[oQ 2 (.assign (.const (.int .i64 0))) 3]
def f66:AFun:=⟨15,[(.tmp 2)],(.seq (.ops false f66r0) (.seq (.seq (.ops false f66r1) (.block 0 (.seq (.seq (.ops false f66r2) (.cond (.tmp 4) .skip (.ops false f66r3))) (.cond (.tmp 4) (.seq (.ops false f66r4) .ret) (.seq (.seq (.ops false f66r5) (.cond (.tmp 7) .skip (.seq (.ops false f66r6) (.cond (.tmp 7) .skip (.seq (.ops false f66r7) (.cond (.tmp 7) .skip (.seq (.ops false f66r8) (.cond (.tmp 7) .skip (.seq (.ops false f66r9) (.cond (.tmp 7) .skip (.seq (.ops false f66r10) (.cond (.tmp 7) .skip (.ops false f66r11))))))))))))) (.cond (.tmp 7) (.seq (.ops false f66r12) .ret) .skip)))))) (.seq (.ops false f66r13) .ret)))⟩
def f68r0:List AOp:=[oQ 1 (.box 37 (oT 0)) 0,
 oQ 2 (.assign (.const (.bool false))) 4]
def f68r1:List AOp:=[oQ 13 (.load 37 (oT 1)) 37,
 oQ 14 (cF 62 #[(oT 13)] #[37]) 115,
 oM 12 14 115,
 oQ 15 (.extract (oT 12) 0) 100,
 oQ 16 (.extract (oT 12) 1) 4,
 oQ 3 (.alloc 100) 0,
 oN (.store 100 (oT 3) (oT 15)) 0,
 oA 4 16 4]
def f68r2:List AOp:=[oQ 5 (.alloc 100) 0]
def f68r3:List AOp:=[oQ 17 (.fieldAddr 37 (oT 1) 0) 0,
 oQ 18 (.load 35 (oT 17)) 35,
 oQ 19 (cB .len #[(oT 18)] #[35]) 3,
 oQ 20 (.move (.const (.int .i64 0))) 3]
def f68r4:List AOp:=[oQ 21 (.binOp .lss 3 (oT 20) (oT 19) 3) 0]
def f68r5:List AOp:=[oM 22 20 3,
 oQ 23 (.indexAddr 35 (oT 18) (oT 20)) 0,
 oQ 24 (.load 72 (oT 23)) 72,
 oQ 7 (.alloc 72) 0,
 oA 6 22 3,
 oN (.store 72 (oT 7) (oT 24)) 0]
def f68r6:List AOp:=[oQ 25 (.fieldAddr 72 (oT 7) 0) 0,
 oQ 26 (.load 3 (oT 25)) 3,
 oQ 27 (.binOp .eql 3 (oT 26) (.const (.int .i64 11)) 3) 4]
def f68r7:List AOp:=[oQ 28 (.load 100 (oT 5)) 100,
 oM 29 6 3,
 oQ 30 (.buildSlice 100 1 #[(0,(oT 29))]) 100,
 oQ 31 (cB .append #[(oT 28),(oT 30)] #[100,100]) 100,
 oN (.store 100 (oT 5) (oT 31)) 0]
def f68r8:List AOp:=[oQ 32 (.binOp .add 3 (oT 20) (.const (.int .i64 1)) 3) 3,
 oM 20 32 3]
def f68b0:AC:=(.seq (.ops false f68r4) (.seq (.cond (oT 21) .skip (.exit 0)) (.seq (.block 1 (.seq (.ops false f68r5) (.seq (.ops false f68r6) (.cond (oT 27) (.ops false f68r7) .skip)))) (.ops false f68r8))))
def f68r9:List AOp:=[oQ 33 (.makeFunc (.func 102) #[] #[(oT 3)]) 99,
 oQ 8 (.alloc 99) 0,
 oN (.store 99 (oT 8) (oT 33)) 0]
def f68r10:List AOp:=[oQ 34 (.load 100 (oT 5)) 100,
 oQ 35 (.makeFunc (.func 104) #[] #[(oT 8),(oT 3)]) 151,
 oQ 36 (cF 103 #[(oT 34),(oT 35)] #[100,151]) 0]
def f68r11:List AOp:=[oQ 37 (.load 100 (oT 5)) 100,
 oQ 38 (cB .len #[(oT 37)] #[100]) 3,
 oQ 39 (.move (.const (.int .i64 0))) 3]
def f68r12:List AOp:=[oQ 40 (.binOp .lss 3 (oT 39) (oT 38) 3) 0]
def f68r13:List AOp:=[oM 41 39 3,
 oQ 42 (.indexAddr 100 (oT 37) (oT 39)) 0,
 oQ 43 (.load 3 (oT 42)) 3,
 oA 9 41 3,
 oA 10 43 3]
def f68r14:List AOp:=[oQ 44 (.fieldAddr 37 (oT 1) 0) 0,
 oQ 45 (.load 35 (oT 44)) 35,
 oM 46 10 3,
 oQ 47 (.indexAddr 35 (oT 45) (oT 46)) 0,
 oQ 48 (.fieldAddr 72 (oT 47) 7) 0,
 oQ 49 (.load 3 (oT 48)) 3,
 oM 50 9 3,
 oQ 51 (.binOp .add 3 (oT 50) (.const (.int .i64 1)) 3) 3,
 oQ 52 (.binOp .neq 3 (oT 49) (oT 51) 3) 4]
def f68r15:List AOp:=[oQ 2 (.assign (.const (.bool false))) 4]
def f68r16:List AOp:=[oQ 53 (.binOp .add 3 (oT 39) (.const (.int .i64 1)) 3) 3,
 oM 39 53 3]
def f68b1:AC:=(.seq (.ops false f68r12) (.seq (.cond (oT 40) .skip (.exit 2)) (.seq (.block 3 (.seq (.ops false f68r13) (.seq (.ops false f68r14) (.cond (oT 52) (.seq (.ops false f68r15) .ret) .skip)))) (.ops false f68r16))))
def f68r17:List AOp:=[oQ 54 (.makeFunc (.func 105) #[] #[(oT 5)]) 158,
 oA 11 54 158]
def f68r18p0:List AOp:=[oQ 55 (.load 100 (oT 5)) 100,
 oQ 56 (cB .len #[(oT 55)] #[100]) 3,
 oQ 57 (.binOp .leq 3 (oT 56) (.const (.int .i64 9)) 3) 4,
 oM 58 57 4,
 oG 59 (.fieldAddr 37 (oT 1) 0) 0 58 true,
 oG 60 (.load 35 (oT 59)) 35 58 true,
 oG 61 (.move (oT 11)) 158 58 true,
 oG 62 (cF 106 #[(oT 60),(oT 61)] #[35,158]) 4 58 true,
 oG 63 (.unOp .not 4 (oT 62)) 4 58 true,
 oQ 64 (.pick (oT 58) (oT 63) (.const (.bool false))) 4]
def f68r18p1:List AOp:=[oA 2 64 4]
def f68r18:List AOp:=f68r18p0 ++ f68r18p1
def f68:AFun:=⟨65,[(.tmp 2)],(.seq (.ops false f68r0) (.seq (.ops false f68r1) (.seq (.ops false f68r2) (.seq (.seq (.ops false f68r3) (.block 0 (.loop [1,3,5,18,19,20] f68b0))) (.seq (.ops false f68r9) (.seq (.ops false f68r10) (.seq (.seq (.ops false f68r11) (.block 2 (.loop [1,5,37,38,39] f68b1))) (.seq (.ops false f68r17) (.seq (.ops false f68r18) .ret)))))))))⟩
noncomputable def f72:AFun:=⟨35,[(.tmp 2)],cvF Tryz.f72 (.seq hO (.seq hO (.seq hO (.seq hO (.seq hO (.seq hO (.seq hO (.seq hO .ret))))))))⟩
noncomputable def f73:AFun:=⟨14,[(.tmp 2),(.tmp 3)],cvF Tryz.f73 (.seq hO (.seq hO (.seq hO (.seq (.seq hO (hC (.seq hO .ret) .skip)) (.seq hO .ret)))))⟩
noncomputable def f74:AFun:=⟨68,[(.cell 2 33),(.tmp 3),(.tmp 4)],cvF Tryz.f74 (.seq hO (.seq (.seq hO (hC (.seq hO .ret) .skip)) (.seq (.seq hO (.block 0 (.loop [0,2,14,15] (.seq hO (.seq (hC .skip (.exit 0)) (.seq (.block 1 (.seq hO (.seq hO (hC (.seq hO .ret) .skip)))) hO)))))) (.seq hO (.seq (.seq hO (.block 2 (.loop [2,7,30] (.seq hO (.seq (hC .skip (.exit 2)) (.block 3 (.seq hO (.seq (.block 4 (.seq hO (hC (.seq hO .ret) (.seq hO (hC (.seq hO .ret) .skip))))) hO)))))))) (.seq hO .ret))))))⟩
noncomputable def f75:AFun:=⟨68,[(.cell 2 33),(.tmp 3),(.tmp 4)],cvF Tryz.f75 (.seq hO (.seq hO (.seq (.seq hO (.block 0 (.seq hO (hC hO (.seq hO (hC hO (.seq hO (hC (.seq hO (.block 1 (.seq hO (hC (.seq hO .ret) (.seq hO (hC (.seq hO .ret) (.seq hO (hC (.seq hO .ret) .skip)))))))) .skip)))))))) (.seq (.block 2 (.seq hO (hC (.seq hO hO) (.seq hO (hC (.seq hO hO) .skip))))) (.seq hO .ret)))))⟩
noncomputable def f76:AFun:=⟨75,[(.cell 4 25),(.tmp 5),(.tmp 6)],cvF Tryz.f76 (.seq hO (.scope (.seq (.seq hO (hC (.seq hO .ret) .skip)) (.seq hO (.seq hO (.seq hO (.seq (.seq hO (hC hO .skip)) (.seq hO (.seq .skip (.seq (.block 0 (.loop [0,4,7,8,9,10] (.block 1 (.seq (.seq hO (hC (.exit 0) .skip)) (.seq hO (.seq (.seq hO (hC (.seq hO .ret) .skip)) (.seq hO hO))))))) (.seq (.seq hO (hC hO .skip)) (.seq hO .ret))))))))))))⟩
noncomputable def f77:AFun:=⟨43,[(.cell 2 33),(.tmp 3),(.tmp 4)],cvF Tryz.f77 (.seq hO (.seq hO (.seq (.block 0 (.seq hO (hC (.seq hO .ret) (.seq hO (hC (.seq hO .ret) (.seq hO (hC (.seq hO .ret) .skip))))))) (.seq hO (.seq (.seq hO (hC (.seq hO .ret) .skip)) (.seq hO .ret))))))⟩
noncomputable def f78:AFun:=⟨18,[],cvF Tryz.f78 hO⟩
def f79r0:List AOp:=[oQ 2 (.box 72 (oT 0)) 0,
 oQ 4 (.assign (.const (.int .i64 0))) 3]
def f79r1:List AOp:=[oQ 6 (.fieldAddr 72 (oT 2) 4) 0,
 oQ 7 (.load 3 (oT 6)) 3,
 oM 8 1 3,
 oQ 9 (.binOp .add 3 (oT 7) (oT 8) 3) 3,
 oA 5 9 3]
def f79r2:List AOp:=[oQ 10 (.fieldAddr 72 (oT 2) 5) 0,
 oQ 11 (.load 3 (oT 10)) 3,
 oQ 12 (.binOp .neq 3 (oT 11) (.const (.int .i64 (-1))) 3) 4]
def f79r3:List AOp:=[oM 13 5 3,
 oQ 14 (.fieldAddr 72 (oT 2) 5) 0,
 oQ 15 (.load 3 (oT 14)) 3,
 oQ 16 (cB .min #[(oT 13),(oT 15)] #[3,3]) 3,
 oA 5 16 3]
def f79r4:List AOp:=[oM 17 5 3,
 oQ 18 (.binOp .add 3 (oT 17) (.const (.int .i64 1)) 3) 3,
 oA 4 18 3]
def f79:AFun:=⟨19,[(.tmp 4)],(.seq (.ops false f79r0) (.seq (.ops false f79r1) (.seq (.seq (.ops false f79r2) (.cond (.tmp 12) (.ops false f79r3) .skip)) (.seq (.ops false f79r4) .ret))))⟩
def f80r0:List AOp:=[oQ 2 (.assign (.const (.int .i64 0))) 28]
def f80r1:List AOp:=[oM 3 0 39,
 oQ 4 (cB .len #[(oT 3)] #[39]) 3,
 oQ 5 (.binOp .gtr 3 (oT 4) (.const (.int .i64 500)) 3) 4]
def f80r2:List AOp:=[oQ 2 (.assign (.const (.int .i64 4))) 28]
def f80r3:List AOp:=[oM 6 0 39,
 oQ 7 (cF 116 #[(oT 6)] #[39]) 3,
 oQ 8 (.binOp .eql 3 (oT 7) (.const (.int .i64 0)) 3) 4]
def f80r4:List AOp:=[oQ 2 (.assign (.const (.int .i64 3))) 28]
def f80r5:List AOp:=[oM 9 0 39,
 oQ 10 (cF 116 #[(oT 9)] #[39]) 3,
 oQ 11 (.binOp .gtr 3 (oT 10) (.const (.int .i64 40)) 3) 4]
def f80r6:List AOp:=[oQ 2 (.assign (.const (.int .i64 4))) 28]
def f80r7:List AOp:=[oQ 2 (.assign (.const (.int .i64 0))) 28]
def f80:AFun:=⟨12,[(.tmp 2)],(.seq (.ops false f80r0) (.seq (.seq (.ops false f80r1) (.cond (.tmp 5) (.seq (.ops false f80r2) .ret) .skip)) (.seq (.seq (.ops false f80r3) (.cond (.tmp 8) (.seq (.ops false f80r4) .ret) .skip)) (.seq (.seq (.ops false f80r5) (.cond (.tmp 11) (.seq (.ops false f80r6) .ret) .skip)) (.seq (.ops false f80r7) .ret)))))⟩
def f81r0:List AOp:=[oQ 4 (.assign (.const (.slice none 0 0))) 100]
def f81r1:List AOp:=[oQ 7 (.buildSlice 100 0 #[]) 100,
 oA 5 7 100]
def f81r2:List AOp:=[oM 8 0 39,
 oM 9 1 3,
 oQ 10 (.indexAddr 39 (oT 8) (oT 9)) 0,
 oQ 11 (.fieldAddr 97 (oT 10) 0) 0,
 oQ 12 (.load 3 (oT 11)) 3,
 oQ 13 (.binOp .eql 3 (oT 12) (.const (.int .i64 11)) 3) 4]
def f81r3:List AOp:=[oM 14 5 100,
 oM 15 0 39,
 oM 16 1 3,
 oQ 17 (.indexAddr 39 (oT 15) (oT 16)) 0,
 oQ 18 (.fieldAddr 97 (oT 17) 7) 0,
 oQ 19 (.load 3 (oT 18)) 3,
 oQ 20 (.buildSlice 100 1 #[(0,(oT 19))]) 100,
 oQ 21 (cB .append #[(oT 14),(oT 20)] #[100,100]) 100,
 oA 5 21 100]
def f81r4:List AOp:=[oM 22 0 39,
 oM 23 1 3,
 oQ 24 (.indexAddr 39 (oT 22) (oT 23)) 0,
 oQ 25 (.fieldAddr 97 (oT 24) 0) 0,
 oQ 26 (.load 3 (oT 25)) 3,
 oQ 27 (cF 83 #[(oT 26)] #[3]) 3,
 oA 6 27 3]
def f81r5:List AOp:=[oM 28 6 3,
 oQ 29 (.binOp .geq 3 (oT 28) (.const (.int .i64 1)) 3) 4]
def f81r6:List AOp:=[oM 30 5 100,
 oM 31 0 39,
 oM 32 0 39,
 oM 33 1 3,
 oQ 34 (.indexAddr 39 (oT 32) (oT 33)) 0,
 oQ 35 (.fieldAddr 97 (oT 34) 1) 0,
 oQ 36 (.load 3 (oT 35)) 3,
 oQ 37 (cF 81 #[(oT 31),(oT 36)] #[39,3]) 100,
 oQ 38 (cB .append #[(oT 30),(oT 37)] #[100,100]) 100,
 oA 5 38 100]
def f81r7:List AOp:=[oM 39 6 3,
 oQ 40 (.binOp .eql 3 (oT 39) (.const (.int .i64 2)) 3) 4]
def f81r8:List AOp:=[oM 41 5 100,
 oM 42 0 39,
 oM 43 0 39,
 oM 44 1 3,
 oQ 45 (.indexAddr 39 (oT 43) (oT 44)) 0,
 oQ 46 (.fieldAddr 97 (oT 45) 2) 0,
 oQ 47 (.load 3 (oT 46)) 3,
 oQ 48 (cF 81 #[(oT 42),(oT 47)] #[39,3]) 100,
 oQ 49 (cB .append #[(oT 41),(oT 48)] #[100,100]) 100,
 oA 5 49 100]
def f81r9:List AOp:=[oM 50 5 100,
 oA 4 50 100]
def f81:AFun:=⟨51,[(.tmp 4)],(.seq (.ops false f81r0) (.seq (.ops false f81r1) (.seq (.seq (.ops false f81r2) (.cond (.tmp 13) (.ops false f81r3) .skip)) (.seq (.ops false f81r4) (.seq (.seq (.ops false f81r5) (.cond (.tmp 29) (.ops false f81r6) .skip)) (.seq (.seq (.ops false f81r7) (.cond (.tmp 40) (.ops false f81r8) .skip)) (.seq (.ops false f81r9) .ret)))))))⟩
def f82r0:List AOp:=[oQ 4 (.assign (.const (.int .i64 0))) 3,
 oQ 5 (.assign (.const (.int .i64 0))) 3]
def f82r1:List AOp:=[oM 13 0 39,
 oM 14 1 3,
 oQ 15 (.indexAddr 39 (oT 13) (oT 14)) 0,
 oQ 16 (.load 97 (oT 15)) 97,
 oQ 6 (.alloc 97) 0,
 oN (.store 97 (oT 6) (oT 16)) 0]
def f82r2:List AOp:=[oQ 17 (.fieldAddr 97 (oT 6) 0) 0,
 oQ 18 (.load 3 (oT 17)) 3]
def f82r3:List AOp:=[oQ 20 (.binOp .eql 3 (oT 18) (.const (.int .i64 1)) 3) 4,
 oA 19 20 4]
def f82r4:List AOp:=[oQ 4 (.assign (.const (.int .i64 1))) 3,
 oQ 5 (.assign (.const (.int .i64 1))) 3]
def f82r5:List AOp:=[oQ 22 (.binOp .eql 3 (oT 18) (.const (.int .i64 12)) 3) 4,
 oA 21 22 4]
def f82r6:List AOp:=[oQ 4 (.assign (.const (.int .i64 0))) 3,
 oQ 5 (.assign (.const (.int .i64 (-1)))) 3]
def f82r7:List AOp:=[oQ 24 (.binOp .eql 3 (oT 18) (.const (.int .i64 8)) 3) 4,
 oA 23 24 4]
def f82r8:List AOp:=[oQ 25 (.binOp .eql 3 (oT 18) (.const (.int .i64 9)) 3) 4,
 oA 23 25 4]
def f82r9:List AOp:=[oM 27 0 39,
 oQ 28 (.fieldAddr 97 (oT 6) 1) 0,
 oQ 29 (.load 3 (oT 28)) 3,
 oQ 30 (cF 82 #[(oT 27),(oT 29)] #[39,3]) 136,
 oM 26 30 136,
 oQ 31 (.extract (oT 26) 0) 3,
 oQ 32 (.extract (oT 26) 1) 3,
 oA 7 31 3,
 oA 8 32 3]
def f82r10:List AOp:=[oM 34 0 39,
 oQ 35 (.fieldAddr 97 (oT 6) 2) 0,
 oQ 36 (.load 3 (oT 35)) 3,
 oQ 37 (cF 82 #[(oT 34),(oT 36)] #[39,3]) 136,
 oM 33 37 136,
 oQ 38 (.extract (oT 33) 0) 3,
 oQ 39 (.extract (oT 33) 1) 3,
 oA 9 38 3,
 oA 10 39 3]
def f82r11:List AOp:=[oQ 40 (.fieldAddr 97 (oT 6) 0) 0,
 oQ 41 (.load 3 (oT 40)) 3,
 oQ 42 (.binOp .eql 3 (oT 41) (.const (.int .i64 8)) 3) 4]
def f82r12:List AOp:=[oM 43 7 3,
 oM 44 9 3,
 oQ 45 (cF 117 #[(oT 43),(oT 44)] #[3,3]) 3,
 oM 46 8 3,
 oM 47 10 3,
 oQ 48 (cF 117 #[(oT 46),(oT 47)] #[3,3]) 3,
 oA 4 45 3,
 oA 5 48 3]
def f82r13:List AOp:=[oM 49 8 3,
 oQ 50 (.binOp .lss 3 (oT 49) (.const (.int .i64 0)) 3) 4,
 oM 51 50 4,
 oG 52 (.move (oT 10)) 3 51 false,
 oG 53 (.binOp .lss 3 (oT 52) (.const (.int .i64 0)) 3) 4 51 false,
 oQ 54 (.pick (oT 51) (.const (.bool true)) (oT 53)) 4]
def f82r14:List AOp:=[oM 55 7 3,
 oM 56 9 3,
 oQ 57 (cB .min #[(oT 55),(oT 56)] #[3,3]) 3,
 oA 4 57 3,
 oQ 5 (.assign (.const (.int .i64 (-1)))) 3]
def f82r15:List AOp:=[oM 58 7 3,
 oM 59 9 3,
 oQ 60 (cB .min #[(oT 58),(oT 59)] #[3,3]) 3,
 oM 61 8 3,
 oM 62 10 3,
 oQ 63 (cB .max #[(oT 61),(oT 62)] #[3,3]) 3,
 oA 4 60 3,
 oA 5 63 3]
def f82r16:List AOp:=[oQ 65 (.binOp .eql 3 (oT 18) (.const (.int .i64 10)) 3) 4,
 oA 64 65 4]
def f82r17:List AOp:=[oM 67 0 39,
 oQ 68 (.fieldAddr 97 (oT 6) 1) 0,
 oQ 69 (.load 3 (oT 68)) 3,
 oQ 70 (cF 82 #[(oT 67),(oT 69)] #[39,3]) 136,
 oM 66 70 136,
 oQ 71 (.extract (oT 66) 0) 3,
 oQ 72 (.extract (oT 66) 1) 3,
 oA 11 71 3,
 oA 12 72 3]
def f82r18:List AOp:=[oM 73 11 3,
 oQ 74 (.fieldAddr 97 (oT 6) 4) 0,
 oQ 75 (.load 3 (oT 74)) 3,
 oQ 76 (cF 118 #[(oT 73),(oT 75)] #[3,3]) 3,
 oM 77 12 3,
 oQ 78 (.fieldAddr 97 (oT 6) 5) 0,
 oQ 79 (.load 3 (oT 78)) 3,
 oQ 80 (cF 118 #[(oT 77),(oT 79)] #[3,3]) 3,
 oA 4 76 3,
 oA 5 80 3]
def f82r19:List AOp:=[oQ 82 (.binOp .eql 3 (oT 18) (.const (.int .i64 11)) 3) 4,
 oA 81 82 4]
def f82r20:List AOp:=[oQ 83 (.binOp .eql 3 (oT 18) (.const (.int .i64 17)) 3) 4,
 oA 81 83 4]
def f82r21:List AOp:=[oM 84 0 39,
 oQ 85 (.fieldAddr 97 (oT 6) 1) 0,
 oQ 86 (.load 3 (oT 85)) 3,
 oQ 87 (cF 82 #[(oT 84),(oT 86)] #[39,3]) 136,
 oQ 88 (.extract (oT 87) 0) 3,
 oQ 89 (.extract (oT 87) 1) 3,
 oA 4 88 3,
 oA 5 89 3]
def f82r22:List AOp:=[oQ 4 (.assign (.const (.int .i64 0))) 3,
 oQ 5 (.assign (.const (.int .i64 0))) 3]
def f82:AFun:=⟨90,[(.tmp 4),(.tmp 5)],(.seq (.ops false f82r0) (.seq (.ops false f82r1) (.seq (.seq (.ops false f82r2) (.block 0 (.seq (.ops false f82r3) (.cond (.tmp 19) (.seq (.ops false f82r4) .ret) (.seq (.ops false f82r5) (.cond (.tmp 21) (.seq (.ops false f82r6) .ret) (.seq (.seq (.ops false f82r7) (.cond (.tmp 23) .skip (.ops false f82r8))) (.cond (.tmp 23) (.seq (.ops false f82r9) (.seq (.ops false f82r10) (.seq (.seq (.ops false f82r11) (.cond (.tmp 42) (.seq (.ops false f82r12) .ret) .skip)) (.seq (.seq (.ops false f82r13) (.cond (.tmp 54) (.seq (.ops false f82r14) .ret) .skip)) (.seq (.ops false f82r15) .ret))))) (.seq (.ops false f82r16) (.cond (.tmp 64) (.seq (.ops false f82r17) (.seq (.ops true f82r18) .ret)) (.seq (.seq (.ops false f82r19) (.cond (.tmp 81) .skip (.ops false f82r20))) (.cond (.tmp 81) (.seq (.ops false f82r21) .ret) .skip)))))))))))) (.seq (.ops false f82r22) .ret))))⟩
def f83r0:List AOp:=[oQ 2 (.assign (.const (.int .i64 0))) 3]
def f83r1:List AOp:=[oM 3 0 3,
 oQ 4 (.binOp .eql 3 (oT 3) (.const (.int .i64 8)) 3) 4,
 oM 5 4 4,
 oG 6 (.move (oT 0)) 3 5 false,
 oG 7 (.binOp .eql 3 (oT 6) (.const (.int .i64 9)) 3) 4 5 false,
 oQ 8 (.pick (oT 5) (.const (.bool true)) (oT 7)) 4]
def f83r2:List AOp:=[oQ 2 (.assign (.const (.int .i64 2))) 3]
def f83r3p0:List AOp:=[oM 9 0 3,
 oQ 10 (.binOp .eql 3 (oT 9) (.const (.int .i64 10)) 3) 4,
 oM 11 10 4,
 oG 12 (.move (oT 0)) 3 11 false,
 oG 13 (.binOp .eql 3 (oT 12) (.const (.int .i64 11)) 3) 4 11 false,
 oQ 14 (.pick (oT 11) (.const (.bool true)) (oT 13)) 4]
def f83r3p1:List AOp:=[oM 15 14 4,
 oG 16 (.move (oT 0)) 3 15 false,
 oG 17 (.binOp .geq 3 (oT 16) (.const (.int .i64 13)) 3) 4 15 false,
 oG 18 (.move (oT 17)) 4 15 false,
 oG 19 (.move (oT 0)) 3 18 true,
 oG 20 (.binOp .leq 3 (oT 19) (.const (.int .i64 17)) 3) 4 18 true,
 oG 21 (.pick (oT 18) (oT 20) (.const (.bool false))) 4 15 false,
 oQ 22 (.pick (oT 15) (.const (.bool true)) (oT 21)) 4]
def f83r3:List AOp:=f83r3p0 ++ f83r3p1
def f83r4:List AOp:=[oQ 2 (.assign (.const (.int .i64 1))) 3]
def f83r5:List AOp:=[oQ 2 (.assign (.const (.int .i64 0))) 3]
def f83:AFun:=⟨23,[(.tmp 2)],(.seq (.ops false f83r0) (.seq (.seq (.ops false f83r1) (.cond (.tmp 8) (.seq (.ops false f83r2) .ret) .skip)) (.seq (.seq (.ops false f83r3) (.cond (.tmp 22) (.seq (.ops false f83r4) .ret) .skip)) (.seq (.ops false f83r5) .ret))))⟩
def f84r0:List AOp:=[oQ 2 (.assign (.const (.float .f64 0))) 44]
def f84r1:List AOp:=[oM 3 0 44,
 oQ 4 (cF 119 #[(oT 3)] #[44]) 22,
 oQ 5 (.binOp .andNot 22 (oT 4) (.const (.int .u64 9223372036854775808)) 22) 22,
 oQ 6 (cF 85 #[(oT 5)] #[22]) 44,
 oA 2 6 44]
def f84:AFun:=⟨7,[(.tmp 2)],(.seq (.ops false f84r0) (.seq (.ops false f84r1) .ret))⟩
noncomputable def f88:AFun:=⟨3,[(.cell 0 25)],cvF Tryz.f88 (.seq hO (.seq hO .ret))⟩
noncomputable def f96:AFun:=⟨18,[(.tmp 4)],cvF Tryz.f96 (.seq hO (.seq hO .ret))⟩
def f97r0:List AOp:=[oQ 1 (.box 72 (oT 0)) 0,
 oQ 2 (.assign (.const (.bool false))) 4]
def f97r1p0:List AOp:=[oQ 3 (.fieldAddr 72 (oT 1) 0) 0,
 oQ 4 (.load 3 (oT 3)) 3,
 oQ 5 (.binOp .lss 3 (oT 4) (.const (.int .i64 0)) 3) 4,
 oM 6 5 4,
 oG 7 (.fieldAddr 72 (oT 1) 0) 0 6 false,
 oG 8 (.load 3 (oT 7)) 3 6 false,
 oG 9 (.binOp .geq 3 (oT 8) (.const (.int .i64 18)) 3) 4 6 false,
 oQ 10 (.pick (oT 6) (.const (.bool true)) (oT 9)) 4]
def f97r1p1:List AOp:=[oM 11 10 4,
 oG 12 (.load 72 (oT 1)) 72 11 false,
 oG 13 (cF 124 #[(oT 12)] #[72]) 72 11 false,
 oG 14 (.load 72 (oT 1)) 72 11 false,
 oG 15 (cF 125 #[(oT 14)] #[72]) 72 11 false,
 oG 16 (cF 124 #[(oT 15)] #[72]) 72 11 false,
 oG 17 (.binOp .neq 72 (oT 13) (oT 16) 72) 4 11 false,
 oQ 18 (.pick (oT 11) (.const (.bool true)) (oT 17)) 4]
def f97r1:List AOp:=f97r1p0 ++ f97r1p1
def f97r2:List AOp:=[oQ 2 (.assign (.const (.bool false))) 4]
def f97r3:List AOp:=[oQ 19 (.fieldAddr 72 (oT 1) 0) 0,
 oQ 20 (.load 3 (oT 19)) 3,
 oQ 21 (.binOp .neq 3 (oT 20) (.const (.int .i64 10)) 3) 4]
def f97r4:List AOp:=[oQ 2 (.assign (.const (.bool true))) 4]
def f97r5p0:List AOp:=[oQ 22 (.fieldAddr 72 (oT 1) 4) 0,
 oQ 23 (.load 3 (oT 22)) 3,
 oQ 24 (.binOp .geq 3 (oT 23) (.const (.int .i64 0)) 3) 4,
 oM 25 24 4,
 oG 26 (.fieldAddr 72 (oT 1) 4) 0 25 true,
 oG 27 (.load 3 (oT 26)) 3 25 true,
 oG 28 (.binOp .leq 3 (oT 27) (.const (.int .i64 100)) 3) 4 25 true,
 oQ 29 (.pick (oT 25) (oT 28) (.const (.bool false))) 4]
def f97r5p1:List AOp:=[oM 30 29 4,
 oG 31 (.fieldAddr 72 (oT 1) 5) 0 30 true,
 oG 32 (.load 3 (oT 31)) 3 30 true,
 oG 33 (.binOp .eql 3 (oT 32) (.const (.int .i64 (-1))) 3) 4 30 true,
 oG 34 (.move (oT 33)) 4 30 true,
 oG 35 (.fieldAddr 72 (oT 1) 5) 0 34 false,
 oG 36 (.load 3 (oT 35)) 3 34 false,
 oG 37 (.fieldAddr 72 (oT 1) 4) 0 34 false,
 oG 38 (.load 3 (oT 37)) 3 34 false,
 oG 39 (.binOp .geq 3 (oT 36) (oT 38) 3) 4 34 false,
 oG 40 (.move (oT 39)) 4 34 false,
 oG 41 (.fieldAddr 72 (oT 1) 5) 0 40 true,
 oG 42 (.load 3 (oT 41)) 3 40 true,
 oG 43 (.binOp .leq 3 (oT 42) (.const (.int .i64 100)) 3) 4 40 true,
 oG 44 (.pick (oT 40) (oT 43) (.const (.bool false))) 4 34 false,
 oG 45 (.pick (oT 34) (.const (.bool true)) (oT 44)) 4 30 true,
 oQ 46 (.pick (oT 30) (oT 45) (.const (.bool false))) 4]
def f97r5p2:List AOp:=[oM 47 46 4,
 oG 48 (.fieldAddr 72 (oT 1) 6) 0 47 true,
 oG 49 (.load 3 (oT 48)) 3 47 true,
 oG 50 (.binOp .geq 3 (oT 49) (.const (.int .i64 0)) 3) 4 47 true,
 oQ 51 (.pick (oT 47) (oT 50) (.const (.bool false))) 4]
def f97r5p3:List AOp:=[oM 52 51 4,
 oG 53 (.fieldAddr 72 (oT 1) 6) 0 52 true,
 oG 54 (.load 3 (oT 53)) 3 52 true,
 oG 55 (.binOp .leq 3 (oT 54) (.const (.int .i64 2)) 3) 4 52 true,
 oQ 56 (.pick (oT 52) (oT 55) (.const (.bool false))) 4]
def f97r5p4:List AOp:=[oA 2 56 4]
def f97r5:List AOp:=f97r5p0 ++ (f97r5p1 ++ (f97r5p2 ++ (f97r5p3 ++ f97r5p4)))
def f97:AFun:=⟨57,[(.tmp 2)],(.seq (.ops false f97r0) (.seq (.seq (.ops true f97r1) (.cond (.tmp 18) (.seq (.ops false f97r2) .ret) .skip)) (.seq (.seq (.ops false f97r3) (.cond (.tmp 21) (.seq (.ops false f97r4) .ret) .skip)) (.seq (.ops false f97r5) .ret))))⟩
def f98r0:List AOp:=[oQ 2 (.assign (.const (.int .i64 0))) 3]
def f98r1:List AOp:=[oM 5 0 100,
 oQ 6 (cB .len #[(oT 5)] #[100]) 3,
 oQ 7 (.binOp .lss 3 (oT 6) (.const (.int .i64 1)) 3) 4]
def f98r2:List AOp:=[oQ 8 (.makeInterface 9 (.const (.string { data:=#[115,108,105,99,101,115,46,77,97,120,58,32,101,109,112,116,121,32,108,105,115,116] }))) 20,
 oN (.panic (oT 8)) 0]
def f98r3:List AOp:=[oM 9 0 100,
 oQ 10 (.indexAddr 100 (oT 9) (.const (.int .i64 0))) 0,
 oQ 11 (.load 3 (oT 10)) 3,
 oA 3 11 3]
def f98r4:List AOp:=[oQ 4 (.assign (.const (.int .i64 1))) 3]
def f98r5:List AOp:=[oM 12 4 3,
 oM 13 0 100,
 oQ 14 (cB .len #[(oT 13)] #[100]) 3,
 oQ 15 (.binOp .lss 3 (oT 12) (oT 14) 3) 4]
def f98r7:List AOp:=[oM 18 3 3,
 oM 19 0 100,
 oM 20 4 3,
 oQ 21 (.indexAddr 100 (oT 19) (oT 20)) 0,
 oQ 22 (.load 3 (oT 21)) 3,
 oQ 23 (cB .max #[(oT 18),(oT 22)] #[3,3]) 3,
 oA 3 23 3]
def f98r6:List AOp:=[oM 16 4 3,
 oQ 17 (.binOp .add 3 (oT 16) (.const (.int .i64 1)) 3) 3,
 oA 4 17 3]
def f98b0:AC:=(.seq (.seq (.ops false f98r5) (.cond (oT 15) .skip (.exit 0))) (.seq (.block 1 (.ops false f98r7)) (.ops false f98r6)))
def f98r8:List AOp:=[oM 24 3 3,
 oA 2 24 3]
def f98:AFun:=⟨25,[(.tmp 2)],(.seq (.ops false f98r0) (.seq (.seq (.ops false f98r1) (.cond (.tmp 7) (.ops false f98r2) .skip)) (.seq (.ops false f98r3) (.seq (.seq (.ops false f98r4) (.block 0 (.loop [0,3,4] f98b0))) (.seq (.ops false f98r8) .ret)))))⟩
def f99r0:List AOp:=[oQ 4 (.assign (.const (.int .i64 0))) 3]
def f99r1:List AOp:=[oM 5 0 3,
 oQ 6 (.binOp .eql 3 (oT 5) (.const (.int .i64 (-1))) 3) 4,
 oM 7 6 4,
 oG 8 (.move (oT 1)) 3 7 false,
 oG 9 (.binOp .eql 3 (oT 8) (.const (.int .i64 (-1))) 3) 4 7 false,
 oQ 10 (.pick (oT 7) (.const (.bool true)) (oT 9)) 4]
def f99r2:List AOp:=[oQ 4 (.assign (.const (.int .i64 (-1)))) 3]
def f99r3:List AOp:=[oM 11 0 3,
 oM 12 1 3,
 oQ 13 (.binOp .add 3 (oT 11) (oT 12) 3) 3,
 oQ 14 (cB .min #[(oT 13),(.const (.int .i64 1048576))] #[3,3]) 3,
 oA 4 14 3]
def f99:AFun:=⟨15,[(.tmp 4)],(.seq (.ops false f99r0) (.seq (.seq (.ops false f99r1) (.cond (.tmp 10) (.seq (.ops false f99r2) .ret) .skip)) (.seq (.ops false f99r3) .ret)))⟩
def f100r0:List AOp:=[oQ 4 (.assign (.const (.int .i64 0))) 3]
def f100r1p0:List AOp:=[oM 6 0 3,
 oQ 7 (.binOp .eql 3 (oT 6) (.const (.int .i64 0)) 3) 4,
 oM 8 7 4,
 oG 9 (.move (oT 1)) 3 8 false,
 oG 10 (.binOp .eql 3 (oT 9) (.const (.int .i64 0)) 3) 4 8 false,
 oQ 11 (.pick (oT 8) (.const (.bool true)) (oT 10)) 4]
def f100r1p1:List AOp:=[oA 5 11 4]
def f100r1:List AOp:=f100r1p0 ++ f100r1p1
def f100r2:List AOp:=[oQ 4 (.assign (.const (.int .i64 0))) 3]
def f100r3p0:List AOp:=[oM 13 0 3,
 oQ 14 (.binOp .eql 3 (oT 13) (.const (.int .i64 (-1))) 3) 4,
 oM 15 14 4,
 oG 16 (.move (oT 1)) 3 15 false,
 oG 17 (.binOp .eql 3 (oT 16) (.const (.int .i64 (-1))) 3) 4 15 false,
 oQ 18 (.pick (oT 15) (.const (.bool true)) (oT 17)) 4]
def f100r3p1:List AOp:=[oA 12 18 4]
def f100r3:List AOp:=f100r3p0 ++ f100r3p1
def f100r4:List AOp:=[oQ 4 (.assign (.const (.int .i64 (-1)))) 3]
def f100r5:List AOp:=[oM 19 0 3,
 oM 20 1 3,
 oQ 21 (.binOp .mul 3 (oT 19) (oT 20) 3) 3,
 oQ 22 (cB .min #[(oT 21),(.const (.int .i64 1048576))] #[3,3]) 3,
 oA 4 22 3]
def f100:AFun:=⟨23,[(.tmp 4)],(.seq (.ops false f100r0) (.seq (.block 0 (.seq (.ops false f100r1) (.cond (.tmp 5) (.seq (.ops false f100r2) .ret) (.seq (.ops false f100r3) (.cond (.tmp 12) (.seq (.ops false f100r4) .ret) .skip))))) (.seq (.ops false f100r5) .ret)))⟩
def f102r0:List AOp:=[oQ 3 (.assign (.const (.int .i64 0))) 3]
def f102r1:List AOp:=[oM 4 0 3,
 oQ 5 (.load 100 (oT 1)) 100,
 oM 6 0 3,
 oQ 7 (.indexAddr 100 (oT 5) (oT 6)) 0,
 oQ 8 (.load 3 (oT 7)) 3,
 oQ 9 (.binOp .sub 3 (oT 4) (oT 8) 3) 3,
 oQ 10 (.binOp .add 3 (oT 9) (.const (.int .i64 1)) 3) 3,
 oA 3 10 3]
def f102:AFun:=⟨11,[(.tmp 3)],(.seq (.ops false f102r0) (.seq (.ops false f102r1) .ret))⟩
noncomputable def f103:AFun:=⟨14,[],cvF Tryz.f103 (.seq hO hO)⟩
def f104r0:List AOp:=[oQ 6 (.assign (.const (.int .i64 0))) 3]
def f104r1:List AOp:=[oQ 8 (.load 99 (oT 2)) 99,
 oM 9 0 3,
 oQ 10 (.call { callee:=(.value (oT 8)),args:=#[(oT 9)],argTypes:=#[3] }) 3,
 oQ 11 (.load 99 (oT 2)) 99,
 oM 12 1 3,
 oQ 13 (.call { callee:=(.value (oT 11)),args:=#[(oT 12)],argTypes:=#[3] }) 3,
 oQ 14 (.binOp .sub 3 (oT 10) (oT 13) 3) 3,
 oA 7 14 3]
def f104r2:List AOp:=[oM 15 7 3,
 oQ 16 (.binOp .neq 3 (oT 15) (.const (.int .i64 0)) 3) 4]
def f104r3:List AOp:=[oM 17 7 3,
 oA 6 17 3]
def f104r4:List AOp:=[oQ 18 (.load 100 (oT 3)) 100,
 oM 19 1 3,
 oQ 20 (.indexAddr 100 (oT 18) (oT 19)) 0,
 oQ 21 (.load 3 (oT 20)) 3,
 oQ 22 (.load 100 (oT 3)) 100,
 oM 23 0 3,
 oQ 24 (.indexAddr 100 (oT 22) (oT 23)) 0,
 oQ 25 (.load 3 (oT 24)) 3,
 oQ 26 (.binOp .sub 3 (oT 21) (oT 25) 3) 3,
 oA 6 26 3]
def f104:AFun:=⟨27,[(.tmp 6)],(.seq (.ops false f104r0) (.seq (.seq (.ops true f104r1) (.seq (.ops false f104r2) (.cond (.tmp 16) (.seq (.ops false f104r3) .ret) .skip))) (.seq (.ops true f104r4) .ret)))⟩
def f105r0:List AOp:=[oQ 2 (.box 72 (oT 0)) 0,
 oQ 3 (.assign (.const (.bool false))) 4]
def f105r1p0:List AOp:=[oQ 4 (.fieldAddr 72 (oT 2) 0) 0,
 oQ 5 (.load 3 (oT 4)) 3,
 oQ 6 (.binOp .eql 3 (oT 5) (.const (.int .i64 12)) 3) 4,
 oM 7 6 4,
 oG 8 (.fieldAddr 72 (oT 2) 7) 0 7 true,
 oG 9 (.load 3 (oT 8)) 3 7 true,
 oG 10 (.binOp .lss 3 (oT 9) (.const (.int .i64 1)) 3) 4 7 true,
 oG 11 (.move (oT 10)) 4 7 true,
 oG 12 (.fieldAddr 72 (oT 2) 7) 0 11 false,
 oG 13 (.load 3 (oT 12)) 3 11 false,
 oG 14 (.load 100 (oT 1)) 100 11 false,
 oG 15 (cB .len #[(oT 14)] #[100]) 3 11 false,
 oG 16 (.binOp .gtr 3 (oT 13) (oT 15) 3) 4 11 false,
 oG 17 (.pick (oT 11) (.const (.bool true)) (oT 16)) 4 7 true,
 oQ 18 (.pick (oT 7) (oT 17) (.const (.bool false))) 4]
def f105r1p1:List AOp:=[oA 3 18 4]
def f105r1:List AOp:=f105r1p0 ++ f105r1p1
def f105:AFun:=⟨19,[(.tmp 3)],(.seq (.ops false f105r0) (.seq (.ops false f105r1) .ret))⟩
def f106r0:List AOp:=[oQ 4 (.assign (.const (.bool false))) 4]
def f106r1:List AOp:=[oM 5 0 35,
 oM 6 1 158,
 oQ 7 (cF 138 #[(oT 5),(oT 6)] #[35,158]) 3,
 oQ 8 (.binOp .geq 3 (oT 7) (.const (.int .i64 0)) 3) 4,
 oA 4 8 4]
def f106:AFun:=⟨9,[(.tmp 4)],(.seq (.ops false f106r0) (.seq (.ops false f106r1) .ret))⟩
noncomputable def f108:AFun:=⟨9,[(.cell 2 37)],cvF Tryz.f108 (.seq hO (.seq hO .ret))⟩
noncomputable def f109:AFun:=⟨8,[(.tmp 4)],cvF Tryz.f109 (.seq hO (.seq hO .ret))⟩
noncomputable def f110:AFun:=⟨15,[(.tmp 4)],cvF Tryz.f110 (.seq hO (.seq (.seq hO (.block 0 (.loop [1,8] (.seq hO (.seq (hC .skip (.exit 0)) (.block 1 (.seq hO (.seq hO (hC (.seq hO .ret) .skip))))))))) (.seq hO .ret)))⟩
noncomputable def f111:AFun:=⟨65,[(.tmp 2),(.tmp 3),(.tmp 4)],cvF Tryz.f111 (.seq hO (.seq hO (.seq hO (.seq hO (.seq (.seq hO (hC (.seq hO (.seq hO (.seq hO (.seq hO (.seq hO (hC hO .skip)))))) .skip)) (.seq (.seq hO (hC (.seq hO .ret) .skip)) (.seq hO .ret)))))))⟩
noncomputable def f112:AFun:=⟨76,[(.cell 2 25),(.tmp 3)],cvF Tryz.f112 (.seq hO (.seq hO (.seq (.seq hO (hC (.seq hO .ret) .skip)) (.seq hO (.seq hO (.seq hO (.seq (.seq hO (hC (.seq hO .ret) .skip)) (.seq hO .ret))))))))⟩
noncomputable def f113:AFun:=⟨17,[(.cell 2 25)],cvF Tryz.f113 (.seq hO (.seq (.seq hO (.block 0 (.loop [1,2,4] (.seq hO (.seq (hC .skip (.exit 0)) (.seq (.block 1 (.seq hO hO)) hO)))))) (.seq hO .ret)))⟩
noncomputable def f114:AFun:=⟨42,[(.tmp 4)],cvF Tryz.f114 (.seq hO (.seq hO (.seq (.block 0 (.seq hO (hC hO (.seq hO (hC hO (.seq hO (hC hO .skip))))))) (.seq (.seq hO (hC (.seq hO .ret) .skip)) (.seq hO .ret)))))⟩
noncomputable def f115:AFun:=⟨73,[(.cell 2 25),(.tmp 3)],cvF Tryz.f115 (.seq hO (.seq (.seq hO (hC (.seq hO .ret) .skip)) (.seq hO (.seq hO (.block 0 (.seq hO (hC (.seq hO .ret) (.seq hO (hC (.seq hO .ret) (.seq hO (hC (.seq hO .ret) (.seq hO (hC (.seq hO .ret) (.seq hO (hC (.seq hO .ret) (.seq hO (hC (.seq hO .ret) (.seq hO (hC (.seq (.seq hO (hC (.seq hO .ret) .skip)) (.seq hO .ret)) (.seq (.seq hO (.seq hO (hC (.seq hO .ret) .skip))) (.seq (.seq hO (hC (.seq hO .ret) .skip)) (.seq hO .ret))))))))))))))))))))))⟩
def f116r0:List AOp:=[oQ 2 (.assign (.const (.int .i64 0))) 3]
def f116r1p0:List AOp:=[oM 3 0 39,
 oQ 4 (cB .len #[(oT 3)] #[39]) 3,
 oQ 5 (.binOp .eql 3 (oT 4) (.const (.int .i64 0)) 3) 4,
 oM 6 5 4,
 oG 7 (.move (oT 0)) 39 6 false,
 oG 8 (cB .len #[(oT 7)] #[39]) 3 6 false,
 oG 9 (.binOp .gtr 3 (oT 8) (.const (.int .i64 500)) 3) 4 6 false,
 oQ 10 (.pick (oT 6) (.const (.bool true)) (oT 9)) 4]
def f116r1p1:List AOp:=[oM 11 10 4,
 oG 12 (.move (oT 0)) 39 11 false,
 oG 13 (.move (oT 0)) 39 11 false,
 oG 14 (cB .len #[(oT 13)] #[39]) 3 11 false,
 oG 15 (.binOp .sub 3 (oT 14) (.const (.int .i64 1)) 3) 3 11 false,
 oG 16 (cF 150 #[(oT 12),(oT 15)] #[39,3]) 3 11 false,
 oG 17 (.move (oT 0)) 39 11 false,
 oG 18 (cB .len #[(oT 17)] #[39]) 3 11 false,
 oG 19 (.binOp .neq 3 (oT 16) (oT 18) 3) 4 11 false,
 oQ 20 (.pick (oT 11) (.const (.bool true)) (oT 19)) 4]
def f116r1:List AOp:=f116r1p0 ++ f116r1p1
def f116r2:List AOp:=[oQ 2 (.assign (.const (.int .i64 0))) 3]
def f116r3:List AOp:=[oM 21 0 39,
 oM 22 0 39,
 oQ 23 (cB .len #[(oT 22)] #[39]) 3,
 oQ 24 (.binOp .sub 3 (oT 23) (.const (.int .i64 1)) 3) 3,
 oQ 25 (cF 151 #[(oT 21),(oT 24)] #[39,3]) 3,
 oA 2 25 3]
def f116:AFun:=⟨26,[(.tmp 2)],(.seq (.ops false f116r0) (.seq (.seq (.ops false f116r1) (.cond (.tmp 20) (.seq (.ops false f116r2) .ret) .skip)) (.seq (.ops false f116r3) .ret)))⟩
def f117r0:List AOp:=[oQ 4 (.assign (.const (.int .i64 0))) 3]
def f117r1:List AOp:=[oM 5 0 3,
 oQ 6 (.binOp .lss 3 (oT 5) (.const (.int .i64 0)) 3) 4,
 oM 7 6 4,
 oG 8 (.move (oT 1)) 3 7 false,
 oG 9 (.binOp .lss 3 (oT 8) (.const (.int .i64 0)) 3) 4 7 false,
 oQ 10 (.pick (oT 7) (.const (.bool true)) (oT 9)) 4]
def f117r2:List AOp:=[oQ 4 (.assign (.const (.int .i64 (-1)))) 3]
def f117r3:List AOp:=[oM 11 0 3,
 oM 12 1 3,
 oQ 13 (.binOp .add 3 (oT 11) (oT 12) 3) 3,
 oQ 14 (cB .min #[(oT 13),(.const (.int .i64 1048576))] #[3,3]) 3,
 oA 4 14 3]
def f117:AFun:=⟨15,[(.tmp 4)],(.seq (.ops false f117r0) (.seq (.seq (.ops false f117r1) (.cond (.tmp 10) (.seq (.ops false f117r2) .ret) .skip)) (.seq (.ops false f117r3) .ret)))⟩
def f118r0:List AOp:=[oQ 4 (.assign (.const (.int .i64 0))) 3]
def f118r1:List AOp:=[oM 5 0 3,
 oQ 6 (.binOp .eql 3 (oT 5) (.const (.int .i64 0)) 3) 4,
 oM 7 6 4,
 oG 8 (.move (oT 1)) 3 7 false,
 oG 9 (.binOp .eql 3 (oT 8) (.const (.int .i64 0)) 3) 4 7 false,
 oQ 10 (.pick (oT 7) (.const (.bool true)) (oT 9)) 4]
def f118r2:List AOp:=[oQ 4 (.assign (.const (.int .i64 0))) 3]
def f118r3:List AOp:=[oM 11 0 3,
 oQ 12 (.binOp .lss 3 (oT 11) (.const (.int .i64 0)) 3) 4,
 oM 13 12 4,
 oG 14 (.move (oT 1)) 3 13 false,
 oG 15 (.binOp .lss 3 (oT 14) (.const (.int .i64 0)) 3) 4 13 false,
 oQ 16 (.pick (oT 13) (.const (.bool true)) (oT 15)) 4]
def f118r4:List AOp:=[oQ 4 (.assign (.const (.int .i64 (-1)))) 3]
def f118r5:List AOp:=[oM 17 0 3,
 oM 18 1 3,
 oQ 19 (.binOp .mul 3 (oT 17) (oT 18) 3) 3,
 oQ 20 (cB .min #[(oT 19),(.const (.int .i64 1048576))] #[3,3]) 3,
 oA 4 20 3]
def f118:AFun:=⟨21,[(.tmp 4)],(.seq (.ops false f118r0) (.seq (.seq (.ops false f118r1) (.cond (.tmp 10) (.seq (.ops false f118r2) .ret) .skip)) (.seq (.seq (.ops false f118r3) (.cond (.tmp 16) (.seq (.ops false f118r4) .ret) .skip)) (.seq (.ops false f118r5) .ret))))⟩
noncomputable def f120:AFun:=⟨21,[(.tmp 2),(.tmp 3)],cvF Tryz.f120 (.seq hO (.seq (.seq hO (.block 0 (.loop [7,8] (.seq hO (.seq (hC .skip (.exit 0)) (.seq (.block 1 (.seq hO (.seq hO (hC (.seq hO .ret) .skip)))) hO)))))) (.seq hO .ret)))⟩
def f124r0:List AOp:=[oQ 1 (.box 72 (oT 0)) 0,
 oQ 2 (.alloc 72) 0]
def f124r1:List AOp:=[oQ 3 (.fieldAddr 72 (oT 1) 0) 0,
 oN (.store 3 (oT 3) (.const (.int .i64 0))) 0,
 oQ 4 (.fieldAddr 72 (oT 1) 1) 0,
 oN (.store 3 (oT 4) (.const (.int .i64 0))) 0,
 oQ 5 (.fieldAddr 72 (oT 1) 2) 0,
 oN (.store 3 (oT 5) (.const (.int .i64 0))) 0]
def f124r2:List AOp:=[oQ 6 (.load 72 (oT 1)) 72,
 oN (.store 72 (oT 2) (oT 6)) 0]
def f124:AFun:=⟨7,[(.cell 2 72)],(.seq (.ops false f124r0) (.seq (.ops false f124r1) (.seq (.ops false f124r2) .ret)))⟩
noncomputable def f125:AFun:=⟨39,[(.cell 2 72)],cvF Tryz.f125 (.seq hO (.seq hO (.seq (.seq hO (.block 0 (.seq hO (hC hO (.seq hO (hC (.opsL [18,20] 11 false []) (.seq hO (hC hO (.seq hO (hC (.opsL [34] 7 false []) .skip)))))))))) (.seq hO .ret))))⟩
noncomputable def f136:AFun:=⟨148,[],cvF Tryz.f136 (.seq hO (.seq hO (.block 0 (.loop [0,1,2,3,4,10,11] (.block 1 (.seq hO (.seq (.seq hO (hC (.seq hO .ret) .skip)) (.seq (.seq hO (hC (.seq hO .ret) .skip)) (.seq (.seq hO (hC (.seq hO hO) .skip)) (.seq hO (.seq (.seq hO (hC (.seq hO (.seq hO hO)) .skip)) (.seq (.seq hO (hC (.seq hO (hC .ret .skip)) .skip)) (.seq (.seq hQ (hC (.seq hO (.seq hO (.exit 1))) .skip)) (.seq hO (.seq hO (.seq hO (.seq hO (.seq hO (hC (.seq hO (.seq hO hO)) (.seq hO (.seq hO hO)))))))))))))))))))))⟩
noncomputable def f137:AFun:=⟨8,[(.tmp 2)],cvF Tryz.f137 (.seq hO (.seq (hC (.seq hO .ret) .skip) (.seq hO .ret)))⟩
def f138r0:List AOp:=[oQ 4 (.assign (.const (.int .i64 0))) 3]
def f138r1:List AOp:=[oM 6 0 35,
 oQ 7 (cB .len #[(oT 6)] #[35]) 3,
 oQ 8 (.move (.const (.int .i64 0))) 3]
def f138r2:List AOp:=[oQ 9 (.binOp .lss 3 (oT 8) (oT 7) 3) 0]
def f138r3:List AOp:=[oM 10 8 3,
 oA 5 10 3]
def f138r4:List AOp:=[oM 11 1 158,
 oM 12 0 35,
 oM 13 5 3,
 oQ 14 (.indexAddr 35 (oT 12) (oT 13)) 0,
 oQ 15 (.load 72 (oT 14)) 72,
 oQ 16 (.call { callee:=(.value (oT 11)),args:=#[(oT 15)],argTypes:=#[72] }) 4]
def f138r5:List AOp:=[oM 17 5 3,
 oA 4 17 3]
def f138r6:List AOp:=[oQ 18 (.binOp .add 3 (oT 8) (.const (.int .i64 1)) 3) 3,
 oM 8 18 3]
def f138b0:AC:=(.seq (.ops false f138r2) (.seq (.cond (oT 9) .skip (.exit 0)) (.seq (.block 1 (.seq (.ops false f138r3) (.seq (.ops false f138r4) (.cond (oT 16) (.seq (.ops false f138r5) .ret) .skip)))) (.ops false f138r6))))
def f138r7:List AOp:=[oQ 4 (.assign (.const (.int .i64 (-1)))) 3]
def f138:AFun:=⟨19,[(.tmp 4)],(.seq (.ops false f138r0) (.seq (.seq (.ops false f138r1) (.block 0 (.loop [0,1,7,8] f138b0))) (.seq (.ops false f138r7) .ret)))⟩
noncomputable def f139:AFun:=⟨20,[(.cell 8 37)],cvF Tryz.f139 (.seq hO (.seq hO (.seq (.block 0 (.loop [1,2,3,8,9] (.seq (.seq hO (hC .skip (.exit 0))) (.block 1 (.opsL [9] 4 false []))))) (.seq hO .ret))))⟩
noncomputable def f140:AFun:=⟨15,[(.tmp 2)],cvF Tryz.f140 (.seq hO (.seq hO (.seq (.seq hO (hC hO .skip)) (.seq hO .ret))))⟩
noncomputable def f141:AFun:=⟨14,[(.cell 2 37)],cvF Tryz.f141 (.seq hO (.seq (.seq hO (hC (.seq hO .ret) .skip)) (.seq hO .ret)))⟩
noncomputable def f142:AFun:=⟨8,[(.tmp 4)],cvF Tryz.f142 (.seq hO (.seq hO .ret))⟩
noncomputable def f143:AFun:=⟨32,[(.tmp 2),(.tmp 3)],cvF Tryz.f143 (.seq hO (.seq hO (.seq (.block 0 (.loop [0,4,5] (.seq (.seq hO (hC .skip (.exit 0))) (.block 1 (.seq hO hO))))) (.seq hO .ret))))⟩
noncomputable def f144:AFun:=⟨35,[(.cell 2 25),(.tmp 3)],cvF Tryz.f144 (.seq hO (.seq (.block 0 (.seq hO (hC (.seq hO .ret) (.seq hO (hC (.seq hO (.seq (.seq hO (hC (.seq hO .ret) .skip)) (.seq hO .ret))) .skip))))) (.seq hO .ret)))⟩
noncomputable def f145:AFun:=⟨19,[(.cell 4 25)],cvF Tryz.f145 (.seq hO (.seq hO (.seq (.seq hO (.block 0 (.loop [1,4,5,6] (.seq (.seq hO (hC .skip (.exit 0))) (.seq (.block 1 hO) hO))))) (.seq hO .ret))))⟩
noncomputable def f146:AFun:=⟨2,[(.cell 0 25)],cvF Tryz.f146 (.seq hO (.seq hO .ret))⟩
noncomputable def f147:AFun:=⟨8,[(.cell 0 25)],cvF Tryz.f147 (.seq hO (.seq hO .ret))⟩
noncomputable def f148:AFun:=⟨4,[(.cell 0 25)],cvF Tryz.f148 (.seq hO (.seq hO .ret))⟩
noncomputable def f149:AFun:=⟨10,[(.tmp 2)],cvF Tryz.f149 (.seq hO (.seq hO .ret))⟩
def f150r0:List AOp:=[oQ 4 (.assign (.const (.int .i64 0))) 3]
def f150r1:List AOp:=[oM 8 1 3,
 oQ 9 (.binOp .lss 3 (oT 8) (.const (.int .i64 0)) 3) 4,
 oM 10 9 4,
 oG 11 (.move (oT 0)) 39 10 false,
 oG 12 (.move (oT 1)) 3 10 false,
 oG 13 (.indexAddr 39 (oT 11) (oT 12)) 0 10 false,
 oG 14 (.load 97 (oT 13)) 97 10 false,
 oG 15 (cF 168 #[(oT 14)] #[97]) 4 10 false,
 oG 16 (.unOp .not 4 (oT 15)) 4 10 false,
 oQ 17 (.pick (oT 10) (.const (.bool true)) (oT 16)) 4]
def f150r2:List AOp:=[oQ 4 (.assign (.const (.int .i64 0))) 3]
def f150r3:List AOp:=[oM 18 0 39,
 oM 19 1 3,
 oQ 20 (.indexAddr 39 (oT 18) (oT 19)) 0,
 oQ 21 (.fieldAddr 97 (oT 20) 0) 0,
 oQ 22 (.load 3 (oT 21)) 3,
 oQ 23 (cF 83 #[(oT 22)] #[3]) 3,
 oA 5 23 3]
def f150r4:List AOp:=[oM 24 5 3,
 oQ 25 (.binOp .eql 3 (oT 24) (.const (.int .i64 0)) 3) 4]
def f150r5:List AOp:=[oM 26 0 39,
 oM 27 1 3,
 oQ 28 (.indexAddr 39 (oT 26) (oT 27)) 0,
 oQ 29 (.fieldAddr 97 (oT 28) 1) 0,
 oQ 30 (.load 3 (oT 29)) 3,
 oQ 31 (.binOp .neq 3 (oT 30) (.const (.int .i64 0)) 3) 4,
 oM 32 31 4,
 oG 33 (.move (oT 0)) 39 32 false,
 oG 34 (.move (oT 1)) 3 32 false,
 oG 35 (.indexAddr 39 (oT 33) (oT 34)) 0 32 false,
 oG 36 (.fieldAddr 97 (oT 35) 2) 0 32 false,
 oG 37 (.load 3 (oT 36)) 3 32 false,
 oG 38 (.binOp .neq 3 (oT 37) (.const (.int .i64 0)) 3) 4 32 false,
 oQ 39 (.pick (oT 32) (.const (.bool true)) (oT 38)) 4]
def f150r6:List AOp:=[oQ 4 (.assign (.const (.int .i64 0))) 3]
def f150r7:List AOp:=[oQ 4 (.assign (.const (.int .i64 1))) 3]
def f150r8:List AOp:=[oM 40 0 39,
 oM 41 1 3,
 oQ 42 (.binOp .sub 3 (oT 41) (.const (.int .i64 1)) 3) 3,
 oQ 43 (cF 150 #[(oT 40),(oT 42)] #[39,3]) 3,
 oA 6 43 3]
def f150r9:List AOp:=[oM 44 6 3,
 oQ 45 (.binOp .eql 3 (oT 44) (.const (.int .i64 0)) 3) 4]
def f150r10:List AOp:=[oQ 4 (.assign (.const (.int .i64 0))) 3]
def f150r11:List AOp:=[oM 46 5 3,
 oQ 47 (.binOp .eql 3 (oT 46) (.const (.int .i64 1)) 3) 4]
def f150r12:List AOp:=[oM 48 0 39,
 oM 49 1 3,
 oQ 50 (.indexAddr 39 (oT 48) (oT 49)) 0,
 oQ 51 (.fieldAddr 97 (oT 50) 1) 0,
 oQ 52 (.load 3 (oT 51)) 3,
 oM 53 1 3,
 oQ 54 (.binOp .sub 3 (oT 53) (.const (.int .i64 1)) 3) 3,
 oQ 55 (.binOp .neq 3 (oT 52) (oT 54) 3) 4,
 oM 56 55 4,
 oG 57 (.move (oT 0)) 39 56 false,
 oG 58 (.move (oT 1)) 3 56 false,
 oG 59 (.indexAddr 39 (oT 57) (oT 58)) 0 56 false,
 oG 60 (.fieldAddr 97 (oT 59) 2) 0 56 false,
 oG 61 (.load 3 (oT 60)) 3 56 false,
 oG 62 (.binOp .neq 3 (oT 61) (.const (.int .i64 0)) 3) 4 56 false,
 oQ 63 (.pick (oT 56) (.const (.bool true)) (oT 62)) 4]
def f150r13:List AOp:=[oQ 4 (.assign (.const (.int .i64 0))) 3]
def f150r14:List AOp:=[oM 64 6 3,
 oQ 65 (.binOp .add 3 (oT 64) (.const (.int .i64 1)) 3) 3,
 oA 4 65 3]
def f150r15:List AOp:=[oM 66 0 39,
 oM 67 1 3,
 oQ 68 (.binOp .sub 3 (oT 67) (.const (.int .i64 1)) 3) 3,
 oM 69 6 3,
 oQ 70 (.binOp .sub 3 (oT 68) (oT 69) 3) 3,
 oQ 71 (cF 150 #[(oT 66),(oT 70)] #[39,3]) 3,
 oA 7 71 3]
def f150r16p0:List AOp:=[oM 72 7 3,
 oQ 73 (.binOp .eql 3 (oT 72) (.const (.int .i64 0)) 3) 4,
 oM 74 73 4,
 oG 75 (.move (oT 0)) 39 74 false,
 oG 76 (.move (oT 1)) 3 74 false,
 oG 77 (.indexAddr 39 (oT 75) (oT 76)) 0 74 false,
 oG 78 (.fieldAddr 97 (oT 77) 1) 0 74 false,
 oG 79 (.load 3 (oT 78)) 3 74 false,
 oG 80 (.move (oT 1)) 3 74 false,
 oG 81 (.binOp .sub 3 (oT 80) (.const (.int .i64 1)) 3) 3 74 false,
 oG 82 (.move (oT 6)) 3 74 false,
 oG 83 (.binOp .sub 3 (oT 81) (oT 82) 3) 3 74 false,
 oG 84 (.binOp .neq 3 (oT 79) (oT 83) 3) 4 74 false,
 oQ 85 (.pick (oT 74) (.const (.bool true)) (oT 84)) 4]
def f150r16p1:List AOp:=[oM 86 85 4,
 oG 87 (.move (oT 0)) 39 86 false,
 oG 88 (.move (oT 1)) 3 86 false,
 oG 89 (.indexAddr 39 (oT 87) (oT 88)) 0 86 false,
 oG 90 (.fieldAddr 97 (oT 89) 2) 0 86 false,
 oG 91 (.load 3 (oT 90)) 3 86 false,
 oG 92 (.move (oT 1)) 3 86 false,
 oG 93 (.binOp .sub 3 (oT 92) (.const (.int .i64 1)) 3) 3 86 false,
 oG 94 (.binOp .neq 3 (oT 91) (oT 93) 3) 4 86 false,
 oQ 95 (.pick (oT 86) (.const (.bool true)) (oT 94)) 4]
def f150r16:List AOp:=f150r16p0 ++ f150r16p1
def f150r17:List AOp:=[oQ 4 (.assign (.const (.int .i64 0))) 3]
def f150r18:List AOp:=[oM 96 7 3,
 oM 97 6 3,
 oQ 98 (.binOp .add 3 (oT 96) (oT 97) 3) 3,
 oQ 99 (.binOp .add 3 (oT 98) (.const (.int .i64 1)) 3) 3,
 oA 4 99 3]
def f150:AFun:=⟨100,[(.tmp 4)],(.seq (.ops false f150r0) (.seq (.seq (.ops false f150r1) (.cond (.tmp 17) (.seq (.ops false f150r2) .ret) .skip)) (.seq (.ops false f150r3) (.seq (.seq (.ops false f150r4) (.cond (.tmp 25) (.seq (.seq (.ops false f150r5) (.cond (.tmp 39) (.seq (.ops false f150r6) .ret) .skip)) (.seq (.ops false f150r7) .ret)) .skip)) (.seq (.ops false f150r8) (.seq (.seq (.ops false f150r9) (.cond (.tmp 45) (.seq (.ops false f150r10) .ret) .skip)) (.seq (.seq (.ops false f150r11) (.cond (.tmp 47) (.seq (.seq (.ops false f150r12) (.cond (.tmp 63) (.seq (.ops false f150r13) .ret) .skip)) (.seq (.ops false f150r14) .ret)) .skip)) (.seq (.ops false f150r15) (.seq (.seq (.ops false f150r16) (.cond (.tmp 95) (.seq (.ops false f150r17) .ret) .skip)) (.seq (.ops false f150r18) .ret))))))))))⟩
def f151r0:List AOp:=[oQ 4 (.assign (.const (.int .i64 0))) 3]
def f151r1:List AOp:=[oM 6 0 39,
 oM 7 1 3,
 oQ 8 (.indexAddr 39 (oT 6) (oT 7)) 0,
 oQ 9 (.fieldAddr 97 (oT 8) 0) 0,
 oQ 10 (.load 3 (oT 9)) 3,
 oQ 11 (cF 83 #[(oT 10)] #[3]) 3,
 oA 5 11 3]
def f151r2:List AOp:=[oM 12 5 3,
 oQ 13 (.binOp .eql 3 (oT 12) (.const (.int .i64 0)) 3) 4]
def f151r3:List AOp:=[oQ 4 (.assign (.const (.int .i64 1))) 3]
def f151r4:List AOp:=[oM 14 5 3,
 oQ 15 (.binOp .eql 3 (oT 14) (.const (.int .i64 1)) 3) 4]
def f151r5:List AOp:=[oM 16 0 39,
 oM 17 0 39,
 oM 18 1 3,
 oQ 19 (.indexAddr 39 (oT 17) (oT 18)) 0,
 oQ 20 (.fieldAddr 97 (oT 19) 1) 0,
 oQ 21 (.load 3 (oT 20)) 3,
 oQ 22 (cF 151 #[(oT 16),(oT 21)] #[39,3]) 3,
 oQ 23 (.binOp .add 3 (.const (.int .i64 1)) (oT 22) 3) 3,
 oA 4 23 3]
def f151r6:List AOp:=[oM 24 0 39,
 oM 25 0 39,
 oM 26 1 3,
 oQ 27 (.indexAddr 39 (oT 25) (oT 26)) 0,
 oQ 28 (.fieldAddr 97 (oT 27) 1) 0,
 oQ 29 (.load 3 (oT 28)) 3,
 oQ 30 (cF 151 #[(oT 24),(oT 29)] #[39,3]) 3,
 oM 31 0 39,
 oM 32 0 39,
 oM 33 1 3,
 oQ 34 (.indexAddr 39 (oT 32) (oT 33)) 0,
 oQ 35 (.fieldAddr 97 (oT 34) 2) 0,
 oQ 36 (.load 3 (oT 35)) 3,
 oQ 37 (cF 151 #[(oT 31),(oT 36)] #[39,3]) 3,
 oQ 38 (cB .max #[(oT 30),(oT 37)] #[3,3]) 3,
 oQ 39 (.binOp .add 3 (.const (.int .i64 1)) (oT 38) 3) 3,
 oA 4 39 3]
def f151:AFun:=⟨40,[(.tmp 4)],(.seq (.ops false f151r0) (.seq (.ops false f151r1) (.seq (.seq (.ops false f151r2) (.cond (.tmp 13) (.seq (.ops false f151r3) .ret) .skip)) (.seq (.seq (.ops false f151r4) (.cond (.tmp 15) (.seq (.ops false f151r5) .ret) .skip)) (.seq (.ops true f151r6) .ret)))))⟩
noncomputable def f152:AFun:=⟨14,[(.tmp 2)],cvF Tryz.f152 (.seq hO (.seq (.seq hO (hC (.seq hO .ret) .skip)) (.seq hO .ret)))⟩
noncomputable def f154:AFun:=⟨53,[],cvF Tryz.f154 (.seq hO (.block 0 (.loop [0,1,2,3,8] (.seq (.seq hO (hC .skip (.exit 0))) (.seq (.block 1 (.seq hO (.block 2 (.loop [0,1,2,3,8,9] (.seq (.seq hQ (hC .skip (.exit 2))) (.seq (.block 3 hQ) hO)))))) hO)))))⟩
noncomputable def f155:AFun:=⟨60,[],cvF Tryz.f155 (.seq hO (.seq hO (.seq hO (.seq (.seq hO (.block 0 (.loop [0,3,8,9,10,11] (.seq (.seq hO (hC .skip (.exit 0))) (.seq (.block 1 hO) hO))))) (.seq hO (.block 2 (.loop [0,3,8,9,12] (.seq (.seq hO (hC .skip (.exit 2))) (.seq (.block 3 (.seq hQ hO)) hO)))))))))⟩
noncomputable def f156:AFun:=⟨67,[],cvF Tryz.f156 (.seq hO (.seq hO (hC (.seq hO (.seq hO (.seq hO (.block 0 (.loop [0,1,8,9,10,11] (.seq (.seq hO (hC .skip (.exit 0))) (.seq (.block 1 (.seq hO (.seq (.seq hO (hC hO .skip)) hQ))) hO))))))) .skip)))⟩
noncomputable def f157:AFun:=⟨63,[(.tmp 8),(.tmp 9)],cvF Tryz.f157 (.seq hO (.seq hO (.seq hO (.seq hO (.seq hO (.seq hO (.seq (.seq hO (hC (.seq (.seq hO (hC (.seq hO (.seq hO hO)) .skip)) hO) .skip)) (.seq hO (.block 0 (.seq hO (hC (.seq hO .ret) (.seq hO (hC (.seq hO .ret) (.seq hO .ret))))))))))))))⟩
noncomputable def f158:AFun:=⟨34,[],cvF Tryz.f158 (.seq hO (.seq hO (.block 0 (.loop [0,8,9] (.seq (.seq hO (hC .skip (.exit 0))) (.block 1 (.seq hQ (.seq hO hO))))))))⟩
noncomputable def f159:AFun:=⟨141,[(.tmp 8)],cvF Tryz.f159 (.seq hO (.seq hO (.seq (.seq hO (.block 0 (.loop [0,1,2,3,9,10] (.seq (.seq hO (hC .skip (.exit 0))) (.seq (.block 1 (.seq (.block 2 (.loop [0,1,2,3,9,10] (.seq (.seq hQ (hC .skip (.exit 2))) (.block 3 hO)))) (.seq (.seq hO (hC (.seq hO .ret) .skip)) (.seq (.seq hO (hC (.seq hO .ret) .skip)) (.seq hQ (.seq (.seq hO (hC (.seq hO (.block 4 (.loop [0,1,2,3,9,10,11] (.seq (.seq hO (hC .skip (.exit 4))) (.seq (.block 5 (.seq (.seq hQ (hC (.exit 4) .skip)) hQ)) hO))))) .skip)) (.seq hO (hC (.seq hO (.block 6 (.loop [0,1,2,3,9,10,12] (.seq (.seq hO (hC .skip (.exit 6))) (.seq (.block 7 (.seq (.seq hQ (hC (.exit 6) .skip)) hQ)) hO))))) .skip)))))))) hO))))) (.seq hO .ret))))⟩
noncomputable def f160:AFun:=⟨90,[(.tmp 10)],cvF Tryz.f160 (.seq hO (.seq hQ (.seq hO (.seq (.block 0 (.loop [0,1,4,11,12] (.block 1 (.seq (.block 2 (.loop [0,1,4,11,12] (.seq (.seq hQ (hC .skip (.exit 2))) (.block 3 hO)))) (.seq (.block 4 (.loop [0,1,4,11,12] (.seq (.seq hQ (hC .skip (.exit 4))) (.block 5 hO)))) (.seq (.seq hO (hC (.exit 0) .skip)) (.seq hQ (.seq hO hO)))))))) (.seq hO .ret)))))⟩
noncomputable def f161:AFun:=⟨178,[(.tmp 10),(.tmp 11)],cvF Tryz.f161 (.seq hO (.seq hQ (.seq hO (.seq (.block 0 (.loop [0,1,4,12,13] (.seq (.seq hQ (hC .skip (.exit 0))) (.block 1 hO)))) (.seq (.block 2 (.loop [0,1,4,12,13] (.seq (.seq hQ (hC .skip (.exit 2))) (.block 3 hO)))) (.seq (.seq hO (hC (.seq hQ (.seq hO .ret)) .skip)) (.seq hQ (.seq hO (.seq hO (.seq (.block 4 (.loop [0,1,4,12,13] (.block 5 (.seq (.block 6 (.loop [0,1,4,12,13] (.seq (.seq hQ (hC .skip (.exit 6))) (.block 7 hO)))) (.seq (.block 8 (.loop [0,1,4,12,13] (.seq (.seq hQ (hC .skip (.exit 8))) (.block 9 hO)))) (.seq (.seq hO (hC (.exit 4) .skip)) (.seq hQ (.seq hO hO)))))))) (.seq hQ (.seq hO .ret))))))))))))⟩
noncomputable def f162:AFun:=⟨19,[(.tmp 2)],cvF Tryz.f162 (.seq hO (.seq (.seq hO (hC (.seq hO hO) .skip)) (.seq (.seq hO (hC (.seq hO hO) .skip)) (.seq hO .ret))))⟩
noncomputable def f163:AFun:=⟨25,[(.tmp 2)],cvF Tryz.f163 (.seq hO (.seq (.seq hO (hC (.seq hO hO) .skip)) (.seq (.seq hO (hC (.seq hO hO) .skip)) (.seq (.seq hO (hC (.seq hO hO) .skip)) (.seq hO .ret)))))⟩
noncomputable def f164:AFun:=⟨30,[(.tmp 4)],cvF Tryz.f164 (.seq hO (.seq hQ .ret))⟩
noncomputable def f165:AFun:=⟨23,[(.tmp 2)],cvF Tryz.f165 (.seq hO (.seq (.opsL [5,9] 12 false []) .ret))⟩
noncomputable def f166:AFun:=⟨36,[(.cell 2 37)],cvF Tryz.f166 (.seq hO (.seq hO (.seq (.seq hO (hC (.seq hQ (.seq hO hO)) .skip)) (.seq hO .ret))))⟩
def f168r0:List AOp:=[oQ 1 (.box 97 (oT 0)) 0,
 oQ 2 (.assign (.const (.bool false))) 4]
def f168r1:List AOp:=[oQ 4 (.fieldAddr 97 (oT 1) 0) 0,
 oQ 5 (.load 3 (oT 4)) 3,
 oQ 6 (.binOp .lss 3 (oT 5) (.const (.int .i64 0)) 3) 4,
 oM 7 6 4,
 oG 8 (.fieldAddr 97 (oT 1) 0) 0 7 false,
 oG 9 (.load 3 (oT 8)) 3 7 false,
 oG 10 (.binOp .gtr 3 (oT 9) (.const (.int .i64 17)) 3) 4 7 false,
 oQ 11 (.pick (oT 7) (.const (.bool true)) (oT 10)) 4]
def f168r2:List AOp:=[oQ 2 (.assign (.const (.bool false))) 4]
def f168r3:List AOp:=[oQ 12 (.build 23 #[]) 23,
 oQ 3 (.alloc 23) 0,
 oN (.store 23 (oT 3) (oT 12)) 0]
def f168r4p0:List AOp:=[oQ 13 (.fieldAddr 97 (oT 1) 0) 0,
 oQ 14 (.load 3 (oT 13)) 3,
 oQ 15 (.binOp .neq 3 (oT 14) (.const (.int .i64 1)) 3) 4,
 oM 16 15 4,
 oG 17 (.fieldAddr 97 (oT 1) 3) 0 16 true,
 oG 18 (.load 23 (oT 17)) 23 16 true,
 oG 19 (.load 23 (oT 3)) 23 16 true,
 oG 20 (.binOp .neq 23 (oT 18) (oT 19) 23) 4 16 true,
 oQ 21 (.pick (oT 16) (oT 20) (.const (.bool false))) 4]
def f168r4p1:List AOp:=[oM 22 21 4,
 oG 23 (.fieldAddr 97 (oT 1) 0) 0 22 false,
 oG 24 (.load 3 (oT 23)) 3 22 false,
 oG 25 (.binOp .neq 3 (oT 24) (.const (.int .i64 10)) 3) 4 22 false,
 oG 26 (.move (oT 25)) 4 22 false,
 oG 27 (.fieldAddr 97 (oT 1) 4) 0 26 true,
 oG 28 (.load 3 (oT 27)) 3 26 true,
 oG 29 (.binOp .neq 3 (oT 28) (.const (.int .i64 0)) 3) 4 26 true,
 oG 30 (.move (oT 29)) 4 26 true,
 oG 31 (.fieldAddr 97 (oT 1) 5) 0 30 false,
 oG 32 (.load 3 (oT 31)) 3 30 false,
 oG 33 (.binOp .neq 3 (oT 32) (.const (.int .i64 0)) 3) 4 30 false,
 oG 34 (.pick (oT 30) (.const (.bool true)) (oT 33)) 4 26 true,
 oG 35 (.move (oT 34)) 4 26 true,
 oG 36 (.fieldAddr 97 (oT 1) 6) 0 35 false,
 oG 37 (.load 3 (oT 36)) 3 35 false,
 oG 38 (.binOp .neq 3 (oT 37) (.const (.int .i64 0)) 3) 4 35 false,
 oG 39 (.pick (oT 35) (.const (.bool true)) (oT 38)) 4 26 true,
 oG 40 (.pick (oT 26) (oT 39) (.const (.bool false))) 4 22 false,
 oQ 41 (.pick (oT 22) (.const (.bool true)) (oT 40)) 4]
def f168r4p2:List AOp:=[oM 42 41 4,
 oG 43 (.fieldAddr 97 (oT 1) 0) 0 42 false,
 oG 44 (.load 3 (oT 43)) 3 42 false,
 oG 45 (.binOp .neq 3 (oT 44) (.const (.int .i64 11)) 3) 4 42 false,
 oG 46 (.move (oT 45)) 4 42 false,
 oG 47 (.fieldAddr 97 (oT 1) 0) 0 46 true,
 oG 48 (.load 3 (oT 47)) 3 46 true,
 oG 49 (.binOp .neq 3 (oT 48) (.const (.int .i64 12)) 3) 4 46 true,
 oG 50 (.pick (oT 46) (oT 49) (.const (.bool false))) 4 42 false,
 oG 51 (.move (oT 50)) 4 42 false,
 oG 52 (.fieldAddr 97 (oT 1) 7) 0 51 true,
 oG 53 (.load 3 (oT 52)) 3 51 true,
 oG 54 (.binOp .neq 3 (oT 53) (.const (.int .i64 0)) 3) 4 51 true,
 oG 55 (.pick (oT 51) (oT 54) (.const (.bool false))) 4 42 false,
 oQ 56 (.pick (oT 42) (.const (.bool true)) (oT 55)) 4]
def f168r4p3:List AOp:=[oM 57 56 4,
 oG 58 (.fieldAddr 97 (oT 1) 0) 0 57 false,
 oG 59 (.load 3 (oT 58)) 3 57 false,
 oG 60 (.binOp .neq 3 (oT 59) (.const (.int .i64 12)) 3) 4 57 false,
 oG 61 (.move (oT 60)) 4 57 false,
 oG 62 (.fieldAddr 97 (oT 1) 8) 0 61 true,
 oG 63 (.load 4 (oT 62)) 4 61 true,
 oG 64 (.pick (oT 61) (oT 63) (.const (.bool false))) 4 57 false,
 oQ 65 (.pick (oT 57) (.const (.bool true)) (oT 64)) 4]
def f168r4:List AOp:=f168r4p0 ++ (f168r4p1 ++ (f168r4p2 ++ f168r4p3))
def f168r5:List AOp:=[oQ 2 (.assign (.const (.bool false))) 4]
def f168r6p0:List AOp:=[oQ 66 (.fieldAddr 97 (oT 1) 0) 0,
 oQ 67 (.load 3 (oT 66)) 3,
 oQ 68 (.binOp .neq 3 (oT 67) (.const (.int .i64 10)) 3) 4,
 oM 69 68 4,
 oG 70 (.fieldAddr 97 (oT 1) 4) 0 69 false,
 oG 71 (.load 3 (oT 70)) 3 69 false,
 oG 72 (.binOp .geq 3 (oT 71) (.const (.int .i64 0)) 3) 4 69 false,
 oG 73 (.move (oT 72)) 4 69 false,
 oG 74 (.fieldAddr 97 (oT 1) 4) 0 73 true,
 oG 75 (.load 3 (oT 74)) 3 73 true,
 oG 76 (.binOp .leq 3 (oT 75) (.const (.int .i64 100)) 3) 4 73 true,
 oG 77 (.pick (oT 73) (oT 76) (.const (.bool false))) 4 69 false,
 oG 78 (.move (oT 77)) 4 69 false,
 oG 79 (.fieldAddr 97 (oT 1) 5) 0 78 true,
 oG 80 (.load 3 (oT 79)) 3 78 true,
 oG 81 (.binOp .leq 3 (oT 80) (.const (.int .i64 100)) 3) 4 78 true,
 oG 82 (.pick (oT 78) (oT 81) (.const (.bool false))) 4 69 false,
 oG 83 (.move (oT 82)) 4 69 false,
 oG 84 (.fieldAddr 97 (oT 1) 5) 0 83 true,
 oG 85 (.load 3 (oT 84)) 3 83 true,
 oG 86 (.binOp .eql 3 (oT 85) (.const (.int .i64 (-1))) 3) 4 83 true,
 oG 87 (.move (oT 86)) 4 83 true,
 oG 88 (.fieldAddr 97 (oT 1) 5) 0 87 false,
 oG 89 (.load 3 (oT 88)) 3 87 false,
 oG 90 (.fieldAddr 97 (oT 1) 4) 0 87 false,
 oG 91 (.load 3 (oT 90)) 3 87 false,
 oG 92 (.binOp .geq 3 (oT 89) (oT 91) 3) 4 87 false,
 oG 93 (.pick (oT 87) (.const (.bool true)) (oT 92)) 4 83 true,
 oG 94 (.pick (oT 83) (oT 93) (.const (.bool false))) 4 69 false,
 oG 95 (.move (oT 94)) 4 69 false,
 oG 96 (.fieldAddr 97 (oT 1) 6) 0 95 true,
 oG 97 (.load 3 (oT 96)) 3 95 true,
 oG 98 (.binOp .geq 3 (oT 97) (.const (.int .i64 0)) 3) 4 95 true,
 oG 99 (.pick (oT 95) (oT 98) (.const (.bool false))) 4 69 false,
 oG 100 (.move (oT 99)) 4 69 false,
 oG 101 (.fieldAddr 97 (oT 1) 6) 0 100 true,
 oG 102 (.load 3 (oT 101)) 3 100 true,
 oG 103 (.binOp .leq 3 (oT 102) (.const (.int .i64 2)) 3) 4 100 true,
 oG 104 (.pick (oT 100) (oT 103) (.const (.bool false))) 4 69 false,
 oQ 105 (.pick (oT 69) (.const (.bool true)) (oT 104)) 4]
def f168r6p1:List AOp:=[oA 2 105 4]
def f168r6:List AOp:=f168r6p0 ++ f168r6p1
def f168:AFun:=⟨106,[(.tmp 2)],(.seq (.ops false f168r0) (.seq (.seq (.ops false f168r1) (.cond (.tmp 11) (.seq (.ops false f168r2) .ret) .skip)) (.seq (.ops false f168r3) (.seq (.seq (.ops false f168r4) (.cond (.tmp 65) (.seq (.ops false f168r5) .ret) .skip)) (.seq (.ops false f168r6) .ret)))))⟩
noncomputable def f170:AFun:=⟨82,[],cvF Tryz.f170 (.seq hO (.block 0 (.loop [0,2,3,4,10] (.block 1 (.seq hO (.seq (.seq hO (hC (.exit 0) .skip)) (.seq (.seq hQ (hC hO .skip)) (.seq (.seq hQ (hC .ret .skip)) (.seq hQ hO)))))))))⟩
noncomputable def f171:AFun:=⟨7,[(.tmp 2)],cvF Tryz.f171 (.seq hO (.seq hO .ret))⟩
noncomputable def f172:AFun:=⟨33,[(.tmp 2)],cvF Tryz.f172 (.seq hO (.seq hQ (.seq hQ (.seq hQ (.seq hO .ret)))))⟩
noncomputable def f173:AFun:=⟨18,[(.tmp 8)],cvF Tryz.f173 (.seq hO (.seq hO .ret))⟩
noncomputable def f174:AFun:=⟨41,[(.tmp 12)],cvF Tryz.f174 (.seq hO (.seq hO (.seq hO (.seq hO (.seq hO .ret)))))⟩
noncomputable def f175:AFun:=⟨66,[(.cell 2 37)],cvF Tryz.f175 (.seq hO (.seq hQ (.seq hO (.seq (.seq hO (.block 0 (.seq hO (hC (.seq hO .ret) (.seq hO (hC (.seq hO .ret) (.seq hO (hC (.seq hO .ret) (.seq hO (hC (.seq hO .ret) (.seq hO (hC (.seq hO .ret) (.seq hO (hC (.seq hO .ret) (.seq hO (hC (.seq (.opsL [53] 5 false []) .ret) (.seq hO (hC hO .skip)))))))))))))))))) (.seq hO .ret)))))⟩
noncomputable def f177:AFun:=⟨32,[(.tmp 10),(.tmp 11)],cvF Tryz.f177 (.seq hO (.seq (.seq hQ (hC (.seq hO (.seq hO .ret)) .skip)) (.seq hO .ret)))⟩
noncomputable def f178:AFun:=⟨12,[(.cell 4 37)],cvF Tryz.f178 (.seq hO (.seq (.seq hO (hC hO .skip)) (.seq hO .ret)))⟩
noncomputable def f179:AFun:=⟨13,[(.cell 2 37)],cvF Tryz.f179 (.seq hO (.seq hO (.seq (.seq hO (hC hO .skip)) (.seq hO .ret))))⟩
noncomputable def f180:AFun:=⟨14,[(.cell 6 37)],cvF Tryz.f180 (.seq hO (.seq (.seq hO (hC (.seq hO .ret) .skip)) (.seq hO .ret)))⟩
noncomputable def f181:AFun:=⟨11,[(.tmp 4)],cvF Tryz.f181 (.seq hO (.seq hO .ret))⟩
noncomputable def f182:AFun:=⟨65,[(.cell 4 37)],cvF Tryz.f182 (.seq hO (.seq (.opsL [14] 11 true []) (.seq (.seq hO (hC (.seq hO hO) .skip)) (.seq hQ (.seq hO (.seq hO (.seq (.seq hO (hC hO .skip)) (.seq hO (.seq (.seq hO (hC (.seq hO .ret) .skip)) (.seq hO .ret))))))))))⟩
noncomputable def f187:AFun:=⟨28,[(.cell 2 25)],cvF Tryz.f187 (.seq hO (.seq (.seq hO (hC (.seq hO .ret) .skip)) (.seq hO (.seq (.seq hO (.block 0 (.loop [1,2,3,4] (.seq (.seq hO (hC .skip (.exit 0))) (.seq (.block 1 (.seq (.seq hO (hC hO .skip)) (.seq hO (hC hO .skip)))) hO))))) (.seq hO .ret)))))⟩
noncomputable def f188:AFun:=⟨9,[(.tmp 4)],cvF Tryz.f188 (.seq hO (.seq hO .ret))⟩
noncomputable def f189:AFun:=⟨16,[(.tmp 2)],cvF Tryz.f189 (.seq hO (.seq (.seq hO (.block 0 (.seq hO (hC (.seq hO .ret) (.seq hO (hC (.seq hO .ret) (.seq hO (hC (.seq hO .ret) (.seq hO (hC (.seq hO .ret) (.seq hO (hC (.seq hO .ret) (.seq hO (hC (.seq hO .ret) .skip)))))))))))))) (.seq hO .ret)))⟩
noncomputable def f194:AFun:=⟨8,[(.tmp 4)],cvF Tryz.f194 (.seq hO (.seq hO .ret))⟩
noncomputable def f196:AFun:=⟨143,[(.tmp 4)],cvF Tryz.f196 (.seq hO (.seq hO (.seq (.block 0 (.seq hO (hC (.seq hO .ret) (.seq hO (hC (.seq hO .ret) (.seq hO (hC (.seq hO .ret) (.seq hO (hC (.seq hO .ret) .skip))))))))) (.seq hO (.seq hO (.seq hO (.seq hO (.seq hO (.seq (.block 1 (.loop [0,1,5,6,7,8,9,10] (.seq (.seq hO (hC .skip (.exit 1))) (.block 2 (.seq (.seq hO (hC (.seq hO (.seq (.seq hO (hC (.seq hO .ret) .skip)) hO)) .skip)) (.seq (.seq hO (hC (.seq hO .ret) .skip)) (.seq hO (.seq hO (.seq hO (hC (.seq hO (.seq (.seq hO (hC (.seq hO .ret) .skip)) (.seq hO .ret))) (.seq hO (hC (.seq hO (.seq (.seq hO (hC (.seq hO .ret) .skip)) (.seq hO .ret))) .skip)))))))))))) (.seq hO .ret))))))))))⟩
noncomputable def f198:AFun:=⟨6,[(.tmp 2)],cvF Tryz.f198 (.seq hO (.seq hO .ret))⟩
noncomputable def f199:AFun:=⟨81,[(.tmp 4)],cvF Tryz.f199 (.seq hO (.seq hO (.seq hO (.seq hO (.seq (.seq hO (.block 0 (.loop [0,1,5,6,7,8,9] (.seq (.seq hO (hC .skip (.exit 0))) (.seq (.block 1 hO) hO))))) (.seq (.seq hO (hC (.seq hO .ret) .skip)) (.seq (.seq hO (.block 2 (.loop [0,1,5,6,7,8,10] (.seq (.seq hO (hC .skip (.exit 2))) (.block 3 (.seq hO (.seq hO (.seq hO (.seq hO (.seq hO (hC (.seq hO .ret) .skip))))))))))) (.seq hO .ret))))))))⟩
noncomputable def f200:AFun:=⟨39,[(.tmp 2),(.tmp 3)],cvF Tryz.f200 (.seq hO (.seq hO (.seq (.seq hO (.block 0 (.loop [0,4,5] (.seq (.seq hO (hC .skip (.exit 0))) (.seq (.block 1 hO) hO))))) (.seq hO (.seq (.seq hO (.block 2 (.loop [4,6,7,8] (.seq (.seq hO (hC .skip (.exit 2))) (.seq (.block 3 (.seq (.seq hO (hC hO .skip)) hO)) hO))))) (.seq hO .ret))))))⟩
def f69r2:List AOp:=[oM 6 0 27,
 oQ 7 (.build 165 #[(0,(oT 6))]) 165,
 oQ 8 (.box 165 (oT 7)) 163,
 oA 4 8 163]
def f69r3:List AOp:=[oM 9 4 163,
 oQ 10 (cF 108 #[(oT 9)] #[163]) 37,
 oN (.store 37 (oT 2) (oT 10)) 0]
def f69r4:List AOp:=[oM 11 4 163,
 oQ 12 (.nilCheck (oT 11)) 0,
 oQ 13 (.fieldAddr 165 (oT 12) 1) 0,
 oQ 14 (.load 3 (oT 13)) 3,
 oM 15 0 27,
 oQ 16 (cB .len #[(oT 15)] #[27]) 3,
 oQ 17 (.binOp .lss 3 (oT 14) (oT 16) 3) 4]
def f69r5:List AOp:=[oQ 18 (.build 161 #[]) 161,
 oQ 19 (.makeInterface 161 (oT 18)) 20,
 oN (.panic (oT 19)) 0]
def f69r6:List AOp:=[oQ 20 (.load 37 (oT 2)) 37,
 oN (.store 37 (oT 2) (oT 20)) 0,
 oN (.store 4 (oT 3) (.const (.bool true))) 0]
def f107r1:List AOp:=[oM 9 3 4]
def f107r2:List AOp:=[
  ⟨some 10,(.build 37 #[]),37,none⟩,
  ⟨none,(.store 37 (.tmp 0) (.tmp 10)),0,none⟩,
  ⟨none,(.store 4 (.tmp 1) (.const (.bool false))),0,none⟩]
def d69:DFun:=⟨21,[(.cell 2 37),(.cell 3 4)],[⟨some 2,(.alloc 37),0,none⟩,⟨some 3,(.alloc 4),0,none⟩],[⟨some 5,(.makeFunc (.func 107) #[] #[(.tmp 2),(.tmp 3)]),1,none⟩],5,(.seq (.ops false f69r2) (.seq (.ops false f69r3) (.seq (.seq (.ops false f69r4) (.cond (.tmp 17) (.ops false f69r5) .skip)) (.seq (.ops false f69r6) .ret)))),107,11,5,[⟨some 6,(.typeAssert (.tmp 5) 20 161 true),162,none⟩,⟨some 4,(.move (.tmp 6)),162,none⟩,⟨some 7,(.extract (.tmp 4) 0),161,none⟩,⟨some 8,(.extract (.tmp 4) 1),4,none⟩,⟨some 2,(.alloc 161),0,none⟩,⟨none,(.store 161 (.tmp 2) (.tmp 7)),0,none⟩,⟨some 3,(.assign (.tmp 8)),4,none⟩],(.seq (.ops false f107r1) (.cond (.tmp 9) (.ops false f107r2) .skip))⟩
def f69:AFun:=⟨21,[(.cell 2 37),(.cell 3 4)],.goto 0⟩
noncomputable def F:FuncId → Option AFun
  | 4=>some f4
  | 16=>some f16
  | 18=>some f18
  | 19=>some f19
  | 20=>some f20
  | 21=>some f21
  | 22=>some f22
  | 23=>some f23
  | 24=>some f24
  | 25=>some f25
  | 33=>some f33
  | 35=>some f35
  | 37=>some f37
  | 38=>some f38
  | 40=>some f40
  | 41=>some f41
  | 44=>some f44
  | 46=>some f46
  | 47=>some f47
  | 49=>some f49
  | 50=>some f50
  | 51=>some f51
  | 52=>some f52
  | 53=>some f53
  | 54=>some f54
  | 55=>some f55
  | 56=>some f56
  | 61=>some f61
  | 62=>some f62
  | 63=>some f63
  | 64=>some f64
  | 65=>some f65
  | 66=>some f66
  | 68=>some f68
  | 72=>some f72
  | 73=>some f73
  | 74=>some f74
  | 75=>some f75
  | 76=>some f76
  | 77=>some f77
  | 78=>some f78
  | 79=>some f79
  | 80=>some f80
  | 81=>some f81
  | 82=>some f82
  | 83=>some f83
  | 84=>some f84
  | 88=>some f88
  | 96=>some f96
  | 97=>some f97
  | 98=>some f98
  | 99=>some f99
  | 100=>some f100
  | 102=>some f102
  | 103=>some f103
  | 104=>some f104
  | 105=>some f105
  | 106=>some f106
  | 108=>some f108
  | 109=>some f109
  | 110=>some f110
  | 111=>some f111
  | 112=>some f112
  | 113=>some f113
  | 114=>some f114
  | 115=>some f115
  | 116=>some f116
  | 117=>some f117
  | 118=>some f118
  | 120=>some f120
  | 124=>some f124
  | 125=>some f125
  | 136=>some f136
  | 137=>some f137
  | 138=>some f138
  | 139=>some f139
  | 140=>some f140
  | 141=>some f141
  | 142=>some f142
  | 143=>some f143
  | 144=>some f144
  | 145=>some f145
  | 146=>some f146
  | 147=>some f147
  | 148=>some f148
  | 149=>some f149
  | 150=>some f150
  | 151=>some f151
  | 152=>some f152
  | 154=>some f154
  | 155=>some f155
  | 156=>some f156
  | 157=>some f157
  | 158=>some f158
  | 159=>some f159
  | 160=>some f160
  | 161=>some f161
  | 162=>some f162
  | 163=>some f163
  | 164=>some f164
  | 165=>some f165
  | 166=>some f166
  | 168=>some f168
  | 170=>some f170
  | 171=>some f171
  | 172=>some f172
  | 173=>some f173
  | 174=>some f174
  | 175=>some f175
  | 177=>some f177
  | 178=>some f178
  | 179=>some f179
  | 180=>some f180
  | 181=>some f181
  | 182=>some f182
  | 187=>some f187
  | 188=>some f188
  | 189=>some f189
  | 194=>some f194
  | 196=>some f196
  | 198=>some f198
  | 199=>some f199
  | 200=>some f200
  | 69=>some f69
  | _=>none
noncomputable def Df:FuncId → Option DFun
  | 69=>some d69
  | _=>none
end Go.Proofs.YtaadjlpfdajggaaGreatDoor.C
