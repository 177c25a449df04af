import Derived.Test.YtaadjlpfdajggaaGreatDoorFjAm24
import Derived.Test.YtaadjlpfdajggaaGreatDoorProg
namespace Go.Proofs.YtaadjlpfdajggaaGreatDoor.C
open Go Go.AM
def f5r0:LO:=[oQ 1 (.box 37 (oT 0)) 0,
 oQ 2 (.assign kF) 4]
def f5r1:LO:=[oL 7 37 1 37,
 oQ 8 (cF 18 #[(oT 7),(kI 60)] #[37,3]) 37,
 oS 37 1 8 0]
def f5r2:LO:=[oL 10 37 1 37,
 oQ 11 (cF 26 #[(oT 10)] #[37]) 55,
 oM 9 11 55,
 oX 12 9 0 54,
 oX 13 9 1 28,
 oQ 3 (.alloc 54) 0,
 oS 54 3 12 0,
 oA 4 13 28]
def f5r3:LO:=[oL 15 37 1 37,
 oQ 16 (cF 19 #[(oT 15)] #[37]) 39,
 oQ 17 (cF 27 #[(oT 16)] #[39]) 62,
 oM 14 17 62,
 oX 18 14 0 61,
 oX 19 14 1 28,
 oQ 5 (.alloc 61) 0,
 oS 61 5 18 0,
 oA 6 19 28]
def f5r4p0:LO:=[oL 20 54 3 54,
 oQ 21 (cF 28 #[(oT 20)] #[54]) 61,
 oL 22 61 5 61,
 oB .eql 23 61 21 22 4,
 oM 24 23 4,
  gM 25 4 28 24 true,
  gM 26 6 28 24 true,
 oG 27 (.binOp .eql 28 (oT 25) (oT 26) 28) 4 24 true,
 oP 28 24 27 4]
def f5r4p1:LO:=[oM 29 28 4,
 oG 30 (cF 29 #[] #[]) 4 29 true,
 oP 31 29 30 4]
def f5r4p2:LO:=[oA 2 31 4]
def f5r4:LO:=f5r4p0 ++ (f5r4p1 ++ f5r4p2)
def f5:AFun:=⟨32,[(.tmp 2)],(.seq (.ops false f5r0) (.seq (.ops false f5r1) (.seq (.ops false f5r2) (.seq (.ops false f5r3) (.seq (.ops true f5r4) .ret)))))⟩
noncomputable def f16:AFun:=⟨30,[(.tmp 2),(.tmp 3)],cvF Tryz.f16 (.seq hO (.seq (.seq hO (hC (.seq hO .ret) .skip)) (.seq hO (.seq (.block 0 (.loop [0,4] (.seq (.seq hO (hC .skip (.exit 0))) (.block 1 (.seq hO (.seq (.seq hO (hC (.seq hO .ret) .skip)) hO)))))) (.seq hO .ret)))))⟩
def f18r0:LO:=[oQ 2 (.box 37 (oT 0)) 0,
 oQ 4 (.alloc 37) 0]
def f18r1:LO:=[oF 5 37 2 0 0,
 oL 6 35 5 35,
 oF 7 37 2 0 0,
 oL 8 35 7 35,
 oQ 9 (cB .len #[(oT 8)] #[35]) 3,
 oM 10 1 3,
 oQ 11 (cB .min #[(oT 9),(oT 10)] #[3,3]) 3,
 oQ 12 (.slice 35 (oT 6) none (some (oT 11)) none) 35,
 oQ 13 (.build 37 #[(0,(oT 12))]) 37,
 oS 37 4 13 0]
def f18:AFun:=⟨14,[(.cell 4 37)],(.seq (.ops false f18r0) (.seq (.ops false f18r1) .ret))⟩
def f19r0:LO:=[oQ 1 (.box 37 (oT 0)) 0,
 oQ 2 (.assign (.const (.slice none 0 0))) 39]
def f19r1:LO:=[oQ 5 (.buildSlice 39 0 #[]) 39,
 oA 3 5 39]
def f19r2:LO:=[oZ 4 0 3]
def f19r3:LO:=[oM 6 4 3,
 oF 7 37 1 0 0,
 oL 8 35 7 35,
 oQ 9 (cB .len #[(oT 8)] #[35]) 3,
 oB .lss 10 3 6 9 4]
def f19r5:LO:=[oM 13 3 39,
 oF 14 37 1 0 0,
 oL 15 35 14 35,
 oM 16 4 3,
 oI 17 35 15 16 0,
 oL 18 72 17 72,
 oQ 19 (cF 50 #[(oT 18)] #[72]) 97,
 oQ 20 (.buildSlice 39 1 #[(0,(oT 19))]) 39,
 oQ 21 (cB .append #[(oT 13),(oT 20)] #[39,39]) 39,
 oA 3 21 39]
def f19r4:LO:=[oM 11 4 3,
 oV .add 12 3 11 1 3,
 oA 4 12 3]
def f19b0:AC:=(.seq (.seq (.ops false f19r3) (.cond (oT 10) .skip (.exit 0))) (.seq (.block 1 (.ops false f19r5)) (.ops false f19r4)))
def f19r6:LO:=[oM 22 3 39,
 oA 2 22 39]
def f19:AFun:=⟨23,[(.tmp 2)],(.seq (.ops false f19r0) (.seq (.ops false f19r1) (.seq (.seq (.ops false f19r2) (.block 0 (.loop [1,3,4] f19b0))) (.seq (.ops false f19r6) .ret))))⟩
def f26r0:LO:=[oQ 1 (.box 37 (oT 0)) 0,
 oQ 2 (.alloc 54) 0,
 oZ 3 0 28]
def f26r1:LO:=[oL 5 37 1 37,
 oQ 6 (cF 40 #[(oT 5)] #[37]) 28,
 oA 4 6 28]
def f26r2:LO:=[oM 7 4 28,
 oV .neq 8 28 7 0 4]
def f26r3:LO:=[oQ 9 (.build 54 #[]) 54,
 oM 10 4 28,
 oS 54 2 9 0,
 oA 3 10 28]
def f26r4:LO:=[oL 11 37 1 37,
 oQ 12 (cF 57 #[(oT 11)] #[37]) 108,
 oF 13 37 1 0 0,
 oL 14 35 13 35,
 oQ 15 (cB .len #[(oT 14)] #[35]) 3,
 oV .sub 16 3 15 1 3,
 oI 17 108 12 16 0,
 oF 18 107 17 0 0,
 oL 19 54 18 54,
 oS 54 2 19 0,
 oZ 3 0 28]
def f26:AFun:=⟨20,[(.cell 2 54),(.tmp 3)],(.seq (.ops false f26r0) (.seq (.seq (.ops false f26r1) (.seq (.ops false f26r2) (.cond (.tmp 8) (.seq (.ops false f26r3) .ret) .skip))) (.seq (.ops true f26r4) .ret)))⟩
def f27r0:LO:=[oQ 2 (.alloc 61) 0,
 oZ 3 0 28]
def f27r1:LO:=[oM 7 0 39,
 oQ 8 (cF 53 #[(oT 7)] #[39]) 28,
 oA 4 8 28]
def f27r2:LO:=[oM 9 4 28,
 oV .neq 10 28 9 0 4]
def f27r3:LO:=[oQ 11 (.build 61 #[]) 61,
 oM 12 4 28,
 oS 61 2 11 0,
 oA 3 12 28]
def f27r4:LO:=[oM 14 0 39,
 oM 15 0 39,
 oQ 16 (cB .len #[(oT 15)] #[39]) 3,
 oV .sub 17 3 16 1 3,
 oQ 18 (cF 58 #[(oT 14),(oT 17)] #[39,3]) 110,
 oM 13 18 110,
 oX 19 13 0 61,
 oX 20 13 1 4,
 oQ 5 (.alloc 61) 0,
 oS 61 5 19 0,
 oA 6 20 4]
def f27r5:LO:=[oL 21 61 5 61,
 oS 61 2 21 0,
 oZ 3 0 28]
def f27:AFun:=⟨22,[(.cell 2 61),(.tmp 3)],(.seq (.ops false f27r0) (.seq (.ops false f27r1) (.seq (.seq (.ops false f27r2) (.cond (.tmp 10) (.seq (.ops false f27r3) .ret) .skip)) (.seq (.ops false f27r4) (.seq (.ops false f27r5) .ret)))))⟩
def f28r0:LO:=[oQ 1 (.box 54 (oT 0)) 0,
 oQ 2 (.alloc 61) 0]
def f28r1:LO:=[oF 3 54 1 0 0,
 oF 4 25 3 0 0,
 oL 5 23 4 23,
 oQ 6 (cF 59 #[(oT 5)] #[23]) 59,
 oF 7 54 1 1 0,
 oL 8 4 7 4,
 oF 9 54 1 2 0,
 oL 10 4 9 4,
 oF 11 54 1 3 0,
 oL 12 9 11 9,
 oQ 13 (.build 61 #[(0,(oT 6)),(1,(oT 8)),(2,(oT 10)),(3,(oT 12))]) 61,
 oS 61 2 13 0]
def f28:AFun:=⟨14,[(.cell 2 61)],(.seq (.ops false f28r0) (.seq (.ops true f28r1) .ret))⟩
noncomputable def f29:AFun:=⟨74,[(.tmp 0)],cvF Tryz.f29 (.seq hO (.seq hO (.seq hO (.seq hQ .ret))))⟩
noncomputable def f30:AFun:=⟨53,[(.tmp 6)],cvF Tryz.f30 (.seq hO (.seq (.seq hO (hC (.seq hO .ret) .skip)) (.seq (.seq hO (hC (.seq hO .ret) .skip)) (.seq hO .ret))))⟩
noncomputable def f33:AFun:=⟨28,[(.cell 4 37)],cvF Tryz.f33 (.seq hO (.seq hO (.seq hO (.seq hO (.seq hO .ret)))))⟩
noncomputable def f35:AFun:=⟨15,[(.tmp 4)],cvF Tryz.f35 (.seq hO (.seq hO .ret))⟩
noncomputable def f37:AFun:=⟨74,[(.cell 6 37)],cvF Tryz.f37 (.seq hO (.seq hO (.seq hO (.seq hO (.seq (.seq hO (.block 0 (.loop [2,6,7,8,31,32,33] (.seq hO (.seq (hC .skip (.exit 0)) (.seq (.block 1 (.seq hO (.seq (.seq hO (hC hO .skip)) (.seq (.seq hO (hC hO .skip)) hO)))) hO)))))) (.seq hO .ret))))))⟩
def f38r0:LO:=[oQ 2 (.box 25 (oT 0)) 0,
 oQ 3 (.box 25 (oT 1)) 0,
 oQ 4 (.alloc 25) 0]
def f38r1:LO:=[oQ 6 (.move (kI 0)) 3]
def f38r2:LO:=[oV .lss 7 3 6 4 0]
def f38r3:LO:=[oM 8 6 3,
 oA 5 8 3]
def f38r4:LO:=[oM 9 5 3,
 oF 10 25 2 0 0,
 oI 11 23 10 9 0,
 oL 12 22 11 22,
 oM 13 5 3,
 oF 14 25 3 0 0,
 oI 15 23 14 13 0,
 oL 16 22 15 22,
 oB .or 17 22 12 16 22,
 oF 18 25 2 0 0,
 oI 19 23 18 9 0,
 oS 22 19 17 0]
def f38r5:LO:=[oV .add 20 3 6 1 3,
 oM 6 20 3]
def f38b0:AC:=(.seq (.ops false f38r2) (.seq (.cond (oT 7) .skip (.exit 0)) (.seq (.block 1 (.seq (.ops false f38r3) (.ops true f38r4))) (.ops false f38r5))))
def f38r6:LO:=[oL 21 25 2 25,
 oS 25 4 21 0]
def f38:AFun:=⟨22,[(.cell 4 25)],(.seq (.ops false f38r0) (.seq (.seq (.ops false f38r1) (.block 0 (.loop [2,3,4,6] f38b0))) (.seq (.ops false f38r6) .ret)))⟩
def f40r0:LO:=[oQ 1 (.box 37 (oT 0)) 0,
 oZ 2 0 28]
def f40r1:LO:=[oL 8 37 1 37,
 oQ 9 (cF 64 #[(oT 8)] #[37]) 28,
 oA 3 9 28]
def f40r2:LO:=[oM 10 3 28,
 oV .neq 11 28 10 0 4]
def f40r3:LO:=[oM 12 3 28,
 oA 2 12 28]
def f40r4:LO:=[oL 13 37 1 37,
 oQ 14 (cF 68 #[(oT 13)] #[37]) 4,
 oQ 15 (.unOp .not 4 (oT 14)) 4]
def f40r5:LO:=[oZ 2 6 28]
def f40r6:LO:=[oL 17 37 1 37,
 oQ 18 (cF 65 #[(oT 17)] #[37]) 118,
 oM 16 18 118,
 oX 19 16 0 100,
 oX 20 16 1 100,
 oA 4 19 100,
 oA 5 20 100]
def f40r7:LO:=[oF 21 37 1 0 0,
 oL 22 35 21 35,
 oQ 23 (cB .len #[(oT 22)] #[35]) 3,
 oQ 24 (.move (kI 0)) 3]
def f40r8:LO:=[oB .lss 25 3 24 23 0]
def f40r9:LO:=[oI 26 35 22 24 0,
 oL 27 72 26 72,
 oQ 7 (.alloc 72) 0,
 oS 72 7 27 0]
def f40r10:LO:=[oF 28 72 7 0 0,
 oL 29 3 28 3,
 oV .neq 30 3 29 15 4,
 oM 31 30 4,
  gF 32 72 7 0 0 31 true,
  gL 33 3 32 3 31 true,
 oG 34 (.binOp .neq 3 (oT 33) (kI 16) 3) 4 31 true,
 oP 35 31 34 4]
def f40r11:LO:=[oM 36 4 100,
 oF 37 72 7 1 0,
 oL 38 3 37 3,
 oI 39 100 36 38 0,
 oL 40 3 39 3,
 oM 41 5 100,
 oF 42 72 7 1 0,
 oL 43 3 42 3,
 oI 44 100 41 43 0,
 oL 45 3 44 3,
 oB .neq 46 3 40 45 4,
 oM 47 46 4,
  gM 48 4 100 47 false,
  gF 49 72 7 1 0 47 false,
  gL 50 3 49 3 47 false,
 oG 51 (.indexAddr 100 (oT 48) (oT 50)) 0 47 false,
  gL 52 3 51 3 47 false,
 oG 53 (.binOp .gtr 3 (oT 52) (kI 255) 3) 4 47 false,
 oO 54 47 53 4]
def f40r12:LO:=[oZ 2 7 28]
def f40r13:LO:=[oV .add 55 3 24 1 3,
 oM 24 55 3]
def f40b0:AC:=(.seq (.ops false f40r8) (.seq (.cond (oT 25) .skip (.exit 0)) (.seq (.block 1 (.seq (.ops false f40r9) (.seq (.seq (.ops false f40r10) (.cond (oT 35) (.exit 1) .skip)) (.seq (.ops true f40r11) (.cond (oT 54) (.seq (.ops false f40r12) .ret) .skip))))) (.ops false f40r13))))
def f40r14:LO:=[oZ 2 0 28]
def f40:AFun:=⟨56,[(.tmp 2)],(.seq (.ops false f40r0) (.seq (.seq (.ops false f40r1) (.seq (.ops false f40r2) (.cond (.tmp 11) (.seq (.ops false f40r3) .ret) .skip))) (.seq (.seq (.ops false f40r4) (.cond (.tmp 15) (.seq (.ops false f40r5) .ret) .skip)) (.seq (.ops false f40r6) (.seq (.seq (.ops false f40r7) (.block 0 (.loop [4,5,22,23,24] f40b0))) (.seq (.ops false f40r14) .ret))))))⟩
noncomputable def f41:AFun:=⟨33,[(.cell 2 37),(.tmp 3)],cvF Tryz.f41 (.seq hO (.seq hO (.seq (.seq hO (hC (.seq hO .ret) .skip)) (.seq hO (.seq (.seq hO (hC (.seq hO .ret) .skip)) (.seq (.seq hO (.seq hO (hC (.seq hO .ret) .skip))) (.seq hO .ret)))))))⟩
def f44r0:LO:=[oQ 1 (.box 25 (oT 0)) 0,
 oZ 2 0 3]
def f44r1:LO:=[oZ 3 0 3]
def f44r2:LO:=[oF 6 25 1 0 0,
 oL 7 23 6 23,
 oQ 8 (.move (kI 0)) 3]
def f44r3:LO:=[oV .lss 9 3 8 4 0]
def f44r4:LO:=[oQ 10 (.index 23 (oT 7) (oT 8)) 22,
 oA 5 10 22]
def f44r5:LO:=[oM 11 3 3,
 oM 12 5 22,
 oQ 13 (cF 72 #[(oT 12)] #[22]) 3,
 oB .add 14 3 11 13 3,
 oA 3 14 3]
def f44r6:LO:=[oV .add 15 3 8 1 3,
 oM 8 15 3]
def f44b0:AC:=(.seq (.ops false f44r3) (.seq (.cond (oT 9) .skip (.exit 0)) (.seq (.block 1 (.seq (.ops false f44r4) (.ops false f44r5))) (.ops false f44r6))))
def f44r7:LO:=[oM 16 3 3,
 oA 2 16 3]
def f44:AFun:=⟨17,[(.tmp 2)],(.seq (.ops false f44r0) (.seq (.ops false f44r1) (.seq (.seq (.ops false f44r2) (.block 0 (.loop [3,7,8] f44b0))) (.seq (.ops false f44r7) .ret))))⟩
noncomputable def f46:AFun:=⟨66,[(.cell 2 33),(.tmp 3),(.tmp 4)],cvF Tryz.f46 (.seq hO (.seq (.seq hO (.seq hO (hC (.seq hO .ret) .skip))) (.seq (.seq hO (.block 0 (.seq (.block 6 (.block 5 (.seq (.block 4 (.seq (.block 3 (.seq (.block 2 (.seq (.block 1 (.seq (.seq (.seq hO (hC (.exit 1) .skip)) (.seq (.seq (.seq hO (hC .skip (.seq hO (hC .skip (.seq hO (hC .skip hO)))))) (hC (.exit 2) .skip)) (.seq (.seq hO (hC (.exit 3) .skip)) (.seq (.seq hO (hC (.exit 4) .skip)) (.seq (.seq hO (hC (.exit 5) .skip)) (.seq hO (hC (.exit 6) .skip))))))) (.exit 0))) (.seq (.seq hO .ret) (.exit 0)))) (.seq (.seq hO .ret) (.exit 0)))) (.seq (.seq hO (.seq hO .ret)) (.exit 0)))) (.seq (.seq hO .ret) (.exit 0))))) (.seq (.seq hO .ret) (.exit 0))))) (.seq hO .ret))))⟩
noncomputable def f47:AFun:=⟨6,[(.cell 2 37)],cvF Tryz.f47 (.seq hO (.seq hO .ret))⟩
noncomputable def f48:AFun:=⟨17,[(.cell 2 25)],cvF Tryz.f48 (.seq hO (.seq hO (.seq (.seq hO (.block 0 (.loop [2,3,7,8,9] (.seq hO (.seq (hC .skip (.exit 0)) (.seq (.block 1 (.seq hO hO)) hO)))))) (.seq hO .ret))))⟩
noncomputable def f49:AFun:=⟨7,[(.cell 2 25)],cvF Tryz.f49 (.seq hO (.seq hO (.seq hO (.seq hO .ret))))⟩
def f50r0:LO:=[oQ 1 (.box 72 (oT 0)) 0,
 oQ 2 (.alloc 97) 0]
def f50r1:LO:=[oF 3 72 1 0 0,
 oL 4 3 3 3,
 oF 5 72 1 1 0,
 oL 6 3 5 3,
 oF 7 72 1 2 0,
 oL 8 3 7 3,
 oF 9 72 1 3 0,
 oF 10 25 9 0 0,
 oL 11 23 10 23,
 oF 12 72 1 4 0,
 oL 13 3 12 3,
 oF 14 72 1 5 0,
 oL 15 3 14 3,
 oF 16 72 1 6 0,
 oL 17 3 16 3,
 oF 18 72 1 7 0,
 oL 19 3 18 3,
 oF 20 72 1 8 0,
 oL 21 4 20 4,
 oQ 22 (.build 97 #[(0,(oT 4)),(1,(oT 6)),(2,(oT 8)),(3,(oT 11)),(4,(oT 13)),(5,(oT 15)),(6,(oT 17)),(7,(oT 19)),(8,(oT 21))]) 97,
 oS 97 2 22 0]
def f50:AFun:=⟨23,[(.cell 2 97)],(.seq (.ops false f50r0) (.seq (.ops false f50r1) .ret))⟩
def f53r0:LO:=[oZ 2 0 28]
def f53r1:LO:=[oM 10 0 39,
 oQ 11 (cF 80 #[(oT 10)] #[39]) 28,
 oA 3 11 28]
def f53r2:LO:=[oM 12 3 28,
 oV .neq 13 28 12 0 4]
def f53r3:LO:=[oM 14 3 28,
 oA 2 14 28]
def f53r4:LO:=[oM 15 0 39,
 oM 16 0 39,
 oQ 17 (cB .len #[(oT 16)] #[39]) 3,
 oV .sub 18 3 17 1 3,
 oQ 19 (cF 81 #[(oT 15),(oT 18)] #[39,3]) 100,
 oA 4 19 100]
def f53r5:LO:=[oM 20 4 100,
 oQ 21 (cB .len #[(oT 20)] #[100]) 3,
 oV .gtr 22 3 21 9 4]
def f53r6:LO:=[oZ 2 6 28]
def f53r7:LO:=[oZ 5 0 3]
def f53r8:LO:=[oM 23 5 3,
 oM 24 4 100,
 oQ 25 (cB .len #[(oT 24)] #[100]) 3,
 oB .lss 26 3 23 25 4]
def f53r10:LO:=[oM 29 4 100,
 oM 30 5 3,
 oI 31 100 29 30 0,
 oL 32 3 31 3,
 oM 33 5 3,
 oV .add 34 3 33 1 3,
 oB .neq 35 3 32 34 4]
def f53r11:LO:=[oZ 2 6 28]
def f53r9:LO:=[oM 27 5 3,
 oV .add 28 3 27 1 3,
 oA 5 28 3]
def f53b0:AC:=(.seq (.seq (.ops false f53r8) (.cond (oT 26) .skip (.exit 0))) (.seq (.block 1 (.seq (.ops false f53r10) (.cond (oT 35) (.seq (.ops false f53r11) .ret) .skip))) (.ops false f53r9)))
def f53r12:LO:=[oZ 6 0 3]
def f53r13:LO:=[oM 36 6 3,
 oM 37 0 39,
 oQ 38 (cB .len #[(oT 37)] #[39]) 3,
 oB .lss 39 3 36 38 4]
def f53r15:LO:=[oM 42 0 39,
 oM 43 6 3,
 oI 44 39 42 43 0,
 oF 45 97 44 0 0,
 oL 46 3 45 3,
 oE 47 3 46 12 4,
 oM 48 47 4,
  gM 49 0 39 48 true,
  gM 50 6 3 48 true,
 oG 51 (.indexAddr 39 (oT 49) (oT 50)) 0 48 true,
  gF 52 97 51 7 0 48 true,
  gL 53 3 52 3 48 true,
 oG 54 (.binOp .lss 3 (oT 53) (kI 1) 3) 4 48 true,
  gM 55 54 4 48 true,
  gM 56 0 39 55 false,
  gM 57 6 3 55 false,
 oG 58 (.indexAddr 39 (oT 56) (oT 57)) 0 55 false,
  gF 59 97 58 7 0 55 false,
  gL 60 3 59 3 55 false,
  gM 61 4 100 55 false,
 oG 62 (cB .len #[(oT 61)] #[100]) 3 55 false,
 oG 63 (.binOp .gtr 3 (oT 60) (oT 62) 3) 4 55 false,
 oG 64 (.pick (oT 55) kT (oT 63)) 4 48 true,
 oP 65 48 64 4]
def f53r16:LO:=[oZ 2 6 28]
def f53r14:LO:=[oM 40 6 3,
 oV .add 41 3 40 1 3,
 oA 6 41 3]
def f53b1:AC:=(.seq (.seq (.ops false f53r13) (.cond (oT 39) .skip (.exit 2))) (.seq (.block 3 (.seq (.ops false f53r15) (.cond (oT 65) (.seq (.ops false f53r16) .ret) .skip))) (.ops false f53r14)))
def f53r17:LO:=[oZ 7 0 3]
def f53r18:LO:=[oM 66 7 3,
 oM 67 0 39,
 oQ 68 (cB .len #[(oT 67)] #[39]) 3,
 oB .lss 69 3 66 68 4]
def f53r20:LO:=[oM 72 0 39,
 oM 73 7 3,
 oI 74 39 72 73 0,
 oF 75 97 74 0 0,
 oL 76 3 75 3,
 oE 77 3 76 15 4,
 oM 78 77 4,
  gM 79 0 39 78 false,
  gM 80 7 3 78 false,
 oG 81 (.indexAddr 39 (oT 79) (oT 80)) 0 78 false,
  gF 82 97 81 0 0 78 false,
  gL 83 3 82 3 78 false,
 oG 84 (.binOp .eql 3 (oT 83) (kI 16) 3) 4 78 false,
 oO 85 78 84 4]
def f53r21:LO:=[oM 87 0 39,
 oM 88 0 39,
 oM 89 7 3,
 oI 90 39 88 89 0,
 oF 91 97 90 1 0,
 oL 92 3 91 3,
 oQ 93 (cF 82 #[(oT 87),(oT 92)] #[39,3]) 136,
 oM 86 93 136,
 oX 94 86 0 3,
 oX 95 86 1 3,
 oA 8 94 3,
 oA 9 95 3]
def f53r22:LO:=[oM 96 8 3,
 oM 97 9 3,
 oB .neq 98 3 96 97 4,
 oM 99 98 4,
  gM 100 8 3 99 false,
 oG 101 (.binOp .gtr 3 (oT 100) (kI 255) 3) 4 99 false,
 oO 102 99 101 4]
def f53r23:LO:=[oZ 2 7 28]
def f53r19:LO:=[oM 70 7 3,
 oV .add 71 3 70 1 3,
 oA 7 71 3]
def f53b2:AC:=(.seq (.seq (.ops false f53r18) (.cond (oT 69) .skip (.exit 4))) (.seq (.block 5 (.seq (.ops false f53r20) (.cond (oT 85) (.seq (.ops false f53r21) (.seq (.ops false f53r22) (.cond (oT 102) (.seq (.ops false f53r23) .ret) .skip))) .skip))) (.ops false f53r19)))
def f53r24:LO:=[oZ 2 0 28]
def f53:AFun:=⟨103,[(.tmp 2)],(.seq (.ops false f53r0) (.seq (.ops false f53r1) (.seq (.seq (.ops false f53r2) (.cond (.tmp 13) (.seq (.ops false f53r3) .ret) .skip)) (.seq (.ops false f53r4) (.seq (.seq (.ops false f53r5) (.cond (.tmp 22) (.seq (.ops false f53r6) .ret) .skip)) (.seq (.seq (.ops false f53r7) (.block 0 (.loop [0,4,5] f53b0))) (.seq (.seq (.ops false f53r12) (.block 2 (.loop [0,4,6] f53b1))) (.seq (.seq (.ops false f53r17) (.block 4 (.loop [0,7] f53b2))) (.seq (.ops false f53r24) .ret)))))))))⟩
def f57r0:LO:=[oQ 1 (.box 37 (oT 0)) 0,
 oQ 2 (.assign (.const (.slice none 0 0))) 108]
def f57r1:LO:=[oF 6 37 1 0 0,
 oL 7 35 6 35,
 oQ 8 (cB .len #[(oT 7)] #[35]) 3,
 oQ 9 (.makeSlice 108 (oT 8) (oT 8)) 108,
 oA 3 9 108]
def f57r2:LO:=[oF 10 37 1 0 0,
 oL 11 35 10 35,
 oQ 12 (cB .len #[(oT 11)] #[35]) 3,
 oQ 13 (.move (kI 0)) 3]
def f57r3:LO:=[oB .lss 14 3 13 12 0]
def f57r4:LO:=[oM 15 13 3,
 oI 16 35 11 13 0,
 oL 17 72 16 72,
 oQ 5 (.alloc 72) 0,
 oA 4 15 3,
 oS 72 5 17 0]
def f57r5:LO:=[oF 18 72 5 0 0,
 oL 19 3 18 3]
def f57r7:LO:=[oE 25 3 19 1 4,
 oA 24 25 4]
def f57r8:LO:=[oM 26 3 108,
 oM 27 4 3,
 oF 28 72 5 3 0,
 oL 29 25 28 25,
 oQ 30 (cF 86 #[(oT 29)] #[25]) 107,
 oI 31 108 26 27 0,
 oS 107 31 30 0]
def f57r9:LO:=[oE 33 3 19 2 4,
 oA 32 33 4]
def f57r10:LO:=[oM 34 3 108,
 oM 35 4 3,
 oQ 36 (cF 87 #[] #[]) 107,
 oI 37 108 34 35 0,
 oS 107 37 36 0]
def f57r11:LO:=[oM 38 3 108,
 oM 39 4 3,
 oI 40 108 38 39 0,
 oF 41 107 40 0 0,
 oF 42 54 41 2 0,
 oN (.store 4 (oT 42) kT) 0]
def f57r12:LO:=[oE 44 3 19 12 4,
 oA 43 44 4]
def f57r13:LO:=[oM 45 3 108,
 oM 46 4 3,
 oQ 47 (cF 88 #[] #[]) 25,
 oQ 48 (.build 54 #[(0,(oT 47)),(1,kT)]) 54,
 oQ 49 (.build 107 #[(0,(oT 48))]) 107,
 oI 50 108 45 46 0,
 oS 107 50 49 0]
def f57r14:LO:=[oE 52 3 19 8 4,
 oA 51 52 4]
def f57r15:LO:=[oM 53 3 108,
 oM 54 4 3,
 oM 55 3 108,
 oF 56 72 5 1 0,
 oL 57 3 56 3,
 oI 58 108 55 57 0,
 oL 59 107 58 107,
 oM 60 3 108,
 oF 61 72 5 2 0,
 oL 62 3 61 3,
 oI 63 108 60 62 0,
 oL 64 107 63 107,
 oQ 65 (cF 89 #[(oT 59),(oT 64)] #[107,107]) 107,
 oI 66 108 53 54 0,
 oS 107 66 65 0]
def f57r16:LO:=[oE 68 3 19 9 4,
 oA 67 68 4]
def f57r17:LO:=[oM 69 3 108,
 oM 70 4 3,
 oM 71 3 108,
 oF 72 72 5 1 0,
 oL 73 3 72 3,
 oI 74 108 71 73 0,
 oL 75 107 74 107,
 oM 76 3 108,
 oF 77 72 5 2 0,
 oL 78 3 77 3,
 oI 79 108 76 78 0,
 oL 80 107 79 107,
 oQ 81 (cF 90 #[(oT 75),(oT 80)] #[107,107]) 107,
 oI 82 108 69 70 0,
 oS 107 82 81 0]
def f57r18:LO:=[oE 84 3 19 10 4,
 oA 83 84 4]
def f57r19:LO:=[oM 85 3 108,
 oM 86 4 3,
 oL 87 72 5 72,
 oM 88 3 108,
 oF 89 72 5 1 0,
 oL 90 3 89 3,
 oI 91 108 88 90 0,
 oL 92 107 91 107,
 oQ 93 (cF 91 #[(oT 87),(oT 92)] #[72,107]) 107,
 oI 94 108 85 86 0,
 oS 107 94 93 0]
def f57r20:LO:=[oE 96 3 19 11 4,
 oA 95 96 4]
def f57r21:LO:=[oE 97 3 19 17 4,
 oA 95 97 4]
def f57r22:LO:=[oM 98 3 108,
 oM 99 4 3,
 oM 100 3 108,
 oF 101 72 5 1 0,
 oL 102 3 101 3,
 oI 103 108 100 102 0,
 oL 104 107 103 107,
 oI 105 108 98 99 0,
 oS 107 105 104 0]
def f57r6:LO:=[oM 20 3 108,
 oM 21 4 3,
 oQ 22 (cF 87 #[] #[]) 107,
 oI 23 108 20 21 0,
 oS 107 23 22 0]
def f57r23:LO:=[oV .add 106 3 13 1 3,
 oM 13 106 3]
def f57b0:AC:=(.seq (.ops false f57r3) (.seq (.cond (oT 14) .skip (.exit 0)) (.seq (.block 1 (.seq (.ops false f57r4) (.seq (.ops false f57r5) (.block 2 (.seq (.ops false f57r7) (.cond (oT 24) (.ops false f57r8) (.seq (.ops false f57r9) (.cond (oT 32) (.seq (.ops false f57r10) (.ops false f57r11)) (.seq (.ops false f57r12) (.cond (oT 43) (.ops false f57r13) (.seq (.ops false f57r14) (.cond (oT 51) (.ops true f57r15) (.seq (.ops false f57r16) (.cond (oT 67) (.ops true f57r17) (.seq (.ops false f57r18) (.cond (oT 83) (.ops true f57r19) (.seq (.seq (.ops false f57r20) (.cond (oT 95) .skip (.ops false f57r21))) (.cond (oT 95) (.ops false f57r22) (.ops false f57r6))))))))))))))))))) (.ops false f57r23))))
def f57r24:LO:=[oM 107 3 108,
 oA 2 107 108]
def f57:AFun:=⟨108,[(.tmp 2)],(.seq (.ops false f57r0) (.seq (.ops false f57r1) (.seq (.seq (.ops false f57r2) (.block 0 (.loop [3,11,12,13] f57b0))) (.seq (.ops false f57r24) .ret))))⟩
def f58r0:LO:=[oQ 4 (.alloc 61) 0,
 oQ 5 (.assign kF) 4]
def f58r1:LO:=[oM 14 0 39,
 oM 15 1 3,
 oI 16 39 14 15 0,
 oL 17 97 16 97,
 oQ 18 (.build 59 #[]) 59,
 oQ 6 (.alloc 97) 0,
 oQ 7 (.alloc 59) 0,
 oS 97 6 17 0,
 oS 59 7 18 0]
def f58r2:LO:=[oF 19 97 6 0 0,
 oL 20 3 19 3]
def f58r3:LO:=[oE 22 3 20 1 4,
 oA 21 22 4]
def f58r4:LO:=[oF 23 97 6 3 0,
 oL 24 23 23 23,
 oQ 25 (cF 59 #[(oT 24)] #[23]) 59,
 oQ 8 (.alloc 59) 0,
 oS 59 8 25 0]
def f58r5:LO:=[oL 27 59 8 59,
 oQ 28 (cF 92 #[(oT 27)] #[59]) 145,
 oM 26 28 145,
 oX 29 26 0 5,
 oX 30 26 1 4,
 oA 9 29 5,
 oA 10 30 4]
def f58r6:LO:=[oL 31 59 8 59,
 oQ 32 (cF 93 #[(oT 31)] #[59]) 3,
 oE 33 3 32 1 4]
def f58r7:LO:=[oL 34 59 8 59,
 oM 35 9 5,
 oQ 36 (.buildSlice 128 1 #[(0,(oT 35))]) 128,
 oQ 37 (.convert 128 9 (oT 36)) 9,
 oQ 38 (.build 61 #[(0,(oT 34)),(1,kF),(2,kF),(3,(oT 37))]) 61,
 oS 61 4 38 0,
 oQ 5 (.assign kT) 4]
def f58r8:LO:=[oL 39 59 8 59,
 oQ 40 (.build 61 #[(0,(oT 39)),(1,kF),(2,kF),(3,(.const (.string { data:=#[] })))]) 61,
 oS 61 4 40 0,
 oQ 5 (.assign kF) 4]
def f58r9:LO:=[oE 42 3 20 12 4,
 oA 41 42 4]
def f58r10:LO:=[oQ 43 (cF 94 #[(kB 0),(kB 255)] #[5,5]) 59,
 oQ 44 (.build 61 #[(0,(oT 43)),(1,kT),(2,kF),(3,(.const (.string { data:=#[] })))]) 61,
 oS 61 4 44 0,
 oQ 5 (.assign kF) 4]
def f58r11:LO:=[oE 46 3 20 8 4,
 oA 45 46 4]
def f58r12:LO:=[oE 47 3 20 9 4,
 oA 45 47 4]
def f58r13:LO:=[oM 48 0 39,
 oL 49 97 6 97,
 oQ 50 (cF 95 #[(oT 48),(oT 49)] #[39,97]) 110,
 oX 51 50 0 61,
 oX 52 50 1 4,
 oS 61 4 51 0,
 oA 5 52 4]
def f58r14:LO:=[oE 54 3 20 11 4,
 oA 53 54 4]
def f58r15:LO:=[oE 55 3 20 17 4,
 oA 53 55 4]
def f58r16:LO:=[oM 56 0 39,
 oF 57 97 6 1 0,
 oL 58 3 57 3,
 oQ 59 (cF 58 #[(oT 56),(oT 58)] #[39,3]) 110,
 oX 60 59 0 61,
 oX 61 59 1 4,
 oS 61 4 60 0,
 oA 5 61 4]
def f58r17:LO:=[oE 63 3 20 10 4,
 oA 62 63 4]
def f58r18:LO:=[oM 65 0 39,
 oF 66 97 6 1 0,
 oL 67 3 66 3,
 oQ 68 (cF 58 #[(oT 65),(oT 67)] #[39,3]) 110,
 oM 64 68 110,
 oX 69 64 0 61,
 oX 70 64 1 4,
 oQ 11 (.alloc 61) 0,
 oS 61 11 69 0,
 oA 12 70 4]
def f58r19:LO:=[oF 71 97 6 5 0,
 oL 72 3 71 3,
 oE 73 3 72 0 4]
def f58r20:LO:=[oL 74 59 7 59,
 oQ 75 (.build 61 #[(0,(oT 74)),(1,kT),(2,kF),(3,(.const (.string { data:=#[] })))]) 61,
 oS 61 4 75 0,
 oQ 5 (.assign kT) 4]
def f58r21:LO:=[oF 76 61 11 3 0,
 oL 77 9 76 9,
 oA 13 77 9]
def f58r22:LO:=[oF 78 97 6 4 0,
 oL 79 3 78 3,
 oE 80 3 79 0 4]
def f58r23:LO:=[oQ 13 (.assign (.const (.string { data:=#[] }))) 9]
def f58r24p0:LO:=[oF 81 61 11 0 0,
 oL 82 59 81 59,
 oF 83 61 11 1 0,
 oL 84 4 83 4,
 oM 85 84 4,
  gF 86 97 6 4 0 85 false,
  gL 87 3 86 3 85 false,
 oG 88 (.binOp .eql 3 (oT 87) (kI 0) 3) 4 85 false,
 oO 89 85 88 4]
def f58r24p1:LO:=[oF 90 61 11 2 0,
 oL 91 4 90 4,
 oM 92 91 4,
  gF 93 97 6 4 0 92 true,
  gL 94 3 93 3 92 true,
 oG 95 (.binOp .gtr 3 (oT 94) (kI 0) 3) 4 92 true,
 oP 96 92 95 4]
def f58r24p2:LO:=[oM 97 13 9,
 oQ 98 (.build 61 #[(0,(oT 82)),(1,(oT 89)),(2,(oT 96)),(3,(oT 97))]) 61,
 oM 99 12 4,
 oM 100 99 4,
  gF 101 97 6 4 0 100 true,
  gL 102 3 101 3 100 true,
 oG 103 (.binOp .eql 3 (oT 102) (kI 1) 3) 4 100 true,
 oP 104 100 103 4]
def f58r24p3:LO:=[oM 105 104 4,
  gF 106 97 6 5 0 105 true,
  gL 107 3 106 3 105 true,
 oG 108 (.binOp .eql 3 (oT 107) (kI 1) 3) 4 105 true,
 oP 109 105 108 4]
def f58r24p4:LO:=[⟨none,.pick kT (oT 98) (oT 4),0,none⟩,
 oA 5 109 4]
def f58r24:LO:=f58r24p0 ++ (f58r24p1 ++ (f58r24p2 ++ (f58r24p3 ++ f58r24p4)))
def f58r25:LO:=[oL 110 59 7 59,
 oF 111 97 6 0 0,
 oL 112 3 111 3,
 oE 113 3 112 2 4,
 oQ 114 (.build 61 #[(0,(oT 110)),(1,kT),(2,(oT 113)),(3,(.const (.string { data:=#[] })))]) 61,
 oS 61 4 114 0,
 oQ 5 (.assign kT) 4]
def f58:AFun:=⟨115,[(.cell 4 61),(.tmp 5)],(.seq (.ops false f58r0) (.seq (.ops false f58r1) (.seq (.seq (.ops false f58r2) (.block 0 (.seq (.ops false f58r3) (.cond (.tmp 21) (.seq (.ops false f58r4) (.seq (.ops false f58r5) (.seq (.seq (.ops false f58r6) (.cond (.tmp 33) (.seq (.ops false f58r7) .ret) .skip)) (.seq (.ops false f58r8) .ret)))) (.seq (.ops false f58r9) (.cond (.tmp 41) (.seq (.ops false f58r10) .ret) (.seq (.seq (.ops false f58r11) (.cond (.tmp 45) .skip (.ops false f58r12))) (.cond (.tmp 45) (.seq (.ops false f58r13) .ret) (.seq (.seq (.ops false f58r14) (.cond (.tmp 53) .skip (.ops false f58r15))) (.cond (.tmp 53) (.seq (.ops false f58r16) .ret) (.seq (.ops false f58r17) (.cond (.tmp 62) (.seq (.ops false f58r18) (.seq (.seq (.ops false f58r19) (.cond (.tmp 73) (.seq (.ops false f58r20) .ret) .skip)) (.seq (.ops false f58r21) (.seq (.seq (.ops false f58r22) (.cond (.tmp 80) (.ops false f58r23) .skip)) (.seq (.late true 61 4 (.tmp 98) f58r24) .ret))))) .skip)))))))))))) (.seq (.ops false f58r25) .ret))))⟩
def f59r0:LO:=[oQ 1 (.box 23 (oT 0)) 0,
 oQ 2 (.alloc 59) 0]
def f59r1:LO:=[oQ 7 (.build 59 #[]) 59,
 oQ 3 (.alloc 59) 0,
 oS 59 3 7 0]
def f59r2:LO:=[oZ 4 0 3]
def f59r3:LO:=[oM 8 4 3,
 oV .lss 9 3 8 256 4]
def f59r5:LO:=[oM 12 4 3,
 oV .quo 13 3 12 64 3,
 oI 14 23 1 13 0,
 oL 15 22 14 22,
 oA 5 15 22]
def f59r6:LO:=[oZ 6 0 3]
def f59r7:LO:=[oM 16 6 3,
 oM 17 4 3,
 oV .rem 18 3 17 64 3,
 oB .lss 19 3 16 18 4]
def f59r9:LO:=[oM 22 5 22,
 oQ 23 (.binOp .quo 22 (oT 22) (kW 2) 22) 22,
 oA 5 23 22]
def f59r8:LO:=[oM 20 6 3,
 oV .add 21 3 20 1 3,
 oA 6 21 3]
def f59b0:AC:=(.seq (.seq (.ops false f59r7) (.cond (oT 19) .skip (.exit 2))) (.seq (.block 3 (.ops false f59r9)) (.ops false f59r8)))
def f59r10:LO:=[oM 24 4 3,
 oM 25 5 22,
 oQ 26 (.binOp .rem 22 (oT 25) (kW 2) 22) 22,
 oQ 27 (.binOp .eql 22 (oT 26) (kW 1) 22) 4,
 oF 28 59 3 0 0,
 oI 29 57 28 24 0,
 oS 4 29 27 0]
def f59r4:LO:=[oM 10 4 3,
 oV .add 11 3 10 1 3,
 oA 4 11 3]
def f59b1:AC:=(.seq (.seq (.ops false f59r3) (.cond (oT 9) .skip (.exit 0))) (.seq (.block 1 (.seq (.ops false f59r5) (.seq (.seq (.ops false f59r6) (.block 2 (.loop [1,2,3,4,5,6] f59b0))) (.ops false f59r10)))) (.ops false f59r4)))
def f59r11:LO:=[oL 30 59 3 59,
 oS 59 2 30 0]
def f59:AFun:=⟨31,[(.cell 2 59)],(.seq (.ops false f59r0) (.seq (.ops false f59r1) (.seq (.seq (.ops false f59r2) (.block 0 (.loop [1,2,3,4] f59b1))) (.seq (.ops false f59r11) .ret))))⟩
noncomputable def f60:AFun:=⟨18,[(.cell 2 54)],cvF Tryz.f60 (.seq hO (.seq hO (.seq hO (.seq hO .ret))))⟩
noncomputable def f61:AFun:=⟨8,[(.tmp 4)],cvF Tryz.f61 (.seq hO (.seq hO .ret))⟩
def f62r0:LO:=[oQ 1 (.box 37 (oT 0)) 0,
 oQ 2 (.assign (.const (.slice none 0 0))) 100,
 oQ 3 (.assign kF) 4]
def f62r1:LO:=[oF 11 37 1 0 0,
 oL 12 35 11 35,
 oQ 13 (cB .len #[(oT 12)] #[35]) 3,
 oQ 14 (.makeSlice 100 (oT 13) (oT 13)) 100,
 oA 4 14 100]
def f62r2:LO:=[oF 15 37 1 0 0,
 oL 16 35 15 35,
 oQ 17 (cB .len #[(oT 16)] #[35]) 3,
 oQ 18 (.move (kI 0)) 3]
def f62r3:LO:=[oB .lss 19 3 18 17 0]
def f62r4:LO:=[oM 20 18 3,
 oI 21 35 16 18 0,
 oL 22 72 21 72,
 oQ 6 (.alloc 72) 0,
 oA 5 20 3,
 oS 72 6 22 0]
def f62r5:LO:=[oZ 7 0 3,
 oZ 8 0 3,
 oZ 9 1 3]
def f62r6:LO:=[oF 23 72 6 0 0,
 oL 24 3 23 3,
 oQ 25 (cF 66 #[(oT 24)] #[3]) 3]
def f62r7:LO:=[oE 27 3 25 1 4,
 oA 26 27 4]
def f62r8:LO:=[oM 28 5 3,
 oV .sub 29 3 28 1 3,
 oA 7 29 3]
def f62r9:LO:=[oM 30 7 3,
 oV .lss 31 3 30 0 4]
def f62r10:LO:=[oQ 2 (.assign (.const (.slice none 0 0))) 100,
 oQ 3 (.assign kF) 4]
def f62r11:LO:=[oM 32 9 3,
 oM 33 4 100,
 oM 34 7 3,
 oI 35 100 33 34 0,
 oL 36 3 35 3,
 oB .add 37 3 32 36 3,
 oA 9 37 3]
def f62r12:LO:=[oE 39 3 25 2 4,
 oA 38 39 4]
def f62r13:LO:=[oM 40 5 3,
 oV .sub 41 3 40 1 3,
 oA 8 41 3]
def f62r14:LO:=[oM 42 8 3,
 oV .lss 43 3 42 0 4]
def f62r15:LO:=[oQ 2 (.assign (.const (.slice none 0 0))) 100,
 oQ 3 (.assign kF) 4]
def f62r16:LO:=[oM 44 8 3,
 oM 45 4 100,
 oM 46 8 3,
 oI 47 100 45 46 0,
 oL 48 3 47 3,
 oB .sub 49 3 44 48 3,
 oA 7 49 3]
def f62r17:LO:=[oM 50 7 3,
 oV .lss 51 3 50 0 4]
def f62r18:LO:=[oQ 2 (.assign (.const (.slice none 0 0))) 100,
 oQ 3 (.assign kF) 4]
def f62r19:LO:=[oM 52 9 3,
 oM 53 4 100,
 oM 54 7 3,
 oI 55 100 53 54 0,
 oL 56 3 55 3,
 oM 57 4 100,
 oM 58 8 3,
 oI 59 100 57 58 0,
 oL 60 3 59 3,
 oB .add 61 3 56 60 3,
 oB .add 62 3 52 61 3,
 oA 9 62 3]
def f62r20p0:LO:=[oL 63 72 6 72,
 oQ 64 (cF 97 #[(oT 63)] #[72]) 4,
 oQ 65 (.unOp .not 4 (oT 64)) 4,
 oM 66 65 4,
  gF 67 72 6 1 0 66 false,
  gL 68 3 67 3 66 false,
  gM 69 7 3 66 false,
 oG 70 (.binOp .neq 3 (oT 68) (oT 69) 3) 4 66 false,
 oO 71 66 70 4]
def f62r20p1:LO:=[oM 72 71 4,
  gF 73 72 6 2 0 72 false,
  gL 74 3 73 3 72 false,
  gM 75 8 3 72 false,
 oG 76 (.binOp .neq 3 (oT 74) (oT 75) 3) 4 72 false,
 oO 77 72 76 4]
def f62r20:LO:=f62r20p0 ++ f62r20p1
def f62r21:LO:=[oQ 2 (.assign (.const (.slice none 0 0))) 100,
 oQ 3 (.assign kF) 4]
def f62r22:LO:=[oM 78 4 100,
 oM 79 5 3,
 oM 80 9 3,
 oI 81 100 78 79 0,
 oS 3 81 80 0]
def f62r23:LO:=[oV .add 82 3 18 1 3,
 oM 18 82 3]
def f62b0:AC:=(.seq (.ops false f62r3) (.seq (.cond (oT 19) .skip (.exit 0)) (.seq (.block 1 (.seq (.ops false f62r4) (.seq (.ops false f62r5) (.seq (.seq (.ops false f62r6) (.block 2 (.seq (.ops false f62r7) (.cond (oT 26) (.seq (.ops false f62r8) (.seq (.seq (.ops false f62r9) (.cond (oT 31) (.seq (.ops false f62r10) .ret) .skip)) (.ops false f62r11))) (.seq (.ops false f62r12) (.cond (oT 38) (.seq (.ops false f62r13) (.seq (.seq (.ops false f62r14) (.cond (oT 43) (.seq (.ops false f62r15) .ret) .skip)) (.seq (.ops false f62r16) (.seq (.seq (.ops false f62r17) (.cond (oT 51) (.seq (.ops false f62r18) .ret) .skip)) (.ops true f62r19))))) .skip)))))) (.seq (.seq (.ops false f62r20) (.cond (oT 77) (.seq (.ops false f62r21) .ret) .skip)) (.ops false f62r22)))))) (.ops false f62r23))))
def f62r24:LO:=[oF 83 37 1 0 0,
 oL 84 35 83 35,
 oQ 85 (cB .len #[(oT 84)] #[35]) 3,
 oV .sub 86 3 85 1 3,
 oA 10 86 3]
def f62r25p0:LO:=[oM 87 4 100,
 oM 88 10 3,
 oV .geq 89 3 88 0 4,
 oM 90 89 4,
  gM 91 4 100 90 true,
  gM 92 10 3 90 true,
 oG 93 (.indexAddr 100 (oT 91) (oT 92)) 0 90 true,
  gL 94 3 93 3 90 true,
  gF 95 37 1 0 0 90 true,
  gL 96 35 95 35 90 true,
 oG 97 (cB .len #[(oT 96)] #[35]) 3 90 true,
 oG 98 (.binOp .eql 3 (oT 94) (oT 97) 3) 4 90 true,
 oP 99 90 98 4]
def f62r25p1:LO:=[oA 2 87 100,
 oA 3 99 4]
def f62r25:LO:=f62r25p0 ++ f62r25p1
def f62:AFun:=⟨100,[(.tmp 2),(.tmp 3)],(.seq (.ops false f62r0) (.seq (.ops false f62r1) (.seq (.seq (.ops false f62r2) (.block 0 (.loop [1,4,16,17,18] f62b0))) (.seq (.ops false f62r24) (.seq (.ops true f62r25) .ret)))))⟩
def f63r0:LO:=[oQ 1 (.box 37 (oT 0)) 0,
 oQ 2 (.assign (.const (.slice none 0 0))) 100]
def f63r1:LO:=[oF 6 37 1 0 0,
 oL 7 35 6 35,
 oQ 8 (cB .len #[(oT 7)] #[35]) 3,
 oQ 9 (.makeSlice 100 (oT 8) (oT 8)) 100,
 oA 3 9 100]
def f63r2:LO:=[oF 10 37 1 0 0,
 oL 11 35 10 35,
 oQ 12 (cB .len #[(oT 11)] #[35]) 3,
 oQ 13 (.move (kI 0)) 3]
def f63r3:LO:=[oB .lss 14 3 13 12 0]
def f63r4:LO:=[oM 15 13 3,
 oI 16 35 11 13 0,
 oL 17 72 16 72,
 oQ 5 (.alloc 72) 0,
 oA 4 15 3,
 oS 72 5 17 0]
def f63r5:LO:=[oF 18 72 5 0 0,
 oL 19 3 18 3,
 oQ 20 (cF 66 #[(oT 19)] #[3]) 3]
def f63r7:LO:=[oE 37 3 20 0 4,
 oA 36 37 4]
def f63r8:LO:=[oM 38 3 100,
 oM 39 4 3,
 oI 40 100 38 39 0,
 oN (.store 3 (oT 40) (kI 1)) 0]
def f63r9:LO:=[oE 42 3 20 1 4,
 oA 41 42 4]
def f63r10:LO:=[oM 43 3 100,
 oM 44 4 3,
 oM 45 3 100,
 oF 46 72 5 1 0,
 oL 47 3 46 3,
 oI 48 100 45 47 0,
 oL 49 3 48 3,
 oQ 50 (.binOp .add 3 (kI 1) (oT 49) 3) 3,
 oI 51 100 43 44 0,
 oS 3 51 50 0]
def f63r6:LO:=[oM 21 3 100,
 oM 22 4 3,
 oM 23 3 100,
 oF 24 72 5 1 0,
 oL 25 3 24 3,
 oI 26 100 23 25 0,
 oL 27 3 26 3,
 oM 28 3 100,
 oF 29 72 5 2 0,
 oL 30 3 29 3,
 oI 31 100 28 30 0,
 oL 32 3 31 3,
 oQ 33 (cB .max #[(oT 27),(oT 32)] #[3,3]) 3,
 oQ 34 (.binOp .add 3 (kI 1) (oT 33) 3) 3,
 oI 35 100 21 22 0,
 oS 3 35 34 0]
def f63r11:LO:=[oV .add 52 3 13 1 3,
 oM 13 52 3]
def f63b0:AC:=(.seq (.ops false f63r3) (.seq (.cond (oT 14) .skip (.exit 0)) (.seq (.block 1 (.seq (.ops false f63r4) (.seq (.ops false f63r5) (.block 2 (.seq (.ops false f63r7) (.cond (oT 36) (.ops false f63r8) (.seq (.ops false f63r9) (.cond (oT 41) (.ops false f63r10) (.ops true f63r6))))))))) (.ops false f63r11))))
def f63r12:LO:=[oM 53 3 100,
 oA 2 53 100]
def f63:AFun:=⟨54,[(.tmp 2)],(.seq (.ops false f63r0) (.seq (.ops false f63r1) (.seq (.seq (.ops false f63r2) (.block 0 (.loop [3,11,12,13] f63b0))) (.seq (.ops false f63r12) .ret))))⟩
def f64r0:LO:=[oQ 1 (.box 37 (oT 0)) 0,
 oZ 2 0 28]
def f64r1:LO:=[oF 5 37 1 0 0,
 oL 6 35 5 35,
 oQ 7 (cB .len #[(oT 6)] #[35]) 3,
 oV .gtr 8 3 7 500 4]
def f64r2:LO:=[oZ 2 4 28]
def f64r3:LO:=[oL 10 37 1 37,
 oQ 11 (cF 62 #[(oT 10)] #[37]) 115,
 oM 9 11 115,
 oX 12 9 0 100,
 oX 13 9 1 4,
 oA 3 12 100,
 oA 4 13 4]
def f64r4:LO:=[oM 14 4 4,
 oQ 15 (.unOp .not 4 (oT 14)) 4]
def f64r5:LO:=[oZ 2 3 28]
def f64r6:LO:=[oL 16 37 1 37,
 oQ 17 (cF 63 #[(oT 16)] #[37]) 100,
 oQ 18 (cF 98 #[(oT 17)] #[100]) 3,
 oV .gtr 19 3 18 40 4]
def f64r7:LO:=[oZ 2 4 28]
def f64r8:LO:=[oZ 2 0 28]
def f64:AFun:=⟨20,[(.tmp 2)],(.seq (.ops false f64r0) (.seq (.seq (.ops false f64r1) (.cond (.tmp 8) (.seq (.ops false f64r2) .ret) .skip)) (.seq (.seq (.ops false f64r3) (.seq (.ops false f64r4) (.cond (.tmp 15) (.seq (.ops false f64r5) .ret) .skip))) (.seq (.seq (.ops false f64r6) (.cond (.tmp 19) (.seq (.ops false f64r7) .ret) .skip)) (.seq (.ops false f64r8) .ret)))))⟩
def f65r0:LO:=[oQ 1 (.box 37 (oT 0)) 0,
 oQ 2 (.assign (.const (.slice none 0 0))) 100,
 oQ 3 (.assign (.const (.slice none 0 0))) 100]
def f65r1:LO:=[oF 8 37 1 0 0,
 oL 9 35 8 35,
 oQ 10 (cB .len #[(oT 9)] #[35]) 3,
 oQ 11 (.makeSlice 100 (oT 10) (oT 10)) 100,
 oF 12 37 1 0 0,
 oL 13 35 12 35,
 oQ 14 (cB .len #[(oT 13)] #[35]) 3,
 oQ 15 (.makeSlice 100 (oT 14) (oT 14)) 100,
 oA 4 11 100,
 oA 5 15 100]
def f65r2:LO:=[oF 16 37 1 0 0,
 oL 17 35 16 35,
 oQ 18 (cB .len #[(oT 17)] #[35]) 3,
 oQ 19 (.move (kI 0)) 3]
def f65r3:LO:=[oB .lss 20 3 19 18 0]
def f65r4:LO:=[oM 21 19 3,
 oI 22 35 17 19 0,
 oL 23 72 22 72,
 oQ 7 (.alloc 72) 0,
 oA 6 21 3,
 oS 72 7 23 0]
def f65r5:LO:=[oF 24 72 7 0 0,
 oL 25 3 24 3]
def f65r6:LO:=[oE 27 3 25 1 4,
 oA 26 27 4]
def f65r7:LO:=[oM 28 4 100,
 oM 29 6 3,
 oM 30 5 100,
 oM 31 6 3,
 oI 32 100 28 29 0,
 oN (.store 3 (oT 32) (kI 1)) 0,
 oI 33 100 30 31 0,
 oN (.store 3 (oT 33) (kI 1)) 0]
def f65r8:LO:=[oE 35 3 25 12 4,
 oA 34 35 4]
def f65r9:LO:=[oM 36 5 100,
 oM 37 6 3,
 oI 38 100 36 37 0,
 oN (.store 3 (oT 38) (kI (-1))) 0]
def f65r10:LO:=[oE 40 3 25 8 4,
 oA 39 40 4]
def f65r11:LO:=[oM 41 4 100,
 oM 42 6 3,
 oM 43 5 100,
 oM 44 6 3,
 oM 45 4 100,
 oF 46 72 7 1 0,
 oL 47 3 46 3,
 oI 48 100 45 47 0,
 oL 49 3 48 3,
 oM 50 4 100,
 oF 51 72 7 2 0,
 oL 52 3 51 3,
 oI 53 100 50 52 0,
 oL 54 3 53 3,
 oQ 55 (cF 99 #[(oT 49),(oT 54)] #[3,3]) 3,
 oM 56 5 100,
 oF 57 72 7 1 0,
 oL 58 3 57 3,
 oI 59 100 56 58 0,
 oL 60 3 59 3,
 oM 61 5 100,
 oF 62 72 7 2 0,
 oL 63 3 62 3,
 oI 64 100 61 63 0,
 oL 65 3 64 3,
 oQ 66 (cF 99 #[(oT 60),(oT 65)] #[3,3]) 3,
 oI 67 100 41 42 0,
 oS 3 67 55 0,
 oI 68 100 43 44 0,
 oS 3 68 66 0]
def f65r12:LO:=[oE 70 3 25 9 4,
 oA 69 70 4]
def f65r13:LO:=[oM 71 4 100,
 oM 72 6 3,
 oM 73 5 100,
 oM 74 6 3,
 oM 75 4 100,
 oF 76 72 7 1 0,
 oL 77 3 76 3,
 oI 78 100 75 77 0,
 oL 79 3 78 3,
 oM 80 4 100,
 oF 81 72 7 2 0,
 oL 82 3 81 3,
 oI 83 100 80 82 0,
 oL 84 3 83 3,
 oQ 85 (cB .min #[(oT 79),(oT 84)] #[3,3]) 3,
 oM 86 5 100,
 oF 87 72 7 1 0,
 oL 88 3 87 3,
 oI 89 100 86 88 0,
 oL 90 3 89 3,
 oM 91 5 100,
 oF 92 72 7 2 0,
 oL 93 3 92 3,
 oI 94 100 91 93 0,
 oL 95 3 94 3,
 oQ 96 (cB .max #[(oT 90),(oT 95)] #[3,3]) 3,
 oI 97 100 71 72 0,
 oS 3 97 85 0,
 oI 98 100 73 74 0,
 oS 3 98 96 0]
def f65r14:LO:=[oM 99 5 100,
 oF 100 72 7 1 0,
 oL 101 3 100 3,
 oI 102 100 99 101 0,
 oL 103 3 102 3,
 oM 104 5 100,
 oF 105 72 7 2 0,
 oL 106 3 105 3,
 oI 107 100 104 106 0,
 oL 108 3 107 3,
 oQ 109 (cB .min #[(oT 103),(oT 108)] #[3,3]) 3,
 oE 110 3 109 (-1) 4]
def f65r15:LO:=[oM 111 5 100,
 oM 112 6 3,
 oI 113 100 111 112 0,
 oN (.store 3 (oT 113) (kI (-1))) 0]
def f65r16:LO:=[oE 115 3 25 10 4,
 oA 114 115 4]
def f65r17:LO:=[oM 116 4 100,
 oM 117 6 3,
 oM 118 5 100,
 oM 119 6 3,
 oM 120 4 100,
 oF 121 72 7 1 0,
 oL 122 3 121 3,
 oI 123 100 120 122 0,
 oL 124 3 123 3,
 oF 125 72 7 4 0,
 oL 126 3 125 3,
 oQ 127 (cF 100 #[(oT 124),(oT 126)] #[3,3]) 3,
 oM 128 5 100,
 oF 129 72 7 1 0,
 oL 130 3 129 3,
 oI 131 100 128 130 0,
 oL 132 3 131 3,
 oF 133 72 7 5 0,
 oL 134 3 133 3,
 oQ 135 (cF 100 #[(oT 132),(oT 134)] #[3,3]) 3,
 oI 136 100 116 117 0,
 oS 3 136 127 0,
 oI 137 100 118 119 0,
 oS 3 137 135 0]
def f65r18:LO:=[oE 139 3 25 11 4,
 oA 138 139 4]
def f65r19:LO:=[oE 140 3 25 17 4,
 oA 138 140 4]
def f65r20:LO:=[oM 141 4 100,
 oM 142 6 3,
 oM 143 5 100,
 oM 144 6 3,
 oM 145 4 100,
 oF 146 72 7 1 0,
 oL 147 3 146 3,
 oI 148 100 145 147 0,
 oL 149 3 148 3,
 oM 150 5 100,
 oF 151 72 7 1 0,
 oL 152 3 151 3,
 oI 153 100 150 152 0,
 oL 154 3 153 3,
 oI 155 100 141 142 0,
 oS 3 155 149 0,
 oI 156 100 143 144 0,
 oS 3 156 154 0]
def f65r21:LO:=[oV .add 157 3 19 1 3,
 oM 19 157 3]
def f65b0:AC:=(.seq (.ops false f65r3) (.seq (.cond (oT 20) .skip (.exit 0)) (.seq (.block 1 (.seq (.ops false f65r4) (.seq (.ops false f65r5) (.block 2 (.seq (.ops false f65r6) (.cond (oT 26) (.ops false f65r7) (.seq (.ops false f65r8) (.cond (oT 34) (.ops false f65r9) (.seq (.ops false f65r10) (.cond (oT 39) (.ops true f65r11) (.seq (.ops false f65r12) (.cond (oT 69) (.seq (.ops true f65r13) (.seq (.ops true f65r14) (.cond (oT 110) (.ops false f65r15) .skip))) (.seq (.ops false f65r16) (.cond (oT 114) (.ops true f65r17) (.seq (.seq (.ops false f65r18) (.cond (oT 138) .skip (.ops false f65r19))) (.cond (oT 138) (.ops true f65r20) .skip)))))))))))))))) (.ops false f65r21))))
def f65r22:LO:=[oM 158 4 100,
 oM 159 5 100,
 oA 2 158 100,
 oA 3 159 100]
def f65:AFun:=⟨160,[(.tmp 2),(.tmp 3)],(.seq (.ops false f65r0) (.seq (.ops true f65r1) (.seq (.seq (.ops false f65r2) (.block 0 (.loop [4,5,17,18,19] f65b0))) (.seq (.ops false f65r22) .ret))))⟩
def f66r0:LO:=[oZ 2 0 3]
def f66r1:LO:=[oM 3 0 3]
def f66r2:LO:=[oE 5 3 3 8 4,
 oA 4 5 4]
def f66r3:LO:=[oE 6 3 3 9 4,
 oA 4 6 4]
def f66r4:LO:=[oZ 2 2 3]
def f66r5:LO:=[oE 8 3 3 10 4,
 oA 7 8 4]
def f66r6:LO:=[oE 9 3 3 11 4,
 oA 7 9 4]
def f66r7:LO:=[oE 10 3 3 13 4,
 oA 7 10 4]
def f66r8:LO:=[oE 11 3 3 14 4,
 oA 7 11 4]
def f66r9:LO:=[oE 12 3 3 15 4,
 oA 7 12 4]
def f66r10:LO:=[oE 13 3 3 16 4,
 oA 7 13 4]
def f66r11:LO:=[oE 14 3 3 17 4,
 oA 7 14 4]
def f66r12:LO:=[oZ 2 1 3]
def f66r13:LO:=[oZ 2 0 3]
def f66:AFun:=⟨15,[(.tmp 2)],(.seq (.ops false f66r0) (.seq (.seq (.ops false f66r1) (.block 0 (.seq (.seq (.ops false f66r2) (.cond (.tmp 4) .skip (.ops false f66r3))) (.cond (.tmp 4) (.seq (.ops false f66r4) .ret) (.seq (.seq (.ops false f66r5) (.cond (.tmp 7) .skip (.seq (.ops false f66r6) (.cond (.tmp 7) .skip (.seq (.ops false f66r7) (.cond (.tmp 7) .skip (.seq (.ops false f66r8) (.cond (.tmp 7) .skip (.seq (.ops false f66r9) (.cond (.tmp 7) .skip (.seq (.ops false f66r10) (.cond (.tmp 7) .skip (.ops false f66r11))))))))))))) (.cond (.tmp 7) (.seq (.ops false f66r12) .ret) .skip)))))) (.seq (.ops false f66r13) .ret)))⟩
def f68r0:LO:=[oQ 1 (.box 37 (oT 0)) 0,
 oQ 2 (.assign kF) 4]
def f68r1:LO:=[oL 13 37 1 37,
 oQ 14 (cF 62 #[(oT 13)] #[37]) 115,
 oM 12 14 115,
 oX 15 12 0 100,
 oX 16 12 1 4,
 oQ 3 (.alloc 100) 0,
 oS 100 3 15 0,
 oA 4 16 4]
def f68r2:LO:=[oQ 5 (.alloc 100) 0]
def f68r3:LO:=[oF 17 37 1 0 0,
 oL 18 35 17 35,
 oQ 19 (cB .len #[(oT 18)] #[35]) 3,
 oQ 20 (.move (kI 0)) 3]
def f68r4:LO:=[oB .lss 21 3 20 19 0]
def f68r5:LO:=[oM 22 20 3,
 oI 23 35 18 20 0,
 oL 24 72 23 72,
 oQ 7 (.alloc 72) 0,
 oA 6 22 3,
 oS 72 7 24 0]
def f68r6:LO:=[oF 25 72 7 0 0,
 oL 26 3 25 3,
 oE 27 3 26 11 4]
def f68r7:LO:=[oL 28 100 5 100,
 oM 29 6 3,
 oQ 30 (.buildSlice 100 1 #[(0,(oT 29))]) 100,
 oQ 31 (cB .append #[(oT 28),(oT 30)] #[100,100]) 100,
 oS 100 5 31 0]
def f68r8:LO:=[oV .add 32 3 20 1 3,
 oM 20 32 3]
def f68b0:AC:=(.seq (.ops false f68r4) (.seq (.cond (oT 21) .skip (.exit 0)) (.seq (.block 1 (.seq (.ops false f68r5) (.seq (.ops false f68r6) (.cond (oT 27) (.ops false f68r7) .skip)))) (.ops false f68r8))))
def f68r9:LO:=[oQ 33 (.makeFunc (.func 102) #[] #[(oT 3)]) 99,
 oQ 8 (.alloc 99) 0,
 oS 99 8 33 0]
def f68r10:LO:=[oL 34 100 5 100,
 oQ 35 (.makeFunc (.func 104) #[] #[(oT 8),(oT 3)]) 151,
 oQ 36 (cF 103 #[(oT 34),(oT 35)] #[100,151]) 0]
def f68r11:LO:=[oL 37 100 5 100,
 oQ 38 (cB .len #[(oT 37)] #[100]) 3,
 oQ 39 (.move (kI 0)) 3]
def f68r12:LO:=[oB .lss 40 3 39 38 0]
def f68r13:LO:=[oM 41 39 3,
 oI 42 100 37 39 0,
 oL 43 3 42 3,
 oA 9 41 3,
 oA 10 43 3]
def f68r14:LO:=[oF 44 37 1 0 0,
 oL 45 35 44 35,
 oM 46 10 3,
 oI 47 35 45 46 0,
 oF 48 72 47 7 0,
 oL 49 3 48 3,
 oM 50 9 3,
 oV .add 51 3 50 1 3,
 oB .neq 52 3 49 51 4]
def f68r15:LO:=[oQ 2 (.assign kF) 4]
def f68r16:LO:=[oV .add 53 3 39 1 3,
 oM 39 53 3]
def f68b1:AC:=(.seq (.ops false f68r12) (.seq (.cond (oT 40) .skip (.exit 2)) (.seq (.block 3 (.seq (.ops false f68r13) (.seq (.ops false f68r14) (.cond (oT 52) (.seq (.ops false f68r15) .ret) .skip)))) (.ops false f68r16))))
def f68r17:LO:=[oQ 54 (.makeFunc (.func 105) #[] #[(oT 5)]) 158,
 oA 11 54 158]
def f68r18p0:LO:=[oL 55 100 5 100,
 oQ 56 (cB .len #[(oT 55)] #[100]) 3,
 oV .leq 57 3 56 9 4,
 oM 58 57 4,
  gF 59 37 1 0 0 58 true,
  gL 60 35 59 35 58 true,
  gM 61 11 158 58 true,
 oG 62 (cF 106 #[(oT 60),(oT 61)] #[35,158]) 4 58 true,
 oG 63 (.unOp .not 4 (oT 62)) 4 58 true,
 oP 64 58 63 4]
def f68r18p1:LO:=[oA 2 64 4]
def f68r18:LO:=f68r18p0 ++ f68r18p1
def f68:AFun:=⟨65,[(.tmp 2)],(.seq (.ops false f68r0) (.seq (.ops false f68r1) (.seq (.ops false f68r2) (.seq (.seq (.ops false f68r3) (.block 0 (.loop [1,3,5,18,19,20] f68b0))) (.seq (.ops false f68r9) (.seq (.ops false f68r10) (.seq (.seq (.ops false f68r11) (.block 2 (.loop [1,5,37,38,39] f68b1))) (.seq (.ops false f68r17) (.seq (.ops false f68r18) .ret)))))))))⟩
def f72r0:LO:=[oZ 2 0 3]
def f72r1:LO:=[oM 3 0 22,
 oQ 4 (.binOp .shr 22 (oT 3) (kW 1) 167) 22,
 oQ 5 (.binOp .and 22 (oT 4) (kW 6148914691236517205) 22) 22,
 oM 6 0 22,
 oQ 7 (.binOp .and 22 (oT 6) (kW 6148914691236517205) 22) 22,
 oB .add 8 22 5 7 22,
 oA 0 8 22]
def f72r2:LO:=[oM 9 0 22,
 oQ 10 (.binOp .shr 22 (oT 9) (kW 2) 167) 22,
 oQ 11 (.binOp .and 22 (oT 10) (kW 3689348814741910323) 22) 22,
 oM 12 0 22,
 oQ 13 (.binOp .and 22 (oT 12) (kW 3689348814741910323) 22) 22,
 oB .add 14 22 11 13 22,
 oA 0 14 22]
def f72r3:LO:=[oM 15 0 22,
 oQ 16 (.binOp .shr 22 (oT 15) (kW 4) 167) 22,
 oM 17 0 22,
 oB .add 18 22 16 17 22,
 oQ 19 (.binOp .and 22 (oT 18) (kW 1085102592571150095) 22) 22,
 oA 0 19 22]
def f72r4:LO:=[oM 20 0 22,
 oM 21 0 22,
 oQ 22 (.binOp .shr 22 (oT 21) (kW 8) 167) 22,
 oB .add 23 22 20 22 22,
 oA 0 23 22]
def f72r5:LO:=[oM 24 0 22,
 oM 25 0 22,
 oQ 26 (.binOp .shr 22 (oT 25) (kW 16) 167) 22,
 oB .add 27 22 24 26 22,
 oA 0 27 22]
def f72r6:LO:=[oM 28 0 22,
 oM 29 0 22,
 oQ 30 (.binOp .shr 22 (oT 29) (kW 32) 167) 22,
 oB .add 31 22 28 30 22,
 oA 0 31 22]
def f72r7:LO:=[oM 32 0 22,
 oQ 33 (.convert 22 3 (oT 32)) 3,
 oV .and 34 3 33 127 3,
 oA 2 34 3]
def f72:AFun:=⟨35,[(.tmp 2)],(.seq (.ops false f72r0) (.seq (.ops false f72r1) (.seq (.ops false f72r2) (.seq (.ops false f72r3) (.seq (.ops false f72r4) (.seq (.ops false f72r5) (.seq (.ops false f72r6) (.seq (.ops false f72r7) .ret))))))))⟩
noncomputable def f73:AFun:=⟨14,[(.tmp 2),(.tmp 3)],cvF Tryz.f73 (.seq hO (.seq hO (.seq hO (.seq (.seq hO (hC (.seq hO .ret) .skip)) (.seq hO .ret)))))⟩
noncomputable def f74:AFun:=⟨68,[(.cell 2 33),(.tmp 3),(.tmp 4)],cvF Tryz.f74 (.seq hO (.seq (.seq hO (hC (.seq hO .ret) .skip)) (.seq (.seq hO (.block 0 (.loop [0,2,14,15] (.seq hO (.seq (hC .skip (.exit 0)) (.seq (.block 1 (.seq hO (.seq hO (hC (.seq hO .ret) .skip)))) hO)))))) (.seq hO (.seq (.seq hO (.block 2 (.loop [2,7,30] (.seq hO (.seq (hC .skip (.exit 2)) (.block 3 (.seq hO (.seq (.block 4 (.seq hO (hC (.seq hO .ret) (.seq hO (hC (.seq hO .ret) .skip))))) hO)))))))) (.seq hO .ret))))))⟩
noncomputable def f75:AFun:=⟨68,[(.cell 2 33),(.tmp 3),(.tmp 4)],cvF Tryz.f75 (.seq hO (.seq hO (.seq (.seq hO (.block 0 (.seq hO (hC hO (.seq hO (hC hO (.seq hO (hC (.seq hO (.block 1 (.seq hO (hC (.seq hO .ret) (.seq hO (hC (.seq hO .ret) (.seq hO (hC (.seq hO .ret) .skip)))))))) .skip)))))))) (.seq (.block 2 (.seq hO (hC (.seq hO hO) (.seq hO (hC (.seq hO hO) .skip))))) (.seq hO .ret)))))⟩
noncomputable def f76:AFun:=⟨75,[(.cell 4 25),(.tmp 5),(.tmp 6)],cvF Tryz.f76 (.seq hO (.scope (.seq (.seq hO (hC (.seq hO .ret) .skip)) (.seq hO (.seq hO (.seq hO (.seq (.seq hO (hC hO .skip)) (.seq hO (.seq .skip (.seq (.block 0 (.loop [0,4,7,8,9,10] (.block 1 (.seq (.seq hO (hC (.exit 0) .skip)) (.seq hO (.seq (.seq hO (hC (.seq hO .ret) .skip)) (.seq hO hO))))))) (.seq (.seq hO (hC hO .skip)) (.seq hO .ret))))))))))))⟩
noncomputable def f77:AFun:=⟨43,[(.cell 2 33),(.tmp 3),(.tmp 4)],cvF Tryz.f77 (.seq hO (.seq hO (.seq (.block 0 (.seq hO (hC (.seq hO .ret) (.seq hO (hC (.seq hO .ret) (.seq hO (hC (.seq hO .ret) .skip))))))) (.seq hO (.seq (.seq hO (hC (.seq hO .ret) .skip)) (.seq hO .ret))))))⟩
noncomputable def f78:AFun:=⟨18,[],cvF Tryz.f78 hO⟩
def f80r0:LO:=[oZ 2 0 28]
def f80r1:LO:=[oM 3 0 39,
 oQ 4 (cB .len #[(oT 3)] #[39]) 3,
 oV .gtr 5 3 4 500 4]
def f80r2:LO:=[oZ 2 4 28]
def f80r3:LO:=[oM 6 0 39,
 oQ 7 (cF 116 #[(oT 6)] #[39]) 3,
 oE 8 3 7 0 4]
def f80r4:LO:=[oZ 2 3 28]
def f80r5:LO:=[oM 9 0 39,
 oQ 10 (cF 116 #[(oT 9)] #[39]) 3,
 oV .gtr 11 3 10 40 4]
def f80r6:LO:=[oZ 2 4 28]
def f80r7:LO:=[oZ 2 0 28]
def f80:AFun:=⟨12,[(.tmp 2)],(.seq (.ops false f80r0) (.seq (.seq (.ops false f80r1) (.cond (.tmp 5) (.seq (.ops false f80r2) .ret) .skip)) (.seq (.seq (.ops false f80r3) (.cond (.tmp 8) (.seq (.ops false f80r4) .ret) .skip)) (.seq (.seq (.ops false f80r5) (.cond (.tmp 11) (.seq (.ops false f80r6) .ret) .skip)) (.seq (.ops false f80r7) .ret)))))⟩
def f81r0:LO:=[oQ 4 (.assign (.const (.slice none 0 0))) 100]
def f81r1:LO:=[oQ 7 (.buildSlice 100 0 #[]) 100,
 oA 5 7 100]
def f81r2:LO:=[oM 8 0 39,
 oM 9 1 3,
 oI 10 39 8 9 0,
 oF 11 97 10 0 0,
 oL 12 3 11 3,
 oE 13 3 12 11 4]
def f81r3:LO:=[oM 14 5 100,
 oM 15 0 39,
 oM 16 1 3,
 oI 17 39 15 16 0,
 oF 18 97 17 7 0,
 oL 19 3 18 3,
 oQ 20 (.buildSlice 100 1 #[(0,(oT 19))]) 100,
 oQ 21 (cB .append #[(oT 14),(oT 20)] #[100,100]) 100,
 oA 5 21 100]
def f81r4:LO:=[oM 22 0 39,
 oM 23 1 3,
 oI 24 39 22 23 0,
 oF 25 97 24 0 0,
 oL 26 3 25 3,
 oQ 27 (cF 83 #[(oT 26)] #[3]) 3,
 oA 6 27 3]
def f81r5:LO:=[oM 28 6 3,
 oV .geq 29 3 28 1 4]
def f81r6:LO:=[oM 30 5 100,
 oM 31 0 39,
 oM 32 0 39,
 oM 33 1 3,
 oI 34 39 32 33 0,
 oF 35 97 34 1 0,
 oL 36 3 35 3,
 oQ 37 (cF 81 #[(oT 31),(oT 36)] #[39,3]) 100,
 oQ 38 (cB .append #[(oT 30),(oT 37)] #[100,100]) 100,
 oA 5 38 100]
def f81r7:LO:=[oM 39 6 3,
 oE 40 3 39 2 4]
def f81r8:LO:=[oM 41 5 100,
 oM 42 0 39,
 oM 43 0 39,
 oM 44 1 3,
 oI 45 39 43 44 0,
 oF 46 97 45 2 0,
 oL 47 3 46 3,
 oQ 48 (cF 81 #[(oT 42),(oT 47)] #[39,3]) 100,
 oQ 49 (cB .append #[(oT 41),(oT 48)] #[100,100]) 100,
 oA 5 49 100]
def f81r9:LO:=[oM 50 5 100,
 oA 4 50 100]
def f81:AFun:=⟨51,[(.tmp 4)],(.seq (.ops false f81r0) (.seq (.ops false f81r1) (.seq (.seq (.ops false f81r2) (.cond (.tmp 13) (.ops false f81r3) .skip)) (.seq (.ops false f81r4) (.seq (.seq (.ops false f81r5) (.cond (.tmp 29) (.ops false f81r6) .skip)) (.seq (.seq (.ops false f81r7) (.cond (.tmp 40) (.ops false f81r8) .skip)) (.seq (.ops false f81r9) .ret)))))))⟩
def f82r0:LO:=[oZ 4 0 3,
 oZ 5 0 3]
def f82r1:LO:=[oM 13 0 39,
 oM 14 1 3,
 oI 15 39 13 14 0,
 oL 16 97 15 97,
 oQ 6 (.alloc 97) 0,
 oS 97 6 16 0]
def f82r2:LO:=[oF 17 97 6 0 0,
 oL 18 3 17 3]
def f82r3:LO:=[oE 20 3 18 1 4,
 oA 19 20 4]
def f82r4:LO:=[oZ 4 1 3,
 oZ 5 1 3]
def f82r5:LO:=[oE 22 3 18 12 4,
 oA 21 22 4]
def f82r6:LO:=[oZ 4 0 3,
 oZ 5 (-1) 3]
def f82r7:LO:=[oE 24 3 18 8 4,
 oA 23 24 4]
def f82r8:LO:=[oE 25 3 18 9 4,
 oA 23 25 4]
def f82r9:LO:=[oM 27 0 39,
 oF 28 97 6 1 0,
 oL 29 3 28 3,
 oQ 30 (cF 82 #[(oT 27),(oT 29)] #[39,3]) 136,
 oM 26 30 136,
 oX 31 26 0 3,
 oX 32 26 1 3,
 oA 7 31 3,
 oA 8 32 3]
def f82r10:LO:=[oM 34 0 39,
 oF 35 97 6 2 0,
 oL 36 3 35 3,
 oQ 37 (cF 82 #[(oT 34),(oT 36)] #[39,3]) 136,
 oM 33 37 136,
 oX 38 33 0 3,
 oX 39 33 1 3,
 oA 9 38 3,
 oA 10 39 3]
def f82r11:LO:=[oF 40 97 6 0 0,
 oL 41 3 40 3,
 oE 42 3 41 8 4]
def f82r12:LO:=[oM 43 7 3,
 oM 44 9 3,
 oQ 45 (cF 117 #[(oT 43),(oT 44)] #[3,3]) 3,
 oM 46 8 3,
 oM 47 10 3,
 oQ 48 (cF 117 #[(oT 46),(oT 47)] #[3,3]) 3,
 oA 4 45 3,
 oA 5 48 3]
def f82r13:LO:=[oM 49 8 3,
 oV .lss 50 3 49 0 4,
 oM 51 50 4,
  gM 52 10 3 51 false,
 oG 53 (.binOp .lss 3 (oT 52) (kI 0) 3) 4 51 false,
 oO 54 51 53 4]
def f82r14:LO:=[oM 55 7 3,
 oM 56 9 3,
 oQ 57 (cB .min #[(oT 55),(oT 56)] #[3,3]) 3,
 oA 4 57 3,
 oZ 5 (-1) 3]
def f82r15:LO:=[oM 58 7 3,
 oM 59 9 3,
 oQ 60 (cB .min #[(oT 58),(oT 59)] #[3,3]) 3,
 oM 61 8 3,
 oM 62 10 3,
 oQ 63 (cB .max #[(oT 61),(oT 62)] #[3,3]) 3,
 oA 4 60 3,
 oA 5 63 3]
def f82r16:LO:=[oE 65 3 18 10 4,
 oA 64 65 4]
def f82r17:LO:=[oM 67 0 39,
 oF 68 97 6 1 0,
 oL 69 3 68 3,
 oQ 70 (cF 82 #[(oT 67),(oT 69)] #[39,3]) 136,
 oM 66 70 136,
 oX 71 66 0 3,
 oX 72 66 1 3,
 oA 11 71 3,
 oA 12 72 3]
def f82r18:LO:=[oM 73 11 3,
 oF 74 97 6 4 0,
 oL 75 3 74 3,
 oQ 76 (cF 118 #[(oT 73),(oT 75)] #[3,3]) 3,
 oM 77 12 3,
 oF 78 97 6 5 0,
 oL 79 3 78 3,
 oQ 80 (cF 118 #[(oT 77),(oT 79)] #[3,3]) 3,
 oA 4 76 3,
 oA 5 80 3]
def f82r19:LO:=[oE 82 3 18 11 4,
 oA 81 82 4]
def f82r20:LO:=[oE 83 3 18 17 4,
 oA 81 83 4]
def f82r21:LO:=[oM 84 0 39,
 oF 85 97 6 1 0,
 oL 86 3 85 3,
 oQ 87 (cF 82 #[(oT 84),(oT 86)] #[39,3]) 136,
 oX 88 87 0 3,
 oX 89 87 1 3,
 oA 4 88 3,
 oA 5 89 3]
def f82r22:LO:=[oZ 4 0 3,
 oZ 5 0 3]
def f82:AFun:=⟨90,[(.tmp 4),(.tmp 5)],(.seq (.ops false f82r0) (.seq (.ops false f82r1) (.seq (.seq (.ops false f82r2) (.block 0 (.seq (.ops false f82r3) (.cond (.tmp 19) (.seq (.ops false f82r4) .ret) (.seq (.ops false f82r5) (.cond (.tmp 21) (.seq (.ops false f82r6) .ret) (.seq (.seq (.ops false f82r7) (.cond (.tmp 23) .skip (.ops false f82r8))) (.cond (.tmp 23) (.seq (.ops false f82r9) (.seq (.ops false f82r10) (.seq (.seq (.ops false f82r11) (.cond (.tmp 42) (.seq (.ops false f82r12) .ret) .skip)) (.seq (.seq (.ops false f82r13) (.cond (.tmp 54) (.seq (.ops false f82r14) .ret) .skip)) (.seq (.ops false f82r15) .ret))))) (.seq (.ops false f82r16) (.cond (.tmp 64) (.seq (.ops false f82r17) (.seq (.ops true f82r18) .ret)) (.seq (.seq (.ops false f82r19) (.cond (.tmp 81) .skip (.ops false f82r20))) (.cond (.tmp 81) (.seq (.ops false f82r21) .ret) .skip)))))))))))) (.seq (.ops false f82r22) .ret))))⟩
def f83r0:LO:=[oZ 2 0 3]
def f83r1:LO:=[oM 3 0 3,
 oE 4 3 3 8 4,
 oM 5 4 4,
  gM 6 0 3 5 false,
 oG 7 (.binOp .eql 3 (oT 6) (kI 9) 3) 4 5 false,
 oO 8 5 7 4]
def f83r2:LO:=[oZ 2 2 3]
def f83r3p0:LO:=[oM 9 0 3,
 oE 10 3 9 10 4,
 oM 11 10 4,
  gM 12 0 3 11 false,
 oG 13 (.binOp .eql 3 (oT 12) (kI 11) 3) 4 11 false,
 oO 14 11 13 4]
def f83r3p1:LO:=[oM 15 14 4,
  gM 16 0 3 15 false,
 oG 17 (.binOp .geq 3 (oT 16) (kI 13) 3) 4 15 false,
  gM 18 17 4 15 false,
  gM 19 0 3 18 true,
 oG 20 (.binOp .leq 3 (oT 19) (kI 17) 3) 4 18 true,
 oG 21 (.pick (oT 18) (oT 20) kF) 4 15 false,
 oO 22 15 21 4]
def f83r3:LO:=f83r3p0 ++ f83r3p1
def f83r4:LO:=[oZ 2 1 3]
def f83r5:LO:=[oZ 2 0 3]
def f83:AFun:=⟨23,[(.tmp 2)],(.seq (.ops false f83r0) (.seq (.seq (.ops false f83r1) (.cond (.tmp 8) (.seq (.ops false f83r2) .ret) .skip)) (.seq (.seq (.ops false f83r3) (.cond (.tmp 22) (.seq (.ops false f83r4) .ret) .skip)) (.seq (.ops false f83r5) .ret))))⟩
def f86r0:LO:=[oQ 1 (.box 25 (oT 0)) 0,
 oQ 2 (.alloc 107) 0]
def f86r1:LO:=[oL 6 25 1 25,
 oQ 7 (.build 54 #[(0,(oT 6))]) 54,
 oQ 8 (.build 107 #[(0,(oT 7))]) 107,
 oQ 3 (.alloc 107) 0,
 oS 107 3 8 0]
def f86r2:LO:=[oL 10 25 1 25,
 oQ 11 (cF 120 #[(oT 10)] #[25]) 145,
 oM 9 11 145,
 oX 12 9 0 5,
 oX 13 9 1 4,
 oA 4 12 5,
 oA 5 13 4]
def f86r3:LO:=[oL 14 25 1 25,
 oQ 15 (cF 44 #[(oT 14)] #[25]) 3,
 oE 16 3 15 1 4]
def f86r4:LO:=[oM 17 4 5,
 oQ 18 (.buildSlice 128 1 #[(0,(oT 17))]) 128,
 oQ 19 (.convert 128 9 (oT 18)) 9,
 oF 20 107 3 0 0,
 oF 21 54 20 3 0,
 oS 9 21 19 0,
 oF 22 107 3 1 0,
 oN (.store 4 (oT 22) kT) 0]
def f86r5:LO:=[oL 23 107 3 107,
 oS 107 2 23 0]
def f86:AFun:=⟨24,[(.cell 2 107)],(.seq (.ops false f86r0) (.seq (.ops false f86r1) (.seq (.seq (.ops false f86r2) (.seq (.ops false f86r3) (.cond (.tmp 16) (.ops false f86r4) .skip))) (.seq (.ops false f86r5) .ret))))⟩
def f87r0:LO:=[oQ 0 (.alloc 107) 0]
def f87r1:LO:=[oQ 1 (.build 54 #[(1,kT)]) 54,
 oQ 2 (.build 107 #[(0,(oT 1)),(1,kT),(2,kT)]) 107,
 oS 107 0 2 0]
def f87:AFun:=⟨3,[(.cell 0 107)],(.seq (.ops false f87r0) (.seq (.ops false f87r1) .ret))⟩
def f88r0:LO:=[oQ 0 (.alloc 25) 0]
def f88r1:LO:=[oQ 1 (.build 25 #[]) 25,
 oQ 2 (cF 113 #[(oT 1)] #[25]) 25,
 oS 25 0 2 0]
def f88:AFun:=⟨3,[(.cell 0 25)],(.seq (.ops false f88r0) (.seq (.ops false f88r1) .ret))⟩
def f89r0:LO:=[oQ 2 (.box 107 (oT 0)) 0,
 oQ 3 (.box 107 (oT 1)) 0,
 oQ 4 (.alloc 107) 0]
def f89r1p0:LO:=[oF 6 107 2 0 0,
 oF 7 54 6 0 0,
 oL 8 25 7 25,
 oF 9 107 2 0 0,
 oF 10 54 9 1 0,
 oL 11 4 10 4,
 oM 12 11 4,
  gF 13 107 3 0 0 12 true,
  gF 14 54 13 1 0 12 true,
  gL 15 4 14 4 12 true,
 oP 16 12 15 4]
def f89r1p1:LO:=[oF 17 107 2 0 0,
 oF 18 54 17 2 0,
 oL 19 4 18 4,
 oM 20 19 4,
  gF 21 107 3 0 0 20 false,
  gF 22 54 21 2 0 20 false,
  gL 23 4 22 4 20 false,
  gM 24 23 4 20 false,
  gF 25 107 2 2 0 24 true,
  gL 26 4 25 4 24 true,
 oG 27 (.pick (oT 24) (oT 26) kF) 4 20 false,
 oO 28 20 27 4]
def f89r1p2:LO:=[oF 29 107 2 0 0,
 oF 30 54 29 3 0,
 oL 31 9 30 9,
 oQ 32 (.build 54 #[(0,(oT 8)),(1,(oT 16)),(2,(oT 28)),(3,(oT 31))]) 54,
 oF 33 107 2 1 0,
 oL 34 4 33 4,
 oM 35 34 4,
  gF 36 107 3 1 0 35 true,
  gL 37 4 36 4 35 true,
 oP 38 35 37 4]
def f89r1p3:LO:=[oF 39 107 2 2 0,
 oL 40 4 39 4,
 oM 41 40 4,
  gF 42 107 3 2 0 41 true,
  gL 43 4 42 4 41 true,
 oP 44 41 43 4]
def f89r1p4:LO:=[oQ 45 (.build 107 #[(0,(oT 32)),(1,(oT 38)),(2,(oT 44))]) 107,
 oQ 5 (.alloc 107) 0,
 oS 107 5 45 0]
def f89r1:LO:=f89r1p0 ++ (f89r1p1 ++ (f89r1p2 ++ (f89r1p3 ++ f89r1p4)))
def f89r2:LO:=[oF 46 107 2 0 0,
 oF 47 54 46 1 0,
 oL 48 4 47 4]
def f89r3:LO:=[oF 49 107 5 0 0,
 oF 50 54 49 0 0,
 oL 51 25 50 25,
 oF 52 107 3 0 0,
 oF 53 54 52 0 0,
 oL 54 25 53 25,
 oQ 55 (cF 38 #[(oT 51),(oT 54)] #[25,25]) 25,
 oF 56 107 5 0 0,
 oF 57 54 56 0 0,
 oS 25 57 55 0]
def f89r4:LO:=[oF 58 107 2 1 0,
 oL 59 4 58 4]
def f89r5:LO:=[oF 60 107 5 0 0,
 oF 61 54 60 3 0,
 oL 62 9 61 9,
 oF 63 107 3 0 0,
 oF 64 54 63 3 0,
 oL 65 9 64 9,
 oB .add 66 9 62 65 9,
 oF 67 107 5 0 0,
 oF 68 54 67 3 0,
 oS 9 68 66 0]
def f89r6:LO:=[oL 69 107 5 107,
 oQ 70 (cF 121 #[(oT 69)] #[107]) 107,
 oS 107 4 70 0]
def f89:AFun:=⟨71,[(.cell 4 107)],(.seq (.ops false f89r0) (.seq (.ops false f89r1) (.seq (.seq (.ops false f89r2) (.cond (.tmp 48) (.ops false f89r3) .skip)) (.seq (.seq (.ops false f89r4) (.cond (.tmp 59) (.ops false f89r5) .skip)) (.seq (.ops false f89r6) .ret)))))⟩
def f90r0:LO:=[oQ 2 (.box 107 (oT 0)) 0,
 oQ 3 (.box 107 (oT 1)) 0,
 oQ 4 (.alloc 107) 0]
def f90r1p0:LO:=[oF 5 107 2 0 0,
 oF 6 54 5 0 0,
 oL 7 25 6 25,
 oF 8 107 3 0 0,
 oF 9 54 8 0 0,
 oL 10 25 9 25,
 oQ 11 (cF 38 #[(oT 7),(oT 10)] #[25,25]) 25,
 oF 12 107 2 0 0,
 oF 13 54 12 1 0,
 oL 14 4 13 4,
 oM 15 14 4,
  gF 16 107 3 0 0 15 false,
  gF 17 54 16 1 0 15 false,
  gL 18 4 17 4 15 false,
 oO 19 15 18 4]
def f90r1p1:LO:=[oF 20 107 2 0 0,
 oF 21 54 20 2 0,
 oL 22 4 21 4,
 oM 23 22 4,
  gF 24 107 3 0 0 23 true,
  gF 25 54 24 2 0 23 true,
  gL 26 4 25 4 23 true,
 oP 27 23 26 4]
def f90r1p2:LO:=[oQ 28 (.build 54 #[(0,(oT 11)),(1,(oT 19)),(2,(oT 27)),(3,(.const (.string { data:=#[] })))]) 54,
 oF 29 107 2 2 0,
 oL 30 4 29 4,
 oM 31 30 4,
  gF 32 107 3 2 0 31 true,
  gL 33 4 32 4 31 true,
 oP 34 31 33 4]
def f90r1p3:LO:=[oQ 35 (.build 107 #[(0,(oT 28)),(1,kF),(2,(oT 34))]) 107,
 oS 107 4 35 0]
def f90r1:LO:=f90r1p0 ++ (f90r1p1 ++ (f90r1p2 ++ f90r1p3))
def f90:AFun:=⟨36,[(.cell 4 107)],(.seq (.ops false f90r0) (.seq (.ops true f90r1) .ret))⟩
def f91r0:LO:=[oQ 2 (.box 72 (oT 0)) 0,
 oQ 3 (.box 107 (oT 1)) 0,
 oQ 4 (.alloc 107) 0]
def f91r1:LO:=[oQ 6 (cF 87 #[] #[]) 107,
 oQ 5 (.alloc 107) 0,
 oS 107 5 6 0]
def f91r2:LO:=[oF 7 72 2 5 0,
 oL 8 3 7 3,
 oE 9 3 8 0 4]
def f91r3p0:LO:=[oF 10 107 3 0 0,
 oF 11 54 10 0 0,
 oL 12 25 11 25,
 oF 13 107 3 0 0,
 oF 14 54 13 1 0,
 oL 15 4 14 4,
 oM 16 15 4,
  gF 17 72 2 4 0 16 false,
  gL 18 3 17 3 16 false,
 oG 19 (.binOp .eql 3 (oT 18) (kI 0) 3) 4 16 false,
 oO 20 16 19 4]
def f91r3p1:LO:=[oF 21 107 3 0 0,
 oF 22 54 21 2 0,
 oL 23 4 22 4,
 oM 24 23 4,
  gF 25 72 2 4 0 24 true,
  gL 26 3 25 3 24 true,
 oG 27 (.binOp .gtr 3 (oT 26) (kI 0) 3) 4 24 true,
 oP 28 24 27 4]
def f91r3p2:LO:=[oQ 29 (.build 54 #[(0,(oT 12)),(1,(oT 20)),(2,(oT 28)),(3,(.const (.string { data:=#[] })))]) 54,
 oF 30 107 3 1 0,
 oL 31 4 30 4,
 oM 32 31 4,
  gF 33 72 2 4 0 32 true,
  gL 34 3 33 3 32 true,
 oG 35 (.binOp .eql 3 (oT 34) (kI 1) 3) 4 32 true,
 oP 36 32 35 4]
def f91r3p3:LO:=[oM 37 36 4,
  gF 38 72 2 5 0 37 true,
  gL 39 3 38 3 37 true,
 oG 40 (.binOp .eql 3 (oT 39) (kI 1) 3) 4 37 true,
 oP 41 37 40 4]
def f91r3p4:LO:=[oF 42 107 3 2 0,
 oL 43 4 42 4,
 oQ 44 (.build 107 #[(0,(oT 29)),(1,(oT 41)),(2,(oT 43))]) 107,
 oS 107 5 44 0]
def f91r3:LO:=f91r3p0 ++ (f91r3p1 ++ (f91r3p2 ++ (f91r3p3 ++ f91r3p4)))
def f91r4:LO:=[oF 45 72 2 4 0,
 oL 46 3 45 3,
 oV .gtr 47 3 46 0 4]
def f91r5:LO:=[oF 48 107 3 0 0,
 oF 49 54 48 3 0,
 oL 50 9 49 9,
 oF 51 107 5 0 0,
 oF 52 54 51 3 0,
 oS 9 52 50 0]
def f91r6:LO:=[oL 53 107 5 107,
 oS 107 4 53 0]
def f91:AFun:=⟨54,[(.cell 4 107)],(.seq (.ops false f91r0) (.scopeJ 0 (.seq (.ops false f91r1) (.seq (.seq (.ops false f91r2) (.cond (.tmp 9) (.goto 0) .skip)) (.seq (.ops false f91r3) (.seq (.seq (.ops false f91r4) (.cond (.tmp 47) (.ops false f91r5) .skip)) (.seq .skip (.seq (.ops false f91r6) .ret)))))) (.seq .skip (.seq (.ops false f91r6) .ret))))⟩
def f92r0:LO:=[oQ 1 (.box 59 (oT 0)) 0,
 oQ 2 (.assign (kB 0)) 5,
 oQ 3 (.assign kF) 4]
def f92r1:LO:=[oZ 4 0 3]
def f92r2:LO:=[oM 5 4 3,
 oV .lss 6 3 5 256 4]
def f92r4:LO:=[oM 9 4 3,
 oF 10 59 1 0 0,
 oI 11 57 10 9 0,
 oL 12 4 11 4]
def f92r5:LO:=[oM 13 4 3,
 oQ 14 (.convert 3 5 (oT 13)) 5,
 oA 2 14 5,
 oQ 3 (.assign kT) 4]
def f92r3:LO:=[oM 7 4 3,
 oV .add 8 3 7 1 3,
 oA 4 8 3]
def f92b0:AC:=(.seq (.seq (.ops false f92r2) (.cond (oT 6) .skip (.exit 0))) (.seq (.block 1 (.seq (.ops false f92r4) (.cond (oT 12) (.seq (.ops false f92r5) .ret) .skip))) (.ops false f92r3)))
def f92r6:LO:=[oQ 2 (.assign (kB 0)) 5,
 oQ 3 (.assign kF) 4]
def f92:AFun:=⟨15,[(.tmp 2),(.tmp 3)],(.seq (.ops false f92r0) (.seq (.seq (.ops false f92r1) (.block 0 (.loop [1,4] f92b0))) (.seq (.ops false f92r6) .ret)))⟩
def f93r0:LO:=[oQ 1 (.box 59 (oT 0)) 0,
 oZ 2 0 3]
def f93r1:LO:=[oZ 3 0 3]
def f93r2:LO:=[oZ 4 0 3]
def f93r3:LO:=[oM 5 4 3,
 oV .lss 6 3 5 256 4]
def f93r5:LO:=[oM 9 4 3,
 oF 10 59 1 0 0,
 oI 11 57 10 9 0,
 oL 12 4 11 4]
def f93r6:LO:=[oM 13 3 3,
 oV .add 14 3 13 1 3,
 oA 3 14 3]
def f93r4:LO:=[oM 7 4 3,
 oV .add 8 3 7 1 3,
 oA 4 8 3]
def f93b0:AC:=(.seq (.seq (.ops false f93r3) (.cond (oT 6) .skip (.exit 0))) (.seq (.block 1 (.seq (.ops false f93r5) (.cond (oT 12) (.ops false f93r6) .skip))) (.ops false f93r4)))
def f93r7:LO:=[oM 15 3 3,
 oA 2 15 3]
def f93:AFun:=⟨16,[(.tmp 2)],(.seq (.ops false f93r0) (.seq (.ops false f93r1) (.seq (.seq (.ops false f93r2) (.block 0 (.loop [1,3,4] f93b0))) (.seq (.ops false f93r7) .ret))))⟩
def f94r0:LO:=[oQ 4 (.alloc 59) 0]
def f94r1:LO:=[oQ 7 (.build 59 #[]) 59,
 oQ 5 (.alloc 59) 0,
 oS 59 5 7 0]
def f94r2:LO:=[oZ 6 0 3]
def f94r3:LO:=[oM 8 6 3,
 oV .lss 9 3 8 256 4]
def f94r5p0:LO:=[oM 12 6 3,
 oM 13 6 3,
 oM 14 0 5,
 oQ 15 (.convert 5 3 (oT 14)) 3,
 oB .geq 16 3 13 15 4,
 oM 17 16 4,
  gM 18 6 3 17 true,
  gM 19 1 5 17 true,
 oG 20 (.convert 5 3 (oT 19)) 3 17 true,
 oG 21 (.binOp .leq 3 (oT 18) (oT 20) 3) 4 17 true,
 oP 22 17 21 4]
def f94r5p1:LO:=[oF 23 59 5 0 0,
 oI 24 57 23 12 0,
 oS 4 24 22 0]
def f94r5:LO:=f94r5p0 ++ f94r5p1
def f94r4:LO:=[oM 10 6 3,
 oV .add 11 3 10 1 3,
 oA 6 11 3]
def f94b0:AC:=(.seq (.seq (.ops false f94r3) (.cond (oT 9) .skip (.exit 0))) (.seq (.block 1 (.ops false f94r5)) (.ops false f94r4)))
def f94r6:LO:=[oL 25 59 5 59,
 oS 59 4 25 0]
def f94:AFun:=⟨26,[(.cell 4 59)],(.seq (.ops false f94r0) (.seq (.ops false f94r1) (.seq (.seq (.ops false f94r2) (.block 0 (.loop [0,1,4,5,6] f94b0))) (.seq (.ops false f94r6) .ret))))⟩
def f95r0:LO:=[oQ 3 (.box 97 (oT 1)) 0,
 oQ 4 (.alloc 61) 0,
 oQ 5 (.assign kF) 4]
def f95r1:LO:=[oM 16 0 39,
 oF 17 97 3 1 0,
 oL 18 3 17 3,
 oQ 19 (cF 58 #[(oT 16),(oT 18)] #[39,3]) 110,
 oM 15 19 110,
 oX 20 15 0 61,
 oX 21 15 1 4,
 oQ 6 (.alloc 61) 0,
 oS 61 6 20 0,
 oA 7 21 4]
def f95r2:LO:=[oM 23 0 39,
 oF 24 97 3 2 0,
 oL 25 3 24 3,
 oQ 26 (cF 58 #[(oT 23),(oT 25)] #[39,3]) 110,
 oM 22 26 110,
 oX 27 22 0 61,
 oX 28 22 1 4,
 oQ 8 (.alloc 61) 0,
 oS 61 8 27 0,
 oA 9 28 4]
def f95r3:LO:=[oF 29 61 6 0 0,
 oL 30 59 29 59,
 oF 31 61 8 0 0,
 oL 32 59 31 59,
 oQ 33 (cF 122 #[(oT 30),(oT 32)] #[59,59]) 59,
 oQ 10 (.alloc 59) 0,
 oS 59 10 33 0]
def f95r4:LO:=[oF 34 97 3 0 0,
 oL 35 3 34 3,
 oE 36 3 35 9 4]
def f95r5p0:LO:=[oL 37 59 10 59,
 oF 38 61 6 1 0,
 oL 39 4 38 4,
 oM 40 39 4,
  gF 41 61 8 1 0 40 false,
  gL 42 4 41 4 40 false,
 oO 43 40 42 4]
def f95r5p1:LO:=[oF 44 61 6 2 0,
 oL 45 4 44 4,
 oM 46 45 4,
  gF 47 61 8 2 0 46 true,
  gL 48 4 47 4 46 true,
 oP 49 46 48 4]
def f95r5p2:LO:=[oQ 50 (.build 61 #[(0,(oT 37)),(1,(oT 43)),(2,(oT 49)),(3,(.const (.string { data:=#[] })))]) 61,
 oS 61 4 50 0,
 oQ 5 (.assign kF) 4]
def f95r5:LO:=f95r5p0 ++ (f95r5p1 ++ f95r5p2)
def f95r6:LO:=[oF 51 61 6 1 0,
 oL 52 4 51 4,
 oQ 53 (.unOp .not 4 (oT 52)) 4]
def f95r7:LO:=[oF 54 61 6 0 0,
 oL 55 59 54 59,
 oS 59 10 55 0]
def f95r8:LO:=[oM 57 0 39,
 oF 58 97 3 1 0,
 oL 59 3 58 3,
 oQ 60 (cF 82 #[(oT 57),(oT 59)] #[39,3]) 136,
 oM 56 60 136,
 oX 61 56 0 3,
 oX 62 56 1 3,
 oA 11 61 3,
 oA 12 62 3]
def f95r9p0:LO:=[oF 63 61 6 3 0,
 oL 64 9 63 9,
 oM 65 7 4,
 oM 66 65 4,
  gM 67 9 4 66 true,
 oP 68 66 67 4]
def f95r9p1:LO:=[oA 13 64 9,
 oA 14 68 4]
def f95r9:LO:=f95r9p0 ++ f95r9p1
def f95r10:LO:=[oM 69 7 4]
def f95r11p0:LO:=[oF 71 61 6 3 0,
 oL 72 9 71 9,
 oF 73 61 8 3 0,
 oL 74 9 73 9,
 oB .add 75 9 72 74 9,
 oM 76 7 4,
 oM 77 76 4,
  gM 78 9 4 77 true,
 oP 79 77 78 4]
def f95r11p1:LO:=[oQ 80 (cF 123 #[(oT 75),(oT 79)] #[9,4]) 182,
 oM 70 80 182,
 oX 81 70 0 9,
 oX 82 70 1 4,
 oA 13 81 9,
 oA 14 82 4]
def f95r11:LO:=f95r11p0 ++ f95r11p1
def f95r12p0:LO:=[oL 83 59 10 59,
 oF 84 61 6 1 0,
 oL 85 4 84 4,
 oM 86 85 4,
  gF 87 61 8 1 0 86 true,
  gL 88 4 87 4 86 true,
 oP 89 86 88 4]
def f95r12p1:LO:=[oF 90 61 6 2 0,
 oL 91 4 90 4,
 oM 92 91 4,
  gF 93 61 8 2 0 92 false,
  gL 94 4 93 4 92 false,
  gM 95 94 4 92 false,
  gM 96 12 3 95 true,
 oG 97 (.binOp .eql 3 (oT 96) (kI 0) 3) 4 95 true,
 oG 98 (.pick (oT 95) (oT 97) kF) 4 92 false,
 oO 99 92 98 4]
def f95r12p2:LO:=[oM 100 13 9,
 oQ 101 (.build 61 #[(0,(oT 83)),(1,(oT 89)),(2,(oT 99)),(3,(oT 100))]) 61,
 oM 102 14 4,
 oS 61 4 101 0,
 oA 5 102 4]
def f95r12:LO:=f95r12p0 ++ (f95r12p1 ++ f95r12p2)
def f95:AFun:=⟨103,[(.cell 4 61),(.tmp 5)],(.seq (.ops false f95r0) (.seq (.ops false f95r1) (.seq (.ops false f95r2) (.seq (.ops false f95r3) (.seq (.seq (.ops false f95r4) (.cond (.tmp 36) (.seq (.ops false f95r5) .ret) .skip)) (.seq (.seq (.ops false f95r6) (.cond (.tmp 53) (.ops false f95r7) .skip)) (.seq (.ops false f95r8) (.seq (.ops false f95r9) (.seq (.seq (.ops false f95r10) (.cond (.tmp 69) (.ops false f95r11) .skip)) (.seq (.ops false f95r12) .ret))))))))))⟩
noncomputable def f96:AFun:=⟨18,[(.tmp 4)],cvF Tryz.f96 (.seq hO (.seq hO .ret))⟩
def f97r0:LO:=[oQ 1 (.box 72 (oT 0)) 0,
 oQ 2 (.assign kF) 4]
def f97r1p0:LO:=[oF 3 72 1 0 0,
 oL 4 3 3 3,
 oV .lss 5 3 4 0 4,
 oM 6 5 4,
  gF 7 72 1 0 0 6 false,
  gL 8 3 7 3 6 false,
 oG 9 (.binOp .geq 3 (oT 8) (kI 18) 3) 4 6 false,
 oO 10 6 9 4]
def f97r1p1:LO:=[oM 11 10 4,
  gL 12 72 1 72 11 false,
 oG 13 (cF 124 #[(oT 12)] #[72]) 72 11 false,
  gL 14 72 1 72 11 false,
 oG 15 (cF 125 #[(oT 14)] #[72]) 72 11 false,
 oG 16 (cF 124 #[(oT 15)] #[72]) 72 11 false,
 oG 17 (.binOp .neq 72 (oT 13) (oT 16) 72) 4 11 false,
 oO 18 11 17 4]
def f97r1:LO:=f97r1p0 ++ f97r1p1
def f97r2:LO:=[oQ 2 (.assign kF) 4]
def f97r3:LO:=[oF 19 72 1 0 0,
 oL 20 3 19 3,
 oV .neq 21 3 20 10 4]
def f97r4:LO:=[oQ 2 (.assign kT) 4]
def f97r5p0:LO:=[oF 22 72 1 4 0,
 oL 23 3 22 3,
 oV .geq 24 3 23 0 4,
 oM 25 24 4,
  gF 26 72 1 4 0 25 true,
  gL 27 3 26 3 25 true,
 oG 28 (.binOp .leq 3 (oT 27) (kI 100) 3) 4 25 true,
 oP 29 25 28 4]
def f97r5p1:LO:=[oM 30 29 4,
  gF 31 72 1 5 0 30 true,
  gL 32 3 31 3 30 true,
 oG 33 (.binOp .eql 3 (oT 32) (kI (-1)) 3) 4 30 true,
  gM 34 33 4 30 true,
  gF 35 72 1 5 0 34 false,
  gL 36 3 35 3 34 false,
  gF 37 72 1 4 0 34 false,
  gL 38 3 37 3 34 false,
 oG 39 (.binOp .geq 3 (oT 36) (oT 38) 3) 4 34 false,
  gM 40 39 4 34 false,
  gF 41 72 1 5 0 40 true,
  gL 42 3 41 3 40 true,
 oG 43 (.binOp .leq 3 (oT 42) (kI 100) 3) 4 40 true,
 oG 44 (.pick (oT 40) (oT 43) kF) 4 34 false,
 oG 45 (.pick (oT 34) kT (oT 44)) 4 30 true,
 oP 46 30 45 4]
def f97r5p2:LO:=[oM 47 46 4,
  gF 48 72 1 6 0 47 true,
  gL 49 3 48 3 47 true,
 oG 50 (.binOp .geq 3 (oT 49) (kI 0) 3) 4 47 true,
 oP 51 47 50 4]
def f97r5p3:LO:=[oM 52 51 4,
  gF 53 72 1 6 0 52 true,
  gL 54 3 53 3 52 true,
 oG 55 (.binOp .leq 3 (oT 54) (kI 2) 3) 4 52 true,
 oP 56 52 55 4]
def f97r5p4:LO:=[oA 2 56 4]
def f97r5:LO:=f97r5p0 ++ (f97r5p1 ++ (f97r5p2 ++ (f97r5p3 ++ f97r5p4)))
def f97:AFun:=⟨57,[(.tmp 2)],(.seq (.ops false f97r0) (.seq (.seq (.ops true f97r1) (.cond (.tmp 18) (.seq (.ops false f97r2) .ret) .skip)) (.seq (.seq (.ops false f97r3) (.cond (.tmp 21) (.seq (.ops false f97r4) .ret) .skip)) (.seq (.ops false f97r5) .ret))))⟩
def f98r0:LO:=[oZ 2 0 3]
def f98r1:LO:=[oM 5 0 100,
 oQ 6 (cB .len #[(oT 5)] #[100]) 3,
 oV .lss 7 3 6 1 4]
def f98r2:LO:=[oQ 8 (.makeInterface 9 (.const (.string { data:=#[115,108,105,99,101,115,46,77,97,120,58,32,101,109,112,116,121,32,108,105,115,116] }))) 20,
 oN (.panic (oT 8)) 0]
def f98r3:LO:=[oM 9 0 100,
 oQ 10 (.indexAddr 100 (oT 9) (kI 0)) 0,
 oL 11 3 10 3,
 oA 3 11 3]
def f98r4:LO:=[oZ 4 1 3]
def f98r5:LO:=[oM 12 4 3,
 oM 13 0 100,
 oQ 14 (cB .len #[(oT 13)] #[100]) 3,
 oB .lss 15 3 12 14 4]
def f98r7:LO:=[oM 18 3 3,
 oM 19 0 100,
 oM 20 4 3,
 oI 21 100 19 20 0,
 oL 22 3 21 3,
 oQ 23 (cB .max #[(oT 18),(oT 22)] #[3,3]) 3,
 oA 3 23 3]
def f98r6:LO:=[oM 16 4 3,
 oV .add 17 3 16 1 3,
 oA 4 17 3]
def f98b0:AC:=(.seq (.seq (.ops false f98r5) (.cond (oT 15) .skip (.exit 0))) (.seq (.block 1 (.ops false f98r7)) (.ops false f98r6)))
def f98r8:LO:=[oM 24 3 3,
 oA 2 24 3]
def f98:AFun:=⟨25,[(.tmp 2)],(.seq (.ops false f98r0) (.seq (.seq (.ops false f98r1) (.cond (.tmp 7) (.ops false f98r2) .skip)) (.seq (.ops false f98r3) (.seq (.seq (.ops false f98r4) (.block 0 (.loop [0,3,4] f98b0))) (.seq (.ops false f98r8) .ret)))))⟩
def f99r0:LO:=[oZ 4 0 3]
def f99r1:LO:=[oM 5 0 3,
 oE 6 3 5 (-1) 4,
 oM 7 6 4,
  gM 8 1 3 7 false,
 oG 9 (.binOp .eql 3 (oT 8) (kI (-1)) 3) 4 7 false,
 oO 10 7 9 4]
def f99r2:LO:=[oZ 4 (-1) 3]
def f99r3:LO:=[oM 11 0 3,
 oM 12 1 3,
 oB .add 13 3 11 12 3,
 oQ 14 (cB .min #[(oT 13),(kI 1048576)] #[3,3]) 3,
 oA 4 14 3]
def f99:AFun:=⟨15,[(.tmp 4)],(.seq (.ops false f99r0) (.seq (.seq (.ops false f99r1) (.cond (.tmp 10) (.seq (.ops false f99r2) .ret) .skip)) (.seq (.ops false f99r3) .ret)))⟩
def f100r0:LO:=[oZ 4 0 3]
def f100r1p0:LO:=[oM 6 0 3,
 oE 7 3 6 0 4,
 oM 8 7 4,
  gM 9 1 3 8 false,
 oG 10 (.binOp .eql 3 (oT 9) (kI 0) 3) 4 8 false,
 oO 11 8 10 4]
def f100r1p1:LO:=[oA 5 11 4]
def f100r1:LO:=f100r1p0 ++ f100r1p1
def f100r2:LO:=[oZ 4 0 3]
def f100r3p0:LO:=[oM 13 0 3,
 oE 14 3 13 (-1) 4,
 oM 15 14 4,
  gM 16 1 3 15 false,
 oG 17 (.binOp .eql 3 (oT 16) (kI (-1)) 3) 4 15 false,
 oO 18 15 17 4]
def f100r3p1:LO:=[oA 12 18 4]
def f100r3:LO:=f100r3p0 ++ f100r3p1
def f100r4:LO:=[oZ 4 (-1) 3]
def f100r5:LO:=[oM 19 0 3,
 oM 20 1 3,
 oB .mul 21 3 19 20 3,
 oQ 22 (cB .min #[(oT 21),(kI 1048576)] #[3,3]) 3,
 oA 4 22 3]
def f100:AFun:=⟨23,[(.tmp 4)],(.seq (.ops false f100r0) (.seq (.block 0 (.seq (.ops false f100r1) (.cond (.tmp 5) (.seq (.ops false f100r2) .ret) (.seq (.ops false f100r3) (.cond (.tmp 12) (.seq (.ops false f100r4) .ret) .skip))))) (.seq (.ops false f100r5) .ret)))⟩
def f102r0:LO:=[oZ 3 0 3]
def f102r1:LO:=[oM 4 0 3,
 oL 5 100 1 100,
 oM 6 0 3,
 oI 7 100 5 6 0,
 oL 8 3 7 3,
 oB .sub 9 3 4 8 3,
 oV .add 10 3 9 1 3,
 oA 3 10 3]
def f102:AFun:=⟨11,[(.tmp 3)],(.seq (.ops false f102r0) (.seq (.ops false f102r1) .ret))⟩
noncomputable def f103:AFun:=⟨14,[],cvF Tryz.f103 (.seq hO hO)⟩
def f104r0:LO:=[oZ 6 0 3]
def f104r1:LO:=[oL 8 99 2 99,
 oM 9 0 3,
 oQ 10 (.call { callee:=(.value (oT 8)),args:=#[(oT 9)],argTypes:=#[3] }) 3,
 oL 11 99 2 99,
 oM 12 1 3,
 oQ 13 (.call { callee:=(.value (oT 11)),args:=#[(oT 12)],argTypes:=#[3] }) 3,
 oB .sub 14 3 10 13 3,
 oA 7 14 3]
def f104r2:LO:=[oM 15 7 3,
 oV .neq 16 3 15 0 4]
def f104r3:LO:=[oM 17 7 3,
 oA 6 17 3]
def f104r4:LO:=[oL 18 100 3 100,
 oM 19 1 3,
 oI 20 100 18 19 0,
 oL 21 3 20 3,
 oL 22 100 3 100,
 oM 23 0 3,
 oI 24 100 22 23 0,
 oL 25 3 24 3,
 oB .sub 26 3 21 25 3,
 oA 6 26 3]
def f104:AFun:=⟨27,[(.tmp 6)],(.seq (.ops false f104r0) (.seq (.seq (.ops true f104r1) (.seq (.ops false f104r2) (.cond (.tmp 16) (.seq (.ops false f104r3) .ret) .skip))) (.seq (.ops true f104r4) .ret)))⟩
def f105r0:LO:=[oQ 2 (.box 72 (oT 0)) 0,
 oQ 3 (.assign kF) 4]
def f105r1p0:LO:=[oF 4 72 2 0 0,
 oL 5 3 4 3,
 oE 6 3 5 12 4,
 oM 7 6 4,
  gF 8 72 2 7 0 7 true,
  gL 9 3 8 3 7 true,
 oG 10 (.binOp .lss 3 (oT 9) (kI 1) 3) 4 7 true,
  gM 11 10 4 7 true,
  gF 12 72 2 7 0 11 false,
  gL 13 3 12 3 11 false,
  gL 14 100 1 100 11 false,
 oG 15 (cB .len #[(oT 14)] #[100]) 3 11 false,
 oG 16 (.binOp .gtr 3 (oT 13) (oT 15) 3) 4 11 false,
 oG 17 (.pick (oT 11) kT (oT 16)) 4 7 true,
 oP 18 7 17 4]
def f105r1p1:LO:=[oA 3 18 4]
def f105r1:LO:=f105r1p0 ++ f105r1p1
def f105:AFun:=⟨19,[(.tmp 3)],(.seq (.ops false f105r0) (.seq (.ops false f105r1) .ret))⟩
def f106r0:LO:=[oQ 4 (.assign kF) 4]
def f106r1:LO:=[oM 5 0 35,
 oM 6 1 158,
 oQ 7 (cF 138 #[(oT 5),(oT 6)] #[35,158]) 3,
 oV .geq 8 3 7 0 4,
 oA 4 8 4]
def f106:AFun:=⟨9,[(.tmp 4)],(.seq (.ops false f106r0) (.seq (.ops false f106r1) .ret))⟩
noncomputable def f108:AFun:=⟨9,[(.cell 2 37)],cvF Tryz.f108 (.seq hO (.seq hO .ret))⟩
noncomputable def f109:AFun:=⟨8,[(.tmp 4)],cvF Tryz.f109 (.seq hO (.seq hO .ret))⟩
noncomputable def f110:AFun:=⟨15,[(.tmp 4)],cvF Tryz.f110 (.seq hO (.seq (.seq hO (.block 0 (.loop [1,8] (.seq hO (.seq (hC .skip (.exit 0)) (.block 1 (.seq hO (.seq hO (hC (.seq hO .ret) .skip))))))))) (.seq hO .ret)))⟩
noncomputable def f111:AFun:=⟨65,[(.tmp 2),(.tmp 3),(.tmp 4)],cvF Tryz.f111 (.seq hO (.seq hO (.seq hO (.seq hO (.seq (.seq hO (hC (.seq hO (.seq hO (.seq hO (.seq hO (.seq hO (hC hO .skip)))))) .skip)) (.seq (.seq hO (hC (.seq hO .ret) .skip)) (.seq hO .ret)))))))⟩
noncomputable def f112:AFun:=⟨76,[(.cell 2 25),(.tmp 3)],cvF Tryz.f112 (.seq hO (.seq hO (.seq (.seq hO (hC (.seq hO .ret) .skip)) (.seq hO (.seq hO (.seq hO (.seq (.seq hO (hC (.seq hO .ret) .skip)) (.seq hO .ret))))))))⟩
def f113r0:LO:=[oQ 1 (.box 25 (oT 0)) 0,
 oQ 2 (.alloc 25) 0]
def f113r1:LO:=[oQ 4 (.move (kI 0)) 3]
def f113r2:LO:=[oV .lss 5 3 4 4 0]
def f113r3:LO:=[oM 6 4 3,
 oA 3 6 3]
def f113r4:LO:=[oM 7 3 3,
 oM 8 3 3,
 oF 9 25 1 0 0,
 oI 10 23 9 8 0,
 oL 11 22 10 22,
 oQ 12 (.unOp .xor 22 (oT 11)) 22,
 oF 13 25 1 0 0,
 oI 14 23 13 7 0,
 oS 22 14 12 0]
def f113r5:LO:=[oV .add 15 3 4 1 3,
 oM 4 15 3]
def f113b0:AC:=(.seq (.ops false f113r2) (.seq (.cond (oT 5) .skip (.exit 0)) (.seq (.block 1 (.seq (.ops false f113r3) (.ops false f113r4))) (.ops false f113r5))))
def f113r6:LO:=[oL 16 25 1 25,
 oS 25 2 16 0]
def f113:AFun:=⟨17,[(.cell 2 25)],(.seq (.ops false f113r0) (.seq (.seq (.ops false f113r1) (.block 0 (.loop [1,2,4] f113b0))) (.seq (.ops false f113r6) .ret)))⟩
noncomputable def f114:AFun:=⟨42,[(.tmp 4)],cvF Tryz.f114 (.seq hO (.seq hO (.seq (.block 0 (.seq hO (hC hO (.seq hO (hC hO (.seq hO (hC hO .skip))))))) (.seq (.seq hO (hC (.seq hO .ret) .skip)) (.seq hO .ret)))))⟩
noncomputable def f115:AFun:=⟨73,[(.cell 2 25),(.tmp 3)],cvF Tryz.f115 (.seq hO (.seq (.seq hO (hC (.seq hO .ret) .skip)) (.seq hO (.seq hO (.block 0 (.seq hO (hC (.seq hO .ret) (.seq hO (hC (.seq hO .ret) (.seq hO (hC (.seq hO .ret) (.seq hO (hC (.seq hO .ret) (.seq hO (hC (.seq hO .ret) (.seq hO (hC (.seq hO .ret) (.seq hO (hC (.seq (.seq hO (hC (.seq hO .ret) .skip)) (.seq hO .ret)) (.seq (.seq hO (.seq hO (hC (.seq hO .ret) .skip))) (.seq (.seq hO (hC (.seq hO .ret) .skip)) (.seq hO .ret))))))))))))))))))))))⟩
def f116r0:LO:=[oZ 2 0 3]
def f116r1p0:LO:=[oM 3 0 39,
 oQ 4 (cB .len #[(oT 3)] #[39]) 3,
 oE 5 3 4 0 4,
 oM 6 5 4,
  gM 7 0 39 6 false,
 oG 8 (cB .len #[(oT 7)] #[39]) 3 6 false,
 oG 9 (.binOp .gtr 3 (oT 8) (kI 500) 3) 4 6 false,
 oO 10 6 9 4]
def f116r1p1:LO:=[oM 11 10 4,
  gM 12 0 39 11 false,
  gM 13 0 39 11 false,
 oG 14 (cB .len #[(oT 13)] #[39]) 3 11 false,
 oG 15 (.binOp .sub 3 (oT 14) (kI 1) 3) 3 11 false,
 oG 16 (cF 150 #[(oT 12),(oT 15)] #[39,3]) 3 11 false,
  gM 17 0 39 11 false,
 oG 18 (cB .len #[(oT 17)] #[39]) 3 11 false,
 oG 19 (.binOp .neq 3 (oT 16) (oT 18) 3) 4 11 false,
 oO 20 11 19 4]
def f116r1:LO:=f116r1p0 ++ f116r1p1
def f116r2:LO:=[oZ 2 0 3]
def f116r3:LO:=[oM 21 0 39,
 oM 22 0 39,
 oQ 23 (cB .len #[(oT 22)] #[39]) 3,
 oV .sub 24 3 23 1 3,
 oQ 25 (cF 151 #[(oT 21),(oT 24)] #[39,3]) 3,
 oA 2 25 3]
def f116:AFun:=⟨26,[(.tmp 2)],(.seq (.ops false f116r0) (.seq (.seq (.ops false f116r1) (.cond (.tmp 20) (.seq (.ops false f116r2) .ret) .skip)) (.seq (.ops false f116r3) .ret)))⟩
def f117r0:LO:=[oZ 4 0 3]
def f117r1:LO:=[oM 5 0 3,
 oV .lss 6 3 5 0 4,
 oM 7 6 4,
  gM 8 1 3 7 false,
 oG 9 (.binOp .lss 3 (oT 8) (kI 0) 3) 4 7 false,
 oO 10 7 9 4]
def f117r2:LO:=[oZ 4 (-1) 3]
def f117r3:LO:=[oM 11 0 3,
 oM 12 1 3,
 oB .add 13 3 11 12 3,
 oQ 14 (cB .min #[(oT 13),(kI 1048576)] #[3,3]) 3,
 oA 4 14 3]
def f117:AFun:=⟨15,[(.tmp 4)],(.seq (.ops false f117r0) (.seq (.seq (.ops false f117r1) (.cond (.tmp 10) (.seq (.ops false f117r2) .ret) .skip)) (.seq (.ops false f117r3) .ret)))⟩
def f118r0:LO:=[oZ 4 0 3]
def f118r1:LO:=[oM 5 0 3,
 oE 6 3 5 0 4,
 oM 7 6 4,
  gM 8 1 3 7 false,
 oG 9 (.binOp .eql 3 (oT 8) (kI 0) 3) 4 7 false,
 oO 10 7 9 4]
def f118r2:LO:=[oZ 4 0 3]
def f118r3:LO:=[oM 11 0 3,
 oV .lss 12 3 11 0 4,
 oM 13 12 4,
  gM 14 1 3 13 false,
 oG 15 (.binOp .lss 3 (oT 14) (kI 0) 3) 4 13 false,
 oO 16 13 15 4]
def f118r4:LO:=[oZ 4 (-1) 3]
def f118r5:LO:=[oM 17 0 3,
 oM 18 1 3,
 oB .mul 19 3 17 18 3,
 oQ 20 (cB .min #[(oT 19),(kI 1048576)] #[3,3]) 3,
 oA 4 20 3]
def f118:AFun:=⟨21,[(.tmp 4)],(.seq (.ops false f118r0) (.seq (.seq (.ops false f118r1) (.cond (.tmp 10) (.seq (.ops false f118r2) .ret) .skip)) (.seq (.seq (.ops false f118r3) (.cond (.tmp 16) (.seq (.ops false f118r4) .ret) .skip)) (.seq (.ops false f118r5) .ret))))⟩
def f120r0:LO:=[oQ 1 (.box 25 (oT 0)) 0,
 oQ 2 (.assign (kB 0)) 5,
 oQ 3 (.assign kF) 4]
def f120r1:LO:=[oF 6 25 1 0 0,
 oL 7 23 6 23,
 oQ 8 (.move (kI 0)) 3]
def f120r2:LO:=[oV .lss 9 3 8 4 0]
def f120r3:LO:=[oM 10 8 3,
 oQ 11 (.index 23 (oT 7) (oT 8)) 22,
 oA 4 10 3,
 oA 5 11 22]
def f120r4:LO:=[oM 12 5 22,
 oQ 13 (.binOp .neq 22 (oT 12) (kW 0) 22) 4]
def f120r5:LO:=[oM 14 4 3,
 oV .mul 15 3 14 64 3,
 oM 16 5 22,
 oQ 17 (cF 152 #[(oT 16)] #[22]) 3,
 oB .add 18 3 15 17 3,
 oQ 19 (.convert 3 5 (oT 18)) 5,
 oA 2 19 5,
 oQ 3 (.assign kT) 4]
def f120r6:LO:=[oV .add 20 3 8 1 3,
 oM 8 20 3]
def f120b0:AC:=(.seq (.ops false f120r2) (.seq (.cond (oT 9) .skip (.exit 0)) (.seq (.block 1 (.seq (.ops false f120r3) (.seq (.ops false f120r4) (.cond (oT 13) (.seq (.ops false f120r5) .ret) .skip)))) (.ops false f120r6))))
def f120r7:LO:=[oQ 2 (.assign (kB 0)) 5,
 oQ 3 (.assign kF) 4]
def f120:AFun:=⟨21,[(.tmp 2),(.tmp 3)],(.seq (.ops false f120r0) (.seq (.seq (.ops false f120r1) (.block 0 (.loop [7,8] f120b0))) (.seq (.ops false f120r7) .ret)))⟩
def f121r0:LO:=[oQ 1 (.box 107 (oT 0)) 0,
 oQ 2 (.alloc 107) 0]
def f121r1:LO:=[oF 3 107 1 0 0,
 oF 4 54 3 3 0,
 oL 5 9 4 9,
 oQ 6 (cB .len #[(oT 5)] #[9]) 3,
 oV .gtr 7 3 6 100 4]
def f121r2:LO:=[oF 8 107 1 0 0,
 oF 9 54 8 3 0,
 oL 10 9 9 9,
 oQ 11 (.slice 9 (oT 10) none (some (kI 100)) none) 9,
 oF 12 107 1 0 0,
 oF 13 54 12 3 0,
 oS 9 13 11 0,
 oF 14 107 1 1 0,
 oN (.store 4 (oT 14) kF) 0]
def f121r3:LO:=[oL 15 107 1 107,
 oS 107 2 15 0]
def f121:AFun:=⟨16,[(.cell 2 107)],(.seq (.ops false f121r0) (.seq (.seq (.ops false f121r1) (.cond (.tmp 7) (.ops false f121r2) .skip)) (.seq (.ops false f121r3) .ret)))⟩
def f122r0:LO:=[oQ 2 (.box 59 (oT 0)) 0,
 oQ 3 (.box 59 (oT 1)) 0,
 oQ 4 (.alloc 59) 0]
def f122r1:LO:=[oZ 5 0 3]
def f122r2:LO:=[oM 6 5 3,
 oV .lss 7 3 6 256 4]
def f122r4p0:LO:=[oM 10 5 3,
 oM 11 5 3,
 oF 12 59 2 0 0,
 oI 13 57 12 11 0,
 oL 14 4 13 4,
 oM 15 14 4,
  gM 16 5 3 15 false,
  gF 17 59 3 0 0 15 false,
 oG 18 (.indexAddr 57 (oT 17) (oT 16)) 0 15 false,
  gL 19 4 18 4 15 false,
 oO 20 15 19 4]
def f122r4p1:LO:=[oF 21 59 2 0 0,
 oI 22 57 21 10 0,
 oS 4 22 20 0]
def f122r4:LO:=f122r4p0 ++ f122r4p1
def f122r3:LO:=[oM 8 5 3,
 oV .add 9 3 8 1 3,
 oA 5 9 3]
def f122b0:AC:=(.seq (.seq (.ops false f122r2) (.cond (oT 7) .skip (.exit 0))) (.seq (.block 1 (.ops false f122r4)) (.ops false f122r3)))
def f122r5:LO:=[oL 23 59 2 59,
 oS 59 4 23 0]
def f122:AFun:=⟨24,[(.cell 4 59)],(.seq (.ops false f122r0) (.seq (.seq (.ops false f122r1) (.block 0 (.loop [2,3,4,5] f122b0))) (.seq (.ops false f122r5) .ret)))⟩
def f123r0:LO:=[oQ 4 (.assign (.const (.string { data:=#[] }))) 9,
 oQ 5 (.assign kF) 4]
def f123r1:LO:=[oM 6 0 9,
 oQ 7 (cB .len #[(oT 6)] #[9]) 3,
 oV .gtr 8 3 7 100 4]
def f123r2:LO:=[oM 9 0 9,
 oQ 10 (.slice 9 (oT 9) none (some (kI 100)) none) 9,
 oA 4 10 9,
 oQ 5 (.assign kF) 4]
def f123r3:LO:=[oM 11 0 9,
 oM 12 1 4,
 oA 4 11 9,
 oA 5 12 4]
def f123:AFun:=⟨13,[(.tmp 4),(.tmp 5)],(.seq (.ops false f123r0) (.seq (.seq (.ops false f123r1) (.cond (.tmp 8) (.seq (.ops false f123r2) .ret) .skip)) (.seq (.ops false f123r3) .ret)))⟩
def f124r0:LO:=[oQ 1 (.box 72 (oT 0)) 0,
 oQ 2 (.alloc 72) 0]
def f124r1:LO:=[oF 3 72 1 0 0,
 oN (.store 3 (oT 3) (kI 0)) 0,
 oF 4 72 1 1 0,
 oN (.store 3 (oT 4) (kI 0)) 0,
 oF 5 72 1 2 0,
 oN (.store 3 (oT 5) (kI 0)) 0]
def f124r2:LO:=[oL 6 72 1 72,
 oS 72 2 6 0]
def f124:AFun:=⟨7,[(.cell 2 72)],(.seq (.ops false f124r0) (.seq (.ops false f124r1) (.seq (.ops false f124r2) .ret)))⟩
noncomputable def f125:AFun:=⟨39,[(.cell 2 72)],cvF Tryz.f125 (.seq hO (.seq hO (.seq (.seq hO (.block 0 (.seq hO (hC hO (.seq hO (hC (.opsL [18,20] 11 false []) (.seq hO (hC hO (.seq hO (hC (.opsL [34] 7 false []) .skip)))))))))) (.seq hO .ret))))⟩
noncomputable def f136:AFun:=⟨148,[],cvF Tryz.f136 (.seq hO (.seq hO (.block 0 (.loop [0,1,2,3,4,10,11] (.block 1 (.seq hO (.seq (.seq hO (hC (.seq hO .ret) .skip)) (.seq (.seq hO (hC (.seq hO .ret) .skip)) (.seq (.seq hO (hC (.seq hO hO) .skip)) (.seq hO (.seq (.seq hO (hC (.seq hO (.seq hO hO)) .skip)) (.seq (.seq hO (hC (.seq hO (hC .ret .skip)) .skip)) (.seq (.seq hQ (hC (.seq hO (.seq hO (.exit 1))) .skip)) (.seq hO (.seq hO (.seq hO (.seq hO (.seq hO (hC (.seq hO (.seq hO hO)) (.seq hO (.seq hO hO)))))))))))))))))))))⟩
noncomputable def f137:AFun:=⟨8,[(.tmp 2)],cvF Tryz.f137 (.seq hO (.seq (hC (.seq hO .ret) .skip) (.seq hO .ret)))⟩
def f138r0:LO:=[oZ 4 0 3]
def f138r1:LO:=[oM 6 0 35,
 oQ 7 (cB .len #[(oT 6)] #[35]) 3,
 oQ 8 (.move (kI 0)) 3]
def f138r2:LO:=[oB .lss 9 3 8 7 0]
def f138r3:LO:=[oM 10 8 3,
 oA 5 10 3]
def f138r4:LO:=[oM 11 1 158,
 oM 12 0 35,
 oM 13 5 3,
 oI 14 35 12 13 0,
 oL 15 72 14 72,
 oQ 16 (.call { callee:=(.value (oT 11)),args:=#[(oT 15)],argTypes:=#[72] }) 4]
def f138r5:LO:=[oM 17 5 3,
 oA 4 17 3]
def f138r6:LO:=[oV .add 18 3 8 1 3,
 oM 8 18 3]
def f138b0:AC:=(.seq (.ops false f138r2) (.seq (.cond (oT 9) .skip (.exit 0)) (.seq (.block 1 (.seq (.ops false f138r3) (.seq (.ops false f138r4) (.cond (oT 16) (.seq (.ops false f138r5) .ret) .skip)))) (.ops false f138r6))))
def f138r7:LO:=[oZ 4 (-1) 3]
def f138:AFun:=⟨19,[(.tmp 4)],(.seq (.ops false f138r0) (.seq (.seq (.ops false f138r1) (.block 0 (.loop [0,1,7,8] f138b0))) (.seq (.ops false f138r7) .ret)))⟩
noncomputable def f139:AFun:=⟨20,[(.cell 8 37)],cvF Tryz.f139 (.seq hO (.seq hO (.seq (.block 0 (.loop [1,2,3,8,9] (.seq (.seq hO (hC .skip (.exit 0))) (.block 1 (.opsL [9] 4 false []))))) (.seq hO .ret))))⟩
noncomputable def f140:AFun:=⟨15,[(.tmp 2)],cvF Tryz.f140 (.seq hO (.seq hO (.seq (.seq hO (hC hO .skip)) (.seq hO .ret))))⟩
noncomputable def f141:AFun:=⟨14,[(.cell 2 37)],cvF Tryz.f141 (.seq hO (.seq (.seq hO (hC (.seq hO .ret) .skip)) (.seq hO .ret)))⟩
noncomputable def f142:AFun:=⟨8,[(.tmp 4)],cvF Tryz.f142 (.seq hO (.seq hO .ret))⟩
noncomputable def f143:AFun:=⟨32,[(.tmp 2),(.tmp 3)],cvF Tryz.f143 (.seq hO (.seq hO (.seq (.block 0 (.loop [0,4,5] (.seq (.seq hO (hC .skip (.exit 0))) (.block 1 (.seq hO hO))))) (.seq hO .ret))))⟩
noncomputable def f144:AFun:=⟨35,[(.cell 2 25),(.tmp 3)],cvF Tryz.f144 (.seq hO (.seq (.block 0 (.seq hO (hC (.seq hO .ret) (.seq hO (hC (.seq hO (.seq (.seq hO (hC (.seq hO .ret) .skip)) (.seq hO .ret))) .skip))))) (.seq hO .ret)))⟩
noncomputable def f145:AFun:=⟨19,[(.cell 4 25)],cvF Tryz.f145 (.seq hO (.seq hO (.seq (.seq hO (.block 0 (.loop [1,4,5,6] (.seq (.seq hO (hC .skip (.exit 0))) (.seq (.block 1 hO) hO))))) (.seq hO .ret))))⟩
noncomputable def f146:AFun:=⟨2,[(.cell 0 25)],cvF Tryz.f146 (.seq hO (.seq hO .ret))⟩
noncomputable def f147:AFun:=⟨8,[(.cell 0 25)],cvF Tryz.f147 (.seq hO (.seq hO .ret))⟩
noncomputable def f148:AFun:=⟨4,[(.cell 0 25)],cvF Tryz.f148 (.seq hO (.seq hO .ret))⟩
noncomputable def f149:AFun:=⟨10,[(.tmp 2)],cvF Tryz.f149 (.seq hO (.seq hO .ret))⟩
def f150r0:LO:=[oZ 4 0 3]
def f150r1:LO:=[oM 8 1 3,
 oV .lss 9 3 8 0 4,
 oM 10 9 4,
  gM 11 0 39 10 false,
  gM 12 1 3 10 false,
 oG 13 (.indexAddr 39 (oT 11) (oT 12)) 0 10 false,
  gL 14 97 13 97 10 false,
 oG 15 (cF 168 #[(oT 14)] #[97]) 4 10 false,
 oG 16 (.unOp .not 4 (oT 15)) 4 10 false,
 oO 17 10 16 4]
def f150r2:LO:=[oZ 4 0 3]
def f150r3:LO:=[oM 18 0 39,
 oM 19 1 3,
 oI 20 39 18 19 0,
 oF 21 97 20 0 0,
 oL 22 3 21 3,
 oQ 23 (cF 83 #[(oT 22)] #[3]) 3,
 oA 5 23 3]
def f150r4:LO:=[oM 24 5 3,
 oE 25 3 24 0 4]
def f150r5:LO:=[oM 26 0 39,
 oM 27 1 3,
 oI 28 39 26 27 0,
 oF 29 97 28 1 0,
 oL 30 3 29 3,
 oV .neq 31 3 30 0 4,
 oM 32 31 4,
  gM 33 0 39 32 false,
  gM 34 1 3 32 false,
 oG 35 (.indexAddr 39 (oT 33) (oT 34)) 0 32 false,
  gF 36 97 35 2 0 32 false,
  gL 37 3 36 3 32 false,
 oG 38 (.binOp .neq 3 (oT 37) (kI 0) 3) 4 32 false,
 oO 39 32 38 4]
def f150r6:LO:=[oZ 4 0 3]
def f150r7:LO:=[oZ 4 1 3]
def f150r8:LO:=[oM 40 0 39,
 oM 41 1 3,
 oV .sub 42 3 41 1 3,
 oQ 43 (cF 150 #[(oT 40),(oT 42)] #[39,3]) 3,
 oA 6 43 3]
def f150r9:LO:=[oM 44 6 3,
 oE 45 3 44 0 4]
def f150r10:LO:=[oZ 4 0 3]
def f150r11:LO:=[oM 46 5 3,
 oE 47 3 46 1 4]
def f150r12:LO:=[oM 48 0 39,
 oM 49 1 3,
 oI 50 39 48 49 0,
 oF 51 97 50 1 0,
 oL 52 3 51 3,
 oM 53 1 3,
 oV .sub 54 3 53 1 3,
 oB .neq 55 3 52 54 4,
 oM 56 55 4,
  gM 57 0 39 56 false,
  gM 58 1 3 56 false,
 oG 59 (.indexAddr 39 (oT 57) (oT 58)) 0 56 false,
  gF 60 97 59 2 0 56 false,
  gL 61 3 60 3 56 false,
 oG 62 (.binOp .neq 3 (oT 61) (kI 0) 3) 4 56 false,
 oO 63 56 62 4]
def f150r13:LO:=[oZ 4 0 3]
def f150r14:LO:=[oM 64 6 3,
 oV .add 65 3 64 1 3,
 oA 4 65 3]
def f150r15:LO:=[oM 66 0 39,
 oM 67 1 3,
 oV .sub 68 3 67 1 3,
 oM 69 6 3,
 oB .sub 70 3 68 69 3,
 oQ 71 (cF 150 #[(oT 66),(oT 70)] #[39,3]) 3,
 oA 7 71 3]
def f150r16p0:LO:=[oM 72 7 3,
 oE 73 3 72 0 4,
 oM 74 73 4,
  gM 75 0 39 74 false,
  gM 76 1 3 74 false,
 oG 77 (.indexAddr 39 (oT 75) (oT 76)) 0 74 false,
  gF 78 97 77 1 0 74 false,
  gL 79 3 78 3 74 false,
  gM 80 1 3 74 false,
 oG 81 (.binOp .sub 3 (oT 80) (kI 1) 3) 3 74 false,
  gM 82 6 3 74 false,
 oG 83 (.binOp .sub 3 (oT 81) (oT 82) 3) 3 74 false,
 oG 84 (.binOp .neq 3 (oT 79) (oT 83) 3) 4 74 false,
 oO 85 74 84 4]
def f150r16p1:LO:=[oM 86 85 4,
  gM 87 0 39 86 false,
  gM 88 1 3 86 false,
 oG 89 (.indexAddr 39 (oT 87) (oT 88)) 0 86 false,
  gF 90 97 89 2 0 86 false,
  gL 91 3 90 3 86 false,
  gM 92 1 3 86 false,
 oG 93 (.binOp .sub 3 (oT 92) (kI 1) 3) 3 86 false,
 oG 94 (.binOp .neq 3 (oT 91) (oT 93) 3) 4 86 false,
 oO 95 86 94 4]
def f150r16:LO:=f150r16p0 ++ f150r16p1
def f150r17:LO:=[oZ 4 0 3]
def f150r18:LO:=[oM 96 7 3,
 oM 97 6 3,
 oB .add 98 3 96 97 3,
 oV .add 99 3 98 1 3,
 oA 4 99 3]
def f150:AFun:=⟨100,[(.tmp 4)],(.seq (.ops false f150r0) (.seq (.seq (.ops false f150r1) (.cond (.tmp 17) (.seq (.ops false f150r2) .ret) .skip)) (.seq (.ops false f150r3) (.seq (.seq (.ops false f150r4) (.cond (.tmp 25) (.seq (.seq (.ops false f150r5) (.cond (.tmp 39) (.seq (.ops false f150r6) .ret) .skip)) (.seq (.ops false f150r7) .ret)) .skip)) (.seq (.ops false f150r8) (.seq (.seq (.ops false f150r9) (.cond (.tmp 45) (.seq (.ops false f150r10) .ret) .skip)) (.seq (.seq (.ops false f150r11) (.cond (.tmp 47) (.seq (.seq (.ops false f150r12) (.cond (.tmp 63) (.seq (.ops false f150r13) .ret) .skip)) (.seq (.ops false f150r14) .ret)) .skip)) (.seq (.ops false f150r15) (.seq (.seq (.ops false f150r16) (.cond (.tmp 95) (.seq (.ops false f150r17) .ret) .skip)) (.seq (.ops false f150r18) .ret))))))))))⟩
def f151r0:LO:=[oZ 4 0 3]
def f151r1:LO:=[oM 6 0 39,
 oM 7 1 3,
 oI 8 39 6 7 0,
 oF 9 97 8 0 0,
 oL 10 3 9 3,
 oQ 11 (cF 83 #[(oT 10)] #[3]) 3,
 oA 5 11 3]
def f151r2:LO:=[oM 12 5 3,
 oE 13 3 12 0 4]
def f151r3:LO:=[oZ 4 1 3]
def f151r4:LO:=[oM 14 5 3,
 oE 15 3 14 1 4]
def f151r5:LO:=[oM 16 0 39,
 oM 17 0 39,
 oM 18 1 3,
 oI 19 39 17 18 0,
 oF 20 97 19 1 0,
 oL 21 3 20 3,
 oQ 22 (cF 151 #[(oT 16),(oT 21)] #[39,3]) 3,
 oQ 23 (.binOp .add 3 (kI 1) (oT 22) 3) 3,
 oA 4 23 3]
def f151r6:LO:=[oM 24 0 39,
 oM 25 0 39,
 oM 26 1 3,
 oI 27 39 25 26 0,
 oF 28 97 27 1 0,
 oL 29 3 28 3,
 oQ 30 (cF 151 #[(oT 24),(oT 29)] #[39,3]) 3,
 oM 31 0 39,
 oM 32 0 39,
 oM 33 1 3,
 oI 34 39 32 33 0,
 oF 35 97 34 2 0,
 oL 36 3 35 3,
 oQ 37 (cF 151 #[(oT 31),(oT 36)] #[39,3]) 3,
 oQ 38 (cB .max #[(oT 30),(oT 37)] #[3,3]) 3,
 oQ 39 (.binOp .add 3 (kI 1) (oT 38) 3) 3,
 oA 4 39 3]
def f151:AFun:=⟨40,[(.tmp 4)],(.seq (.ops false f151r0) (.seq (.ops false f151r1) (.seq (.seq (.ops false f151r2) (.cond (.tmp 13) (.seq (.ops false f151r3) .ret) .skip)) (.seq (.seq (.ops false f151r4) (.cond (.tmp 15) (.seq (.ops false f151r5) .ret) .skip)) (.seq (.ops true f151r6) .ret)))))⟩
def f152r0:LO:=[oZ 2 0 3]
def f152r1:LO:=[oM 3 0 22,
 oQ 4 (.binOp .eql 22 (oT 3) (kW 0) 22) 4]
def f152r2:LO:=[oZ 2 64 3]
def f152r3:LO:=[oM 5 0 22,
 oM 6 0 22,
 oQ 7 (.unOp .neg 22 (oT 6)) 22,
 oB .and 8 22 5 7 22,
 oQ 9 (.binOp .mul 22 (oT 8) (kW 285870213051353865) 22) 22,
 oQ 10 (.binOp .shr 22 (oT 9) (kW 58) 167) 22,
 oQ 11 (.indexAddr 206 (.global 1) (oT 10)) 0,
 oL 12 5 11 5,
 oQ 13 (.convert 5 3 (oT 12)) 3,
 oA 2 13 3]
def f152:AFun:=⟨14,[(.tmp 2)],(.seq (.ops false f152r0) (.seq (.seq (.ops false f152r1) (.cond (.tmp 4) (.seq (.ops false f152r2) .ret) .skip)) (.seq (.ops false f152r3) .ret)))⟩
noncomputable def f154:AFun:=⟨53,[],cvF Tryz.f154 (.seq hO (.block 0 (.loop [0,1,2,3,8] (.seq (.seq hO (hC .skip (.exit 0))) (.seq (.block 1 (.seq hO (.block 2 (.loop [0,1,2,3,8,9] (.seq (.seq hQ (hC .skip (.exit 2))) (.seq (.block 3 hQ) hO)))))) hO)))))⟩
noncomputable def f155:AFun:=⟨60,[],cvF Tryz.f155 (.seq hO (.seq hO (.seq hO (.seq (.seq hO (.block 0 (.loop [0,3,8,9,10,11] (.seq (.seq hO (hC .skip (.exit 0))) (.seq (.block 1 hO) hO))))) (.seq hO (.block 2 (.loop [0,3,8,9,12] (.seq (.seq hO (hC .skip (.exit 2))) (.seq (.block 3 (.seq hQ hO)) hO)))))))))⟩
noncomputable def f156:AFun:=⟨67,[],cvF Tryz.f156 (.seq hO (.seq hO (hC (.seq hO (.seq hO (.seq hO (.block 0 (.loop [0,1,8,9,10,11] (.seq (.seq hO (hC .skip (.exit 0))) (.seq (.block 1 (.seq hO (.seq (.seq hO (hC hO .skip)) hQ))) hO))))))) .skip)))⟩
noncomputable def f157:AFun:=⟨63,[(.tmp 8),(.tmp 9)],cvF Tryz.f157 (.seq hO (.seq hO (.seq hO (.seq hO (.seq hO (.seq hO (.seq (.seq hO (hC (.seq (.seq hO (hC (.seq hO (.seq hO hO)) .skip)) hO) .skip)) (.seq hO (.block 0 (.seq hO (hC (.seq hO .ret) (.seq hO (hC (.seq hO .ret) (.seq hO .ret))))))))))))))⟩
noncomputable def f158:AFun:=⟨34,[],cvF Tryz.f158 (.seq hO (.seq hO (.block 0 (.loop [0,8,9] (.seq (.seq hO (hC .skip (.exit 0))) (.block 1 (.seq hQ (.seq hO hO))))))))⟩
noncomputable def f159:AFun:=⟨141,[(.tmp 8)],cvF Tryz.f159 (.seq hO (.seq hO (.seq (.seq hO (.block 0 (.loop [0,1,2,3,9,10] (.seq (.seq hO (hC .skip (.exit 0))) (.seq (.block 1 (.seq (.block 2 (.loop [0,1,2,3,9,10] (.seq (.seq hQ (hC .skip (.exit 2))) (.block 3 hO)))) (.seq (.seq hO (hC (.seq hO .ret) .skip)) (.seq (.seq hO (hC (.seq hO .ret) .skip)) (.seq hQ (.seq (.seq hO (hC (.seq hO (.block 4 (.loop [0,1,2,3,9,10,11] (.seq (.seq hO (hC .skip (.exit 4))) (.seq (.block 5 (.seq (.seq hQ (hC (.exit 4) .skip)) hQ)) hO))))) .skip)) (.seq hO (hC (.seq hO (.block 6 (.loop [0,1,2,3,9,10,12] (.seq (.seq hO (hC .skip (.exit 6))) (.seq (.block 7 (.seq (.seq hQ (hC (.exit 6) .skip)) hQ)) hO))))) .skip)))))))) hO))))) (.seq hO .ret))))⟩
noncomputable def f160:AFun:=⟨90,[(.tmp 10)],cvF Tryz.f160 (.seq hO (.seq hQ (.seq hO (.seq (.block 0 (.loop [0,1,4,11,12] (.block 1 (.seq (.block 2 (.loop [0,1,4,11,12] (.seq (.seq hQ (hC .skip (.exit 2))) (.block 3 hO)))) (.seq (.block 4 (.loop [0,1,4,11,12] (.seq (.seq hQ (hC .skip (.exit 4))) (.block 5 hO)))) (.seq (.seq hO (hC (.exit 0) .skip)) (.seq hQ (.seq hO hO)))))))) (.seq hO .ret)))))⟩
noncomputable def f161:AFun:=⟨178,[(.tmp 10),(.tmp 11)],cvF Tryz.f161 (.seq hO (.seq hQ (.seq hO (.seq (.block 0 (.loop [0,1,4,12,13] (.seq (.seq hQ (hC .skip (.exit 0))) (.block 1 hO)))) (.seq (.block 2 (.loop [0,1,4,12,13] (.seq (.seq hQ (hC .skip (.exit 2))) (.block 3 hO)))) (.seq (.seq hO (hC (.seq hQ (.seq hO .ret)) .skip)) (.seq hQ (.seq hO (.seq hO (.seq (.block 4 (.loop [0,1,4,12,13] (.block 5 (.seq (.block 6 (.loop [0,1,4,12,13] (.seq (.seq hQ (hC .skip (.exit 6))) (.block 7 hO)))) (.seq (.block 8 (.loop [0,1,4,12,13] (.seq (.seq hQ (hC .skip (.exit 8))) (.block 9 hO)))) (.seq (.seq hO (hC (.exit 4) .skip)) (.seq hQ (.seq hO hO)))))))) (.seq hQ (.seq hO .ret))))))))))))⟩
noncomputable def f162:AFun:=⟨19,[(.tmp 2)],cvF Tryz.f162 (.seq hO (.seq (.seq hO (hC (.seq hO hO) .skip)) (.seq (.seq hO (hC (.seq hO hO) .skip)) (.seq hO .ret))))⟩
noncomputable def f163:AFun:=⟨25,[(.tmp 2)],cvF Tryz.f163 (.seq hO (.seq (.seq hO (hC (.seq hO hO) .skip)) (.seq (.seq hO (hC (.seq hO hO) .skip)) (.seq (.seq hO (hC (.seq hO hO) .skip)) (.seq hO .ret)))))⟩
noncomputable def f164:AFun:=⟨30,[(.tmp 4)],cvF Tryz.f164 (.seq hO (.seq hQ .ret))⟩
noncomputable def f165:AFun:=⟨23,[(.tmp 2)],cvF Tryz.f165 (.seq hO (.seq (.opsL [5,9] 12 false []) .ret))⟩
noncomputable def f166:AFun:=⟨36,[(.cell 2 37)],cvF Tryz.f166 (.seq hO (.seq hO (.seq (.seq hO (hC (.seq hQ (.seq hO hO)) .skip)) (.seq hO .ret))))⟩
def f168r0:LO:=[oQ 1 (.box 97 (oT 0)) 0,
 oQ 2 (.assign kF) 4]
def f168r1:LO:=[oF 4 97 1 0 0,
 oL 5 3 4 3,
 oV .lss 6 3 5 0 4,
 oM 7 6 4,
  gF 8 97 1 0 0 7 false,
  gL 9 3 8 3 7 false,
 oG 10 (.binOp .gtr 3 (oT 9) (kI 17) 3) 4 7 false,
 oO 11 7 10 4]
def f168r2:LO:=[oQ 2 (.assign kF) 4]
def f168r3:LO:=[oQ 12 (.build 23 #[]) 23,
 oQ 3 (.alloc 23) 0,
 oS 23 3 12 0]
def f168r4p0:LO:=[oF 13 97 1 0 0,
 oL 14 3 13 3,
 oV .neq 15 3 14 1 4,
 oM 16 15 4,
  gF 17 97 1 3 0 16 true,
  gL 18 23 17 23 16 true,
  gL 19 23 3 23 16 true,
 oG 20 (.binOp .neq 23 (oT 18) (oT 19) 23) 4 16 true,
 oP 21 16 20 4]
def f168r4p1:LO:=[oM 22 21 4,
  gF 23 97 1 0 0 22 false,
  gL 24 3 23 3 22 false,
 oG 25 (.binOp .neq 3 (oT 24) (kI 10) 3) 4 22 false,
  gM 26 25 4 22 false,
  gF 27 97 1 4 0 26 true,
  gL 28 3 27 3 26 true,
 oG 29 (.binOp .neq 3 (oT 28) (kI 0) 3) 4 26 true,
  gM 30 29 4 26 true,
  gF 31 97 1 5 0 30 false,
  gL 32 3 31 3 30 false,
 oG 33 (.binOp .neq 3 (oT 32) (kI 0) 3) 4 30 false,
 oG 34 (.pick (oT 30) kT (oT 33)) 4 26 true,
  gM 35 34 4 26 true,
  gF 36 97 1 6 0 35 false,
  gL 37 3 36 3 35 false,
 oG 38 (.binOp .neq 3 (oT 37) (kI 0) 3) 4 35 false,
 oG 39 (.pick (oT 35) kT (oT 38)) 4 26 true,
 oG 40 (.pick (oT 26) (oT 39) kF) 4 22 false,
 oO 41 22 40 4]
def f168r4p2:LO:=[oM 42 41 4,
  gF 43 97 1 0 0 42 false,
  gL 44 3 43 3 42 false,
 oG 45 (.binOp .neq 3 (oT 44) (kI 11) 3) 4 42 false,
  gM 46 45 4 42 false,
  gF 47 97 1 0 0 46 true,
  gL 48 3 47 3 46 true,
 oG 49 (.binOp .neq 3 (oT 48) (kI 12) 3) 4 46 true,
 oG 50 (.pick (oT 46) (oT 49) kF) 4 42 false,
  gM 51 50 4 42 false,
  gF 52 97 1 7 0 51 true,
  gL 53 3 52 3 51 true,
 oG 54 (.binOp .neq 3 (oT 53) (kI 0) 3) 4 51 true,
 oG 55 (.pick (oT 51) (oT 54) kF) 4 42 false,
 oO 56 42 55 4]
def f168r4p3:LO:=[oM 57 56 4,
  gF 58 97 1 0 0 57 false,
  gL 59 3 58 3 57 false,
 oG 60 (.binOp .neq 3 (oT 59) (kI 12) 3) 4 57 false,
  gM 61 60 4 57 false,
  gF 62 97 1 8 0 61 true,
  gL 63 4 62 4 61 true,
 oG 64 (.pick (oT 61) (oT 63) kF) 4 57 false,
 oO 65 57 64 4]
def f168r4:LO:=f168r4p0 ++ (f168r4p1 ++ (f168r4p2 ++ f168r4p3))
def f168r5:LO:=[oQ 2 (.assign kF) 4]
def f168r6p0:LO:=[oF 66 97 1 0 0,
 oL 67 3 66 3,
 oV .neq 68 3 67 10 4,
 oM 69 68 4,
  gF 70 97 1 4 0 69 false,
  gL 71 3 70 3 69 false,
 oG 72 (.binOp .geq 3 (oT 71) (kI 0) 3) 4 69 false,
  gM 73 72 4 69 false,
  gF 74 97 1 4 0 73 true,
  gL 75 3 74 3 73 true,
 oG 76 (.binOp .leq 3 (oT 75) (kI 100) 3) 4 73 true,
 oG 77 (.pick (oT 73) (oT 76) kF) 4 69 false,
  gM 78 77 4 69 false,
  gF 79 97 1 5 0 78 true,
  gL 80 3 79 3 78 true,
 oG 81 (.binOp .leq 3 (oT 80) (kI 100) 3) 4 78 true,
 oG 82 (.pick (oT 78) (oT 81) kF) 4 69 false,
  gM 83 82 4 69 false,
  gF 84 97 1 5 0 83 true,
  gL 85 3 84 3 83 true,
 oG 86 (.binOp .eql 3 (oT 85) (kI (-1)) 3) 4 83 true,
  gM 87 86 4 83 true,
  gF 88 97 1 5 0 87 false,
  gL 89 3 88 3 87 false,
  gF 90 97 1 4 0 87 false,
  gL 91 3 90 3 87 false,
 oG 92 (.binOp .geq 3 (oT 89) (oT 91) 3) 4 87 false,
 oG 93 (.pick (oT 87) kT (oT 92)) 4 83 true,
 oG 94 (.pick (oT 83) (oT 93) kF) 4 69 false,
  gM 95 94 4 69 false,
  gF 96 97 1 6 0 95 true,
  gL 97 3 96 3 95 true,
 oG 98 (.binOp .geq 3 (oT 97) (kI 0) 3) 4 95 true,
 oG 99 (.pick (oT 95) (oT 98) kF) 4 69 false,
  gM 100 99 4 69 false,
  gF 101 97 1 6 0 100 true,
  gL 102 3 101 3 100 true,
 oG 103 (.binOp .leq 3 (oT 102) (kI 2) 3) 4 100 true,
 oG 104 (.pick (oT 100) (oT 103) kF) 4 69 false,
 oO 105 69 104 4]
def f168r6p1:LO:=[oA 2 105 4]
def f168r6:LO:=f168r6p0 ++ f168r6p1
def f168:AFun:=⟨106,[(.tmp 2)],(.seq (.ops false f168r0) (.seq (.seq (.ops false f168r1) (.cond (.tmp 11) (.seq (.ops false f168r2) .ret) .skip)) (.seq (.ops false f168r3) (.seq (.seq (.ops false f168r4) (.cond (.tmp 65) (.seq (.ops false f168r5) .ret) .skip)) (.seq (.ops false f168r6) .ret)))))⟩
noncomputable def f170:AFun:=⟨82,[],cvF Tryz.f170 (.seq hO (.block 0 (.loop [0,2,3,4,10] (.block 1 (.seq hO (.seq (.seq hO (hC (.exit 0) .skip)) (.seq (.seq hQ (hC hO .skip)) (.seq (.seq hQ (hC .ret .skip)) (.seq hQ hO)))))))))⟩
noncomputable def f171:AFun:=⟨7,[(.tmp 2)],cvF Tryz.f171 (.seq hO (.seq hO .ret))⟩
noncomputable def f172:AFun:=⟨33,[(.tmp 2)],cvF Tryz.f172 (.seq hO (.seq hQ (.seq hQ (.seq hQ (.seq hO .ret)))))⟩
noncomputable def f173:AFun:=⟨18,[(.tmp 8)],cvF Tryz.f173 (.seq hO (.seq hO .ret))⟩
noncomputable def f174:AFun:=⟨41,[(.tmp 12)],cvF Tryz.f174 (.seq hO (.seq hO (.seq hO (.seq hO (.seq hO .ret)))))⟩
noncomputable def f175:AFun:=⟨66,[(.cell 2 37)],cvF Tryz.f175 (.seq hO (.seq hQ (.seq hO (.seq (.seq hO (.block 0 (.seq hO (hC (.seq hO .ret) (.seq hO (hC (.seq hO .ret) (.seq hO (hC (.seq hO .ret) (.seq hO (hC (.seq hO .ret) (.seq hO (hC (.seq hO .ret) (.seq hO (hC (.seq hO .ret) (.seq hO (hC (.seq (.opsL [53] 5 false []) .ret) (.seq hO (hC hO .skip)))))))))))))))))) (.seq hO .ret)))))⟩
noncomputable def f177:AFun:=⟨32,[(.tmp 10),(.tmp 11)],cvF Tryz.f177 (.seq hO (.seq (.seq hQ (hC (.seq hO (.seq hO .ret)) .skip)) (.seq hO .ret)))⟩
noncomputable def f178:AFun:=⟨12,[(.cell 4 37)],cvF Tryz.f178 (.seq hO (.seq (.seq hO (hC hO .skip)) (.seq hO .ret)))⟩
noncomputable def f179:AFun:=⟨13,[(.cell 2 37)],cvF Tryz.f179 (.seq hO (.seq hO (.seq (.seq hO (hC hO .skip)) (.seq hO .ret))))⟩
noncomputable def f180:AFun:=⟨14,[(.cell 6 37)],cvF Tryz.f180 (.seq hO (.seq (.seq hO (hC (.seq hO .ret) .skip)) (.seq hO .ret)))⟩
noncomputable def f181:AFun:=⟨11,[(.tmp 4)],cvF Tryz.f181 (.seq hO (.seq hO .ret))⟩
noncomputable def f182:AFun:=⟨65,[(.cell 4 37)],cvF Tryz.f182 (.seq hO (.seq (.opsL [14] 11 true []) (.seq (.seq hO (hC (.seq hO hO) .skip)) (.seq hQ (.seq hO (.seq hO (.seq (.seq hO (hC hO .skip)) (.seq hO (.seq (.seq hO (hC (.seq hO .ret) .skip)) (.seq hO .ret))))))))))⟩
noncomputable def f187:AFun:=⟨28,[(.cell 2 25)],cvF Tryz.f187 (.seq hO (.seq (.seq hO (hC (.seq hO .ret) .skip)) (.seq hO (.seq (.seq hO (.block 0 (.loop [1,2,3,4] (.seq (.seq hO (hC .skip (.exit 0))) (.seq (.block 1 (.seq (.seq hO (hC hO .skip)) (.seq hO (hC hO .skip)))) hO))))) (.seq hO .ret)))))⟩
noncomputable def f188:AFun:=⟨9,[(.tmp 4)],cvF Tryz.f188 (.seq hO (.seq hO .ret))⟩
noncomputable def f189:AFun:=⟨16,[(.tmp 2)],cvF Tryz.f189 (.seq hO (.seq (.seq hO (.block 0 (.seq hO (hC (.seq hO .ret) (.seq hO (hC (.seq hO .ret) (.seq hO (hC (.seq hO .ret) (.seq hO (hC (.seq hO .ret) (.seq hO (hC (.seq hO .ret) (.seq hO (hC (.seq hO .ret) .skip)))))))))))))) (.seq hO .ret)))⟩
noncomputable def f194:AFun:=⟨8,[(.tmp 4)],cvF Tryz.f194 (.seq hO (.seq hO .ret))⟩
noncomputable def f196:AFun:=⟨143,[(.tmp 4)],cvF Tryz.f196 (.seq hO (.seq hO (.seq (.block 0 (.seq hO (hC (.seq hO .ret) (.seq hO (hC (.seq hO .ret) (.seq hO (hC (.seq hO .ret) (.seq hO (hC (.seq hO .ret) .skip))))))))) (.seq hO (.seq hO (.seq hO (.seq hO (.seq hO (.seq (.block 1 (.loop [0,1,5,6,7,8,9,10] (.seq (.seq hO (hC .skip (.exit 1))) (.block 2 (.seq (.seq hO (hC (.seq hO (.seq (.seq hO (hC (.seq hO .ret) .skip)) hO)) .skip)) (.seq (.seq hO (hC (.seq hO .ret) .skip)) (.seq hO (.seq hO (.seq hO (hC (.seq hO (.seq (.seq hO (hC (.seq hO .ret) .skip)) (.seq hO .ret))) (.seq hO (hC (.seq hO (.seq (.seq hO (hC (.seq hO .ret) .skip)) (.seq hO .ret))) .skip)))))))))))) (.seq hO .ret))))))))))⟩
noncomputable def f198:AFun:=⟨6,[(.tmp 2)],cvF Tryz.f198 (.seq hO (.seq hO .ret))⟩
noncomputable def f199:AFun:=⟨81,[(.tmp 4)],cvF Tryz.f199 (.seq hO (.seq hO (.seq hO (.seq hO (.seq (.seq hO (.block 0 (.loop [0,1,5,6,7,8,9] (.seq (.seq hO (hC .skip (.exit 0))) (.seq (.block 1 hO) hO))))) (.seq (.seq hO (hC (.seq hO .ret) .skip)) (.seq (.seq hO (.block 2 (.loop [0,1,5,6,7,8,10] (.seq (.seq hO (hC .skip (.exit 2))) (.block 3 (.seq hO (.seq hO (.seq hO (.seq hO (.seq hO (hC (.seq hO .ret) .skip))))))))))) (.seq hO .ret))))))))⟩
noncomputable def f200:AFun:=⟨39,[(.tmp 2),(.tmp 3)],cvF Tryz.f200 (.seq hO (.seq hO (.seq (.seq hO (.block 0 (.loop [0,4,5] (.seq (.seq hO (hC .skip (.exit 0))) (.seq (.block 1 hO) hO))))) (.seq hO (.seq (.seq hO (.block 2 (.loop [4,6,7,8] (.seq (.seq hO (hC .skip (.exit 2))) (.seq (.block 3 (.seq (.seq hO (hC hO .skip)) hO)) hO))))) (.seq hO .ret))))))⟩
def f69r2:LO:=[oM 6 0 27,
 oQ 7 (.build 165 #[(0,(oT 6))]) 165,
 oQ 8 (.box 165 (oT 7)) 163,
 oA 4 8 163]
def f69r3:LO:=[oM 9 4 163,
 oQ 10 (cF 108 #[(oT 9)] #[163]) 37,
 oS 37 2 10 0]
def f69r4:LO:=[oM 11 4 163,
 oQ 12 (.nilCheck (oT 11)) 0,
 oF 13 165 12 1 0,
 oL 14 3 13 3,
 oM 15 0 27,
 oQ 16 (cB .len #[(oT 15)] #[27]) 3,
 oB .lss 17 3 14 16 4]
def f69r5:LO:=[oQ 18 (.build 161 #[]) 161,
 oQ 19 (.makeInterface 161 (oT 18)) 20,
 oN (.panic (oT 19)) 0]
def f69r6:LO:=[oL 20 37 2 37,
 oS 37 2 20 0,
 oN (.store 4 (oT 3) kT) 0]
def f107r1:LO:=[oM 9 3 4]
def f107r2:List AOp:=[
  ⟨some 10,(.build 37 #[]),37,none⟩,
  ⟨none,(.store 37 (.tmp 0) (.tmp 10)),0,none⟩,
  ⟨none,(.store 4 (.tmp 1) (.const (.bool false))),0,none⟩]
def d69:DFun:=⟨21,[(.cell 2 37),(.cell 3 4)],[⟨some 2,(.alloc 37),0,none⟩,⟨some 3,(.alloc 4),0,none⟩],[⟨some 5,(.makeFunc (.func 107) #[] #[(.tmp 2),(.tmp 3)]),1,none⟩],5,(.seq (.ops false f69r2) (.seq (.ops false f69r3) (.seq (.seq (.ops false f69r4) (.cond (.tmp 17) (.ops false f69r5) .skip)) (.seq (.ops false f69r6) .ret)))),107,11,5,[⟨some 6,(.typeAssert (.tmp 5) 20 161 true),162,none⟩,⟨some 4,(.move (.tmp 6)),162,none⟩,⟨some 7,(.extract (.tmp 4) 0),161,none⟩,⟨some 8,(.extract (.tmp 4) 1),4,none⟩,⟨some 2,(.alloc 161),0,none⟩,⟨none,(.store 161 (.tmp 2) (.tmp 7)),0,none⟩,⟨some 3,(.assign (.tmp 8)),4,none⟩],(.seq (.ops false f107r1) (.cond (.tmp 9) (.ops false f107r2) .skip))⟩
def f69:AFun:=⟨21,[(.cell 2 37),(.cell 3 4)],.goto 0⟩
noncomputable def F:FuncId -> Option AFun
  | 5=>some f5
  | 16=>some f16
  | 18=>some f18
  | 19=>some f19
  | 26=>some f26
  | 27=>some f27
  | 28=>some f28
  | 29=>some f29
  | 30=>some f30
  | 33=>some f33
  | 35=>some f35
  | 37=>some f37
  | 38=>some f38
  | 40=>some f40
  | 41=>some f41
  | 44=>some f44
  | 46=>some f46
  | 47=>some f47
  | 48=>some f48
  | 49=>some f49
  | 50=>some f50
  | 53=>some f53
  | 57=>some f57
  | 58=>some f58
  | 59=>some f59
  | 60=>some f60
  | 61=>some f61
  | 62=>some f62
  | 63=>some f63
  | 64=>some f64
  | 65=>some f65
  | 66=>some f66
  | 68=>some f68
  | 72=>some f72
  | 73=>some f73
  | 74=>some f74
  | 75=>some f75
  | 76=>some f76
  | 77=>some f77
  | 78=>some f78
  | 80=>some f80
  | 81=>some f81
  | 82=>some f82
  | 83=>some f83
  | 86=>some f86
  | 87=>some f87
  | 88=>some f88
  | 89=>some f89
  | 90=>some f90
  | 91=>some f91
  | 92=>some f92
  | 93=>some f93
  | 94=>some f94
  | 95=>some f95
  | 96=>some f96
  | 97=>some f97
  | 98=>some f98
  | 99=>some f99
  | 100=>some f100
  | 102=>some f102
  | 103=>some f103
  | 104=>some f104
  | 105=>some f105
  | 106=>some f106
  | 108=>some f108
  | 109=>some f109
  | 110=>some f110
  | 111=>some f111
  | 112=>some f112
  | 113=>some f113
  | 114=>some f114
  | 115=>some f115
  | 116=>some f116
  | 117=>some f117
  | 118=>some f118
  | 120=>some f120
  | 121=>some f121
  | 122=>some f122
  | 123=>some f123
  | 124=>some f124
  | 125=>some f125
  | 136=>some f136
  | 137=>some f137
  | 138=>some f138
  | 139=>some f139
  | 140=>some f140
  | 141=>some f141
  | 142=>some f142
  | 143=>some f143
  | 144=>some f144
  | 145=>some f145
  | 146=>some f146
  | 147=>some f147
  | 148=>some f148
  | 149=>some f149
  | 150=>some f150
  | 151=>some f151
  | 152=>some f152
  | 154=>some f154
  | 155=>some f155
  | 156=>some f156
  | 157=>some f157
  | 158=>some f158
  | 159=>some f159
  | 160=>some f160
  | 161=>some f161
  | 162=>some f162
  | 163=>some f163
  | 164=>some f164
  | 165=>some f165
  | 166=>some f166
  | 168=>some f168
  | 170=>some f170
  | 171=>some f171
  | 172=>some f172
  | 173=>some f173
  | 174=>some f174
  | 175=>some f175
  | 177=>some f177
  | 178=>some f178
  | 179=>some f179
  | 180=>some f180
  | 181=>some f181
  | 182=>some f182
  | 187=>some f187
  | 188=>some f188
  | 189=>some f189
  | 194=>some f194
  | 196=>some f196
  | 198=>some f198
  | 199=>some f199
  | 200=>some f200
  | 69=>some f69
  | _=>none
noncomputable def Df:FuncId -> Option DFun
  | 69=>some d69
  | _=>none
end Go.Proofs.YtaadjlpfdajggaaGreatDoor.C
