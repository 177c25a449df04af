import Derived.Test.YtaadjlpfdajggaaGreatDoorBvAm24
import Derived.Test.YtaadjlpfdajggaaGreatDoorProg
namespace Go.Proofs.YtaadjlpfdajggaaGreatDoor.C
open Go Go.AM
def f10r0:LO:=[oQ 3 (.box 37 (oT 0)) 0,
 oQ 4 (.box 37 (oT 1)) 0,
 oQ 6 (.assign kF) 4]
def f10r1:LO:=[oL 21 37 3 37,
 oQ 22 (cF 18 #[(oT 21),(kI 60)] #[37,3]) 37,
 oS 37 3 22 0]
def f10r2:LO:=[oL 23 37 4 37,
 oQ 24 (cF 18 #[(oT 23),(kI 60)] #[37,3]) 37,
 oS 37 4 24 0]
def f10r3:LO:=[oL 26 37 3 37,
 oM 27 2 5,
 oQ 28 (.convert 5 3 (oT 27)) 3,
 oQ 29 (cF 20 #[(oT 26),(oT 28)] #[37,3]) 41,
 oM 25 29 41,
 oX 30 25 0 3,
 oX 31 25 1 28,
 oA 7 30 3,
 oA 8 31 28]
def f10r4:LO:=[oL 33 37 3 37,
 oM 34 2 5,
 oQ 35 (.convert 5 3 (oT 34)) 3,
 oV .add 36 3 35 1 3,
 oQ 37 (cF 20 #[(oT 33),(oT 36)] #[37,3]) 41,
 oM 32 37 41,
 oX 38 32 0 3,
 oX 39 32 1 28,
 oA 9 38 3,
 oA 10 39 28]
def f10r5p0:LO:=[oM 40 8 28,
 oM 41 10 28,
 oB .neq 42 28 40 41 4,
 oM 43 42 4,
  gM 44 8 28 43 false,
 oG 45 (.binOp .neq 28 (oT 44) (kI 0) 28) 4 43 false,
 oO 46 43 45 4]
def f10r5p1:LO:=[oM 47 46 4,
  gL 48 37 3 37 47 false,
 oG 49 (cF 32 #[(oT 48)] #[37]) 3 47 false,
 oG 50 (.binOp .geq 3 (oT 49) (kI 39) 3) 4 47 false,
 oO 51 47 50 4]
def f10r5p2:LO:=[oM 52 51 4,
  gL 53 37 4 37 52 false,
 oG 54 (cF 32 #[(oT 53)] #[37]) 3 52 false,
 oG 55 (.binOp .geq 3 (oT 54) (kI 39) 3) 4 52 false,
 oO 56 52 55 4]
def f10r5p3:LO:=[oM 57 56 4,
  gL 58 37 3 37 57 false,
 oG 59 (cF 36 #[(oT 58)] #[37]) 3 57 false,
  gL 60 37 4 37 57 false,
 oG 61 (cF 36 #[(oT 60)] #[37]) 3 57 false,
 oG 62 (.binOp .add 3 (oT 59) (oT 61) 3) 3 57 false,
 oG 63 (.binOp .gtr 3 (oT 62) (kI 0) 3) 4 57 false,
 oO 64 57 63 4]
def f10r5:LO:=f10r5p0 ++ (f10r5p1 ++ (f10r5p2 ++ f10r5p3))
def f10r6p0:LO:=[oM 65 8 28,
 oM 66 10 28,
 oB .eql 67 28 65 66 4,
 oM 68 67 4,
  gM 69 8 28 68 true,
 oG 70 (.binOp .eql 28 (oT 69) (kI 0) 28) 4 68 true,
  gM 71 70 4 68 true,
  gM 72 7 3 71 false,
 oG 73 (.binOp .eql 3 (oT 72) (kI 0) 3) 4 71 false,
 oG 74 (.pick (oT 71) kT (oT 73)) 4 68 true,
 oP 75 68 74 4]
def f10r6p1:LO:=[oM 76 75 4,
 oG 77 (cF 25 #[] #[]) 4 76 true,
 oP 78 76 77 4]
def f10r6p2:LO:=[oA 6 78 4]
def f10r6:LO:=f10r6p0 ++ (f10r6p1 ++ f10r6p2)
def f10r7:LO:=[oL 80 37 3 37,
 oQ 81 (.build 72 #[(0,(kI 17))]) 72,
 oQ 82 (cF 33 #[(oT 80),(oT 81)] #[37,72]) 37,
 oM 83 2 5,
 oQ 84 (.convert 5 3 (oT 83)) 3,
 oQ 85 (cF 20 #[(oT 82),(oT 84)] #[37,3]) 41,
 oM 79 85 41,
 oX 86 79 0 3,
 oX 87 79 1 28,
 oA 11 86 3,
 oA 12 87 28]
def f10r8:LO:=[oL 89 37 3 37,
 oM 90 2 5,
 oQ 91 (.convert 5 3 (oT 90)) 3,
 oQ 92 (cF 22 #[(oT 89),(oT 91)] #[37,3]) 45,
 oM 88 92 45,
 oX 93 88 0 44,
 oX 94 88 1 28,
 oA 13 93 44,
 oA 14 94 28]
def f10r9:LO:=[oL 96 37 3 37,
 oM 97 2 5,
 oQ 98 (.convert 5 3 (oT 97)) 3,
 oV .add 99 3 98 1 3,
 oQ 100 (cF 22 #[(oT 96),(oT 99)] #[37,3]) 45,
 oM 95 100 45,
 oX 101 95 0 44,
 oX 102 95 1 28,
 oA 15 101 44,
 oA 16 102 28]
def f10r10p0:LO:=[oM 103 12 28,
 oV .neq 104 28 103 0 4,
 oM 105 104 4,
  gM 106 14 28 105 false,
 oG 107 (.binOp .neq 28 (oT 106) (kI 0) 28) 4 105 false,
 oO 108 105 107 4]
def f10r10p1:LO:=[oM 109 108 4,
  gM 110 16 28 109 false,
 oG 111 (.binOp .neq 28 (oT 110) (kI 0) 28) 4 109 false,
 oO 112 109 111 4]
def f10r10p2:LO:=[oM 113 112 4,
  gM 114 9 3 113 false,
  gM 115 7 3 113 false,
 oG 116 (.binOp .lss 3 (oT 114) (oT 115) 3) 4 113 false,
 oO 117 113 116 4]
def f10r10p3:LO:=[oM 118 117 4,
  gM 119 11 3 118 false,
  gM 120 7 3 118 false,
 oG 121 (.binOp .lss 3 (oT 119) (oT 120) 3) 4 118 false,
 oO 122 118 121 4]
def f10r10p4:LO:=[oM 123 122 4,
  gM 124 15 44 123 false,
  gM 125 13 44 123 false,
 oG 126 (.binOp .lss 44 (oT 124) (oT 125) 44) 4 123 false,
 oO 127 123 126 4]
def f10r10:LO:=f10r10p0 ++ (f10r10p1 ++ (f10r10p2 ++ (f10r10p3 ++ f10r10p4)))
def f10r11:LO:=[oQ 6 (.assign kF) 4]
def f10r12:LO:=[oL 129 37 4 37,
 oM 130 2 5,
 oQ 131 (.convert 5 3 (oT 130)) 3,
 oQ 132 (cF 20 #[(oT 129),(oT 131)] #[37,3]) 41,
 oM 128 132 41,
 oX 133 128 0 3,
 oX 134 128 1 28,
 oA 17 133 3,
 oA 18 134 28]
def f10r13:LO:=[oL 136 37 3 37,
 oL 137 37 4 37,
 oQ 138 (cF 37 #[(oT 136),(oT 137),(kI 8)] #[37,37,3]) 37,
 oM 139 2 5,
 oQ 140 (.convert 5 3 (oT 139)) 3,
 oQ 141 (cF 20 #[(oT 138),(oT 140)] #[37,3]) 41,
 oM 135 141 41,
 oX 142 135 0 3,
 oX 143 135 1 28,
 oA 19 142 3,
 oA 20 143 28]
def f10r14p0:LO:=[oM 144 18 28,
 oV .neq 145 28 144 0 4,
 oM 146 145 4,
  gM 147 20 28 146 false,
 oG 148 (.binOp .eql 28 (oT 147) (kI 0) 28) 4 146 false,
  gM 149 148 4 146 false,
  gM 150 19 3 149 true,
  gM 151 7 3 149 true,
 oG 152 (.binOp .geq 3 (oT 150) (oT 151) 3) 4 149 true,
 oG 153 (.pick (oT 149) (oT 152) kF) 4 146 false,
  gM 154 153 4 146 false,
  gM 155 19 3 154 true,
  gM 156 17 3 154 true,
 oG 157 (.binOp .geq 3 (oT 155) (oT 156) 3) 4 154 true,
 oG 158 (.pick (oT 154) (oT 157) kF) 4 146 false,
 oO 159 146 158 4]
def f10r14p1:LO:=[oM 160 159 4,
 oG 161 (cF 25 #[] #[]) 4 160 true,
 oP 162 160 161 4]
def f10r14p2:LO:=[oA 6 162 4]
def f10r14:LO:=f10r14p0 ++ (f10r14p1 ++ f10r14p2)
def f10:AFun:=⟨163,[(.tmp 6)],(.seq (.ops false f10r0) (.seq (.ops false f10r1) (.seq (.ops false f10r2) (.seq (.ops false f10r3) (.seq (.ops false f10r4) (.seq (.seq (.ops true f10r5) (.cond (.tmp 64) (.seq (.ops false f10r6) .ret) .skip)) (.seq (.ops false f10r7) (.seq (.ops false f10r8) (.seq (.ops false f10r9) (.seq (.seq (.ops false f10r10) (.cond (.tmp 127) (.seq (.ops false f10r11) .ret) .skip)) (.seq (.ops false f10r12) (.seq (.ops false f10r13) (.seq (.ops false f10r14) .ret)))))))))))))⟩
noncomputable def f16:AFun:=⟨30,[(.tmp 2),(.tmp 3)],cvF Tryz.f16 (.seq hO (.seq (.seq hO (hC (.seq hO .ret) .skip)) (.seq hO (.seq (.block 0 (.loop [0,4] (.seq (.seq hO (hC .skip (.exit 0))) (.block 1 (.seq hO (.seq (.seq hO (hC (.seq hO .ret) .skip)) hO)))))) (.seq hO .ret)))))⟩
def f18r0:LO:=[oQ 2 (.box 37 (oT 0)) 0,
 oQ 4 (.alloc 37) 0]
def f18r1:LO:=[oF 5 37 2 0 0,
 oL 6 35 5 35,
 oF 7 37 2 0 0,
 oL 8 35 7 35,
 oQ 9 (cB .len #[(oT 8)] #[35]) 3,
 oM 10 1 3,
 oQ 11 (cB .min #[(oT 9),(oT 10)] #[3,3]) 3,
 oQ 12 (.slice 35 (oT 6) none (some (oT 11)) none) 35,
 oQ 13 (.build 37 #[(0,(oT 12))]) 37,
 oS 37 4 13 0]
def f18:AFun:=⟨14,[(.cell 4 37)],(.seq (.ops false f18r0) (.seq (.ops false f18r1) .ret))⟩
def f20r0:LO:=[oQ 2 (.box 37 (oT 0)) 0,
 oZ 4 0 3,
 oZ 5 0 28]
def f20r1:LO:=[oL 7 37 2 37,
 oQ 8 (cF 40 #[(oT 7)] #[37]) 28,
 oA 6 8 28]
def f20r2:LO:=[oM 9 6 28,
 oV .neq 10 28 9 0 4]
def f20r3:LO:=[oM 11 6 28,
 oZ 4 0 3,
 oA 5 11 28]
def f20r4:LO:=[oM 12 1 3,
 oV .lss 13 3 12 0 4,
 oM 14 13 4,
  gM 15 1 3 14 false,
 oG 16 (.binOp .gtr 3 (oT 15) (kI 10000) 3) 4 14 false,
 oO 17 14 16 4]
def f20r5:LO:=[oZ 4 0 3,
 oZ 5 1 28]
def f20r6:LO:=[oL 18 37 2 37,
 oM 19 1 3,
 oQ 20 (cF 52 #[(oT 18),(oT 19)] #[37,3]) 100,
 oF 21 37 2 0 0,
 oL 22 35 21 35,
 oQ 23 (cB .len #[(oT 22)] #[35]) 3,
 oV .sub 24 3 23 1 3,
 oI 25 100 20 24 0,
 oL 26 3 25 3,
 oQ 27 (cF 51 #[(oT 26)] #[3]) 3,
 oV .add 28 3 27 1 3,
 oA 4 28 3,
 oZ 5 0 28]
def f20:AFun:=⟨29,[(.tmp 4),(.tmp 5)],(.seq (.ops false f20r0) (.seq (.seq (.ops false f20r1) (.seq (.ops false f20r2) (.cond (.tmp 10) (.seq (.ops false f20r3) .ret) .skip))) (.seq (.seq (.ops false f20r4) (.cond (.tmp 17) (.seq (.ops false f20r5) .ret) .skip)) (.seq (.ops true f20r6) .ret))))⟩
def f22r0:LO:=[oQ 2 (.box 37 (oT 0)) 0,
 oQ 4 (.assign (.const (.float .f64 0))) 44,
 oZ 5 0 28]
def f22r1:LO:=[oL 10 37 2 37,
 oM 11 1 3,
 oQ 12 (cF 20 #[(oT 10),(oT 11)] #[37,3]) 41,
 oM 9 12 41,
 oX 13 9 0 3,
 oX 14 9 1 28,
 oA 6 13 3,
 oA 7 14 28]
def f22r2:LO:=[oM 15 7 28,
 oV .neq 16 28 15 0 4]
def f22r3:LO:=[oM 17 7 28,
 oQ 4 (.assign (.const (.float .f64 0))) 44,
 oA 5 17 28]
def f22r4:LO:=[oM 18 1 3,
 oQ 19 (.convert 3 44 (oT 18)) 44,
 oQ 20 (.binOp .add 44 (oT 19) (.const (.float .f64 4607182418800017408)) 44) 44,
 oA 8 20 44]
def f22r5:LO:=[oM 21 6 3,
 oQ 22 (cB .min #[(oT 21),(kI 2000)] #[3,3]) 3,
 oQ 23 (.move (kI 0)) 3]
def f22r6:LO:=[oB .lss 24 3 23 22 4]
def f22r7:LO:=[oM 25 8 44,
 oM 26 8 44,
 oB .add 27 44 25 26 44,
 oA 8 27 44]
def f22r8:LO:=[oV .add 28 3 23 1 3,
 oM 23 28 3]
def f22b0:AC:=(.seq (.ops false f22r6) (.seq (.cond (oT 24) .skip (.exit 0)) (.seq (.block 1 (.ops false f22r7)) (.ops false f22r8))))
def f22r9:LO:=[oM 29 6 3,
 oV .gtr 30 3 29 2000 4,
 oM 31 30 4,
  gM 32 8 44 31 true,
 oG 33 (cF 55 #[(oT 32),(kI 1)] #[44,3]) 4 31 true,
 oG 34 (.unOp .not 4 (oT 33)) 4 31 true,
 oP 35 31 34 4]
def f22r10:LO:=[oQ 36 (cF 56 #[(kI 1)] #[3]) 44,
 oA 4 36 44,
 oZ 5 0 28]
def f22r11:LO:=[oM 37 8 44,
 oA 4 37 44,
 oZ 5 0 28]
def f22:AFun:=⟨38,[(.tmp 4),(.tmp 5)],(.seq (.ops false f22r0) (.seq (.ops false f22r1) (.seq (.seq (.ops false f22r2) (.cond (.tmp 16) (.seq (.ops false f22r3) .ret) .skip)) (.seq (.ops false f22r4) (.seq (.seq (.ops false f22r5) (.block 0 (.loop [6,8,22,23] f22b0))) (.seq (.seq (.ops false f22r9) (.cond (.tmp 35) (.seq (.ops false f22r10) .ret) .skip)) (.seq (.ops false f22r11) .ret)))))))⟩
noncomputable def f24:AFun:=⟨18,[(.cell 4 49),(.tmp 5)],cvF Tryz.f24 (.seq hO (.seq hO (.seq hO .ret)))⟩
noncomputable def f25:AFun:=⟨134,[(.tmp 0)],cvF Tryz.f25 (.seq hO (.seq hO (.seq hO (.seq hO (.seq hO (.seq hO (.seq hO (.seq hO (.seq hO (.seq hO (.seq hO (.seq hO (.seq hO (.seq hO .ret))))))))))))))⟩
def f32r0:LO:=[oQ 1 (.box 37 (oT 0)) 0,
 oZ 2 0 3]
def f32r1:LO:=[oF 5 37 1 0 0,
 oL 6 35 5 35,
 oQ 7 (cB .len #[(oT 6)] #[35]) 3,
 oV .gtr 8 3 7 500 4]
def f32r2:LO:=[oZ 2 0 3]
def f32r3:LO:=[oL 10 37 1 37,
 oQ 11 (cF 62 #[(oT 10)] #[37]) 115,
 oM 9 11 115,
 oX 12 9 0 100,
 oX 13 9 1 4,
 oA 3 12 100,
 oA 4 13 4]
def f32r4:LO:=[oM 14 4 4,
 oQ 15 (.unOp .not 4 (oT 14)) 4]
def f32r5:LO:=[oZ 2 0 3]
def f32r6:LO:=[oL 16 37 1 37,
 oQ 17 (cF 63 #[(oT 16)] #[37]) 100,
 oF 18 37 1 0 0,
 oL 19 35 18 35,
 oQ 20 (cB .len #[(oT 19)] #[35]) 3,
 oV .sub 21 3 20 1 3,
 oI 22 100 17 21 0,
 oL 23 3 22 3,
 oA 2 23 3]
def f32:AFun:=⟨24,[(.tmp 2)],(.seq (.ops false f32r0) (.seq (.seq (.ops false f32r1) (.cond (.tmp 8) (.seq (.ops false f32r2) .ret) .skip)) (.seq (.seq (.ops false f32r3) (.seq (.ops false f32r4) (.cond (.tmp 15) (.seq (.ops false f32r5) .ret) .skip))) (.seq (.ops true f32r6) .ret))))⟩
def f33r0:LO:=[oQ 2 (.box 37 (oT 0)) 0,
 oQ 3 (.box 72 (oT 1)) 0,
 oQ 4 (.alloc 37) 0]
def f33r1:LO:=[oF 6 37 2 0 0,
 oL 7 35 6 35,
 oQ 8 (cB .len #[(oT 7)] #[35]) 3,
 oF 9 37 2 0 0,
 oL 10 35 9 35,
 oQ 11 (cB .len #[(oT 10)] #[35]) 3,
 oV .add 12 3 11 1 3,
 oQ 13 (.makeSlice 35 (oT 8) (oT 12)) 35,
 oA 5 13 35]
def f33r2:LO:=[oM 14 5 35,
 oF 15 37 2 0 0,
 oL 16 35 15 35,
 oQ 17 (cB .copy #[(oT 14),(oT 16)] #[35,35]) 3]
def f33r3:LO:=[oM 18 5 35,
 oQ 19 (cB .len #[(oT 18)] #[35]) 3,
 oV .sub 20 3 19 1 3,
 oF 21 72 3 1 0,
 oS 3 21 20 0,
 oF 22 72 3 2 0,
 oN (.store 3 (oT 22) (kI 0)) 0]
def f33r4:LO:=[oM 23 5 35,
 oL 24 72 3 72,
 oQ 25 (.buildSlice 35 1 #[(0,(oT 24))]) 35,
 oQ 26 (cB .append #[(oT 23),(oT 25)] #[35,35]) 35,
 oQ 27 (.build 37 #[(0,(oT 26))]) 37,
 oS 37 4 27 0]
def f33:AFun:=⟨28,[(.cell 4 37)],(.seq (.ops false f33r0) (.seq (.ops false f33r1) (.seq (.ops false f33r2) (.seq (.ops false f33r3) (.seq (.ops false f33r4) .ret)))))⟩
noncomputable def f35:AFun:=⟨15,[(.tmp 4)],cvF Tryz.f35 (.seq hO (.seq hO .ret))⟩
def f36r0:LO:=[oQ 1 (.box 37 (oT 0)) 0,
 oZ 2 0 3]
def f36r1:LO:=[oZ 3 0 3]
def f36r2:LO:=[oF 6 37 1 0 0,
 oL 7 35 6 35,
 oQ 8 (cB .len #[(oT 7)] #[35]) 3,
 oQ 9 (.move (kI 0)) 3]
def f36r3:LO:=[oB .lss 10 3 9 8 0]
def f36r4:LO:=[oI 11 35 7 9 0,
 oL 12 72 11 72,
 oQ 5 (.alloc 72) 0,
 oS 72 5 12 0]
def f36r5:LO:=[oF 13 72 5 0 0,
 oL 14 3 13 3,
 oE 15 3 14 11 4]
def f36r6:LO:=[oM 16 3 3,
 oV .add 17 3 16 1 3,
 oA 3 17 3]
def f36r7:LO:=[oV .add 18 3 9 1 3,
 oM 9 18 3]
def f36b0:AC:=(.seq (.ops false f36r3) (.seq (.cond (oT 10) .skip (.exit 0)) (.seq (.block 1 (.seq (.ops false f36r4) (.seq (.ops false f36r5) (.cond (oT 15) (.ops false f36r6) .skip)))) (.ops false f36r7))))
def f36r8:LO:=[oM 19 3 3,
 oA 2 19 3]
def f36:AFun:=⟨20,[(.tmp 2)],(.seq (.ops false f36r0) (.seq (.ops false f36r1) (.seq (.seq (.ops false f36r2) (.block 0 (.loop [3,7,8,9] f36b0))) (.seq (.ops false f36r8) .ret))))⟩
def f37r0:LO:=[oQ 3 (.box 37 (oT 0)) 0,
 oQ 4 (.box 37 (oT 1)) 0,
 oQ 6 (.alloc 37) 0]
def f37r1:LO:=[oF 11 37 3 0 0,
 oL 12 35 11 35,
 oQ 13 (cB .len #[(oT 12)] #[35]) 3,
 oA 7 13 3]
def f37r2:LO:=[oM 14 7 3,
 oF 15 37 4 0 0,
 oL 16 35 15 35,
 oQ 17 (cB .len #[(oT 16)] #[35]) 3,
 oB .add 18 3 14 17 3,
 oM 19 7 3,
 oF 20 37 4 0 0,
 oL 21 35 20 35,
 oQ 22 (cB .len #[(oT 21)] #[35]) 3,
 oB .add 23 3 19 22 3,
 oV .add 24 3 23 1 3,
 oQ 25 (.makeSlice 35 (oT 18) (oT 24)) 35,
 oA 8 25 35]
def f37r3:LO:=[oM 26 8 35,
 oF 27 37 3 0 0,
 oL 28 35 27 35,
 oQ 29 (cB .copy #[(oT 26),(oT 28)] #[35,35]) 3]
def f37r4:LO:=[oF 30 37 4 0 0,
 oL 31 35 30 35,
 oQ 32 (cB .len #[(oT 31)] #[35]) 3,
 oQ 33 (.move (kI 0)) 3]
def f37r5:LO:=[oB .lss 34 3 33 32 0]
def f37r6:LO:=[oM 35 33 3,
 oI 36 35 31 33 0,
 oL 37 72 36 72,
 oQ 10 (.alloc 72) 0,
 oA 9 35 3,
 oS 72 10 37 0]
def f37r7:LO:=[oF 38 72 10 0 0,
 oL 39 3 38 3,
 oQ 40 (cF 66 #[(oT 39)] #[3]) 3,
 oV .gtr 41 3 40 0 4]
def f37r8:LO:=[oF 42 72 10 1 0,
 oL 43 3 42 3,
 oM 44 7 3,
 oB .add 45 3 43 44 3,
 oF 46 72 10 1 0,
 oS 3 46 45 0]
def f37r9:LO:=[oF 47 72 10 0 0,
 oL 48 3 47 3,
 oQ 49 (cF 66 #[(oT 48)] #[3]) 3,
 oV .gtr 50 3 49 1 4]
def f37r10:LO:=[oF 51 72 10 2 0,
 oL 52 3 51 3,
 oM 53 7 3,
 oB .add 54 3 52 53 3,
 oF 55 72 10 2 0,
 oS 3 55 54 0]
def f37r11:LO:=[oM 56 8 35,
 oM 57 7 3,
 oM 58 9 3,
 oB .add 59 3 57 58 3,
 oL 60 72 10 72,
 oI 61 35 56 59 0,
 oS 72 61 60 0]
def f37r12:LO:=[oV .add 62 3 33 1 3,
 oM 33 62 3]
def f37b0:AC:=(.seq (.ops false f37r5) (.seq (.cond (oT 34) .skip (.exit 0)) (.seq (.block 1 (.seq (.ops false f37r6) (.seq (.seq (.ops false f37r7) (.cond (oT 41) (.ops false f37r8) .skip)) (.seq (.seq (.ops false f37r9) (.cond (oT 50) (.ops false f37r10) .skip)) (.ops false f37r11))))) (.ops false f37r12))))
def f37r13:LO:=[oM 63 8 35,
 oM 64 2 3,
 oM 65 7 3,
 oV .sub 66 3 65 1 3,
 oM 67 8 35,
 oQ 68 (cB .len #[(oT 67)] #[35]) 3,
 oV .sub 69 3 68 1 3,
 oQ 70 (.build 72 #[(0,(oT 64)),(1,(oT 66)),(2,(oT 69))]) 72,
 oQ 71 (.buildSlice 35 1 #[(0,(oT 70))]) 35,
 oQ 72 (cB .append #[(oT 63),(oT 71)] #[35,35]) 35,
 oQ 73 (.build 37 #[(0,(oT 72))]) 37,
 oS 37 6 73 0]
def f37:AFun:=⟨74,[(.cell 6 37)],(.seq (.ops false f37r0) (.seq (.ops false f37r1) (.seq (.ops false f37r2) (.seq (.ops false f37r3) (.seq (.seq (.ops false f37r4) (.block 0 (.loop [2,6,7,8,31,32,33] f37b0))) (.seq (.ops false f37r13) .ret))))))⟩
noncomputable def f38:AFun:=⟨22,[(.cell 4 25)],cvF Tryz.f38 (.seq hO (.seq (.seq hO (.block 0 (.loop [2,3,4,6] (.seq hO (.seq (hC .skip (.exit 0)) (.seq (.block 1 (.seq hO hQ)) hO)))))) (.seq hO .ret)))⟩
def f40r0:LO:=[oQ 1 (.box 37 (oT 0)) 0,
 oZ 2 0 28]
def f40r1:LO:=[oL 8 37 1 37,
 oQ 9 (cF 64 #[(oT 8)] #[37]) 28,
 oA 3 9 28]
def f40r2:LO:=[oM 10 3 28,
 oV .neq 11 28 10 0 4]
def f40r3:LO:=[oM 12 3 28,
 oA 2 12 28]
def f40r4:LO:=[oL 13 37 1 37,
 oQ 14 (cF 68 #[(oT 13)] #[37]) 4,
 oQ 15 (.unOp .not 4 (oT 14)) 4]
def f40r5:LO:=[oZ 2 6 28]
def f40r6:LO:=[oL 17 37 1 37,
 oQ 18 (cF 65 #[(oT 17)] #[37]) 118,
 oM 16 18 118,
 oX 19 16 0 100,
 oX 20 16 1 100,
 oA 4 19 100,
 oA 5 20 100]
def f40r7:LO:=[oF 21 37 1 0 0,
 oL 22 35 21 35,
 oQ 23 (cB .len #[(oT 22)] #[35]) 3,
 oQ 24 (.move (kI 0)) 3]
def f40r8:LO:=[oB .lss 25 3 24 23 0]
def f40r9:LO:=[oI 26 35 22 24 0,
 oL 27 72 26 72,
 oQ 7 (.alloc 72) 0,
 oS 72 7 27 0]
def f40r10:LO:=[oF 28 72 7 0 0,
 oL 29 3 28 3,
 oV .neq 30 3 29 15 4,
 oM 31 30 4,
  gF 32 72 7 0 0 31 true,
  gL 33 3 32 3 31 true,
 oG 34 (.binOp .neq 3 (oT 33) (kI 16) 3) 4 31 true,
 oP 35 31 34 4]
def f40r11:LO:=[oM 36 4 100,
 oF 37 72 7 1 0,
 oL 38 3 37 3,
 oI 39 100 36 38 0,
 oL 40 3 39 3,
 oM 41 5 100,
 oF 42 72 7 1 0,
 oL 43 3 42 3,
 oI 44 100 41 43 0,
 oL 45 3 44 3,
 oB .neq 46 3 40 45 4,
 oM 47 46 4,
  gM 48 4 100 47 false,
  gF 49 72 7 1 0 47 false,
  gL 50 3 49 3 47 false,
 oG 51 (.indexAddr 100 (oT 48) (oT 50)) 0 47 false,
  gL 52 3 51 3 47 false,
 oG 53 (.binOp .gtr 3 (oT 52) (kI 255) 3) 4 47 false,
 oO 54 47 53 4]
def f40r12:LO:=[oZ 2 7 28]
def f40r13:LO:=[oV .add 55 3 24 1 3,
 oM 24 55 3]
def f40b0:AC:=(.seq (.ops false f40r8) (.seq (.cond (oT 25) .skip (.exit 0)) (.seq (.block 1 (.seq (.ops false f40r9) (.seq (.seq (.ops false f40r10) (.cond (oT 35) (.exit 1) .skip)) (.seq (.ops true f40r11) (.cond (oT 54) (.seq (.ops false f40r12) .ret) .skip))))) (.ops false f40r13))))
def f40r14:LO:=[oZ 2 0 28]
def f40:AFun:=⟨56,[(.tmp 2)],(.seq (.ops false f40r0) (.seq (.seq (.ops false f40r1) (.seq (.ops false f40r2) (.cond (.tmp 11) (.seq (.ops false f40r3) .ret) .skip))) (.seq (.seq (.ops false f40r4) (.cond (.tmp 15) (.seq (.ops false f40r5) .ret) .skip)) (.seq (.ops false f40r6) (.seq (.seq (.ops false f40r7) (.block 0 (.loop [4,5,22,23,24] f40b0))) (.seq (.ops false f40r14) .ret))))))⟩
noncomputable def f41:AFun:=⟨33,[(.cell 2 37),(.tmp 3)],cvF Tryz.f41 (.seq hO (.seq hO (.seq (.seq hO (hC (.seq hO .ret) .skip)) (.seq hO (.seq (.seq hO (hC (.seq hO .ret) .skip)) (.seq (.seq hO (.seq hO (hC (.seq hO .ret) .skip))) (.seq hO .ret)))))))⟩
noncomputable def f44:AFun:=⟨17,[(.tmp 2)],cvF Tryz.f44 (.seq hO (.seq hO (.seq (.seq hO (.block 0 (.loop [3,7,8] (.seq hO (.seq (hC .skip (.exit 0)) (.seq (.block 1 (.seq hO hO)) hO)))))) (.seq hO .ret))))⟩
noncomputable def f46:AFun:=⟨66,[(.cell 2 33),(.tmp 3),(.tmp 4)],cvF Tryz.f46 (.seq hO (.seq (.seq hO (.seq hO (hC (.seq hO .ret) .skip))) (.seq (.seq hO (.block 0 (.seq (.block 6 (.block 5 (.seq (.block 4 (.seq (.block 3 (.seq (.block 2 (.seq (.block 1 (.seq (.seq (.seq hO (hC (.exit 1) .skip)) (.seq (.seq (.seq hO (hC .skip (.seq hO (hC .skip (.seq hO (hC .skip hO)))))) (hC (.exit 2) .skip)) (.seq (.seq hO (hC (.exit 3) .skip)) (.seq (.seq hO (hC (.exit 4) .skip)) (.seq (.seq hO (hC (.exit 5) .skip)) (.seq hO (hC (.exit 6) .skip))))))) (.exit 0))) (.seq (.seq hO .ret) (.exit 0)))) (.seq (.seq hO .ret) (.exit 0)))) (.seq (.seq hO (.seq hO .ret)) (.exit 0)))) (.seq (.seq hO .ret) (.exit 0))))) (.seq (.seq hO .ret) (.exit 0))))) (.seq hO .ret))))⟩
noncomputable def f47:AFun:=⟨6,[(.cell 2 37)],cvF Tryz.f47 (.seq hO (.seq hO .ret))⟩
noncomputable def f49:AFun:=⟨7,[(.cell 2 25)],cvF Tryz.f49 (.seq hO (.seq hO (.seq hO (.seq hO .ret))))⟩
def f51r0:LO:=[oZ 2 0 3]
def f51r1:LO:=[oM 3 0 3,
 oQ 4 (cB .min #[(oT 3),(kI 1099511627776)] #[3,3]) 3,
 oA 2 4 3]
def f51:AFun:=⟨5,[(.tmp 2)],(.seq (.ops false f51r0) (.seq (.ops false f51r1) .ret))⟩
def f52r0:LO:=[oQ 2 (.box 37 (oT 0)) 0,
 oQ 4 (.assign (.const (.slice none 0 0))) 100]
def f52r1:LO:=[oF 8 37 2 0 0,
 oL 9 35 8 35,
 oQ 10 (cB .len #[(oT 9)] #[35]) 3,
 oQ 11 (.makeSlice 100 (oT 10) (oT 10)) 100,
 oA 5 11 100]
def f52r2:LO:=[oF 12 37 2 0 0,
 oL 13 35 12 35,
 oQ 14 (cB .len #[(oT 13)] #[35]) 3,
 oQ 15 (.move (kI 0)) 3]
def f52r3:LO:=[oB .lss 16 3 15 14 0]
def f52r4:LO:=[oM 17 15 3,
 oI 18 35 13 15 0,
 oL 19 72 18 72,
 oQ 7 (.alloc 72) 0,
 oA 6 17 3,
 oS 72 7 19 0]
def f52r5:LO:=[oF 20 72 7 0 0,
 oL 21 3 20 3]
def f52r7:LO:=[oE 26 3 21 8 4,
 oA 25 26 4]
def f52r8:LO:=[oM 27 5 100,
 oM 28 6 3,
 oM 29 5 100,
 oF 30 72 7 1 0,
 oL 31 3 30 3,
 oI 32 100 29 31 0,
 oL 33 3 32 3,
 oQ 34 (.binOp .add 3 (kI 1) (oT 33) 3) 3,
 oM 35 5 100,
 oF 36 72 7 2 0,
 oL 37 3 36 3,
 oI 38 100 35 37 0,
 oL 39 3 38 3,
 oB .add 40 3 34 39 3,
 oQ 41 (cF 51 #[(oT 40)] #[3]) 3,
 oI 42 100 27 28 0,
 oS 3 42 41 0]
def f52r9:LO:=[oE 44 3 21 9 4,
 oA 43 44 4]
def f52r10:LO:=[oM 45 5 100,
 oM 46 6 3,
 oM 47 5 100,
 oF 48 72 7 1 0,
 oL 49 3 48 3,
 oI 50 100 47 49 0,
 oL 51 3 50 3,
 oM 52 5 100,
 oF 53 72 7 2 0,
 oL 54 3 53 3,
 oI 55 100 52 54 0,
 oL 56 3 55 3,
 oQ 57 (cB .max #[(oT 51),(oT 56)] #[3,3]) 3,
 oQ 58 (.binOp .add 3 (kI 1) (oT 57) 3) 3,
 oQ 59 (cF 51 #[(oT 58)] #[3]) 3,
 oI 60 100 45 46 0,
 oS 3 60 59 0]
def f52r11:LO:=[oE 62 3 21 11 4,
 oA 61 62 4]
def f52r12:LO:=[oM 63 5 100,
 oM 64 6 3,
 oM 65 5 100,
 oF 66 72 7 1 0,
 oL 67 3 66 3,
 oI 68 100 65 67 0,
 oL 69 3 68 3,
 oQ 70 (.binOp .add 3 (kI 2) (oT 69) 3) 3,
 oQ 71 (cF 51 #[(oT 70)] #[3]) 3,
 oI 72 100 63 64 0,
 oS 3 72 71 0]
def f52r13:LO:=[oE 74 3 21 13 4,
 oA 73 74 4]
def f52r14:LO:=[oE 75 3 21 14 4,
 oA 73 75 4]
def f52r15:LO:=[oE 76 3 21 15 4,
 oA 73 76 4]
def f52r16:LO:=[oE 77 3 21 16 4,
 oA 73 77 4]
def f52r17:LO:=[oE 78 3 21 17 4,
 oA 73 78 4]
def f52r18:LO:=[oM 79 5 100,
 oM 80 6 3,
 oM 81 5 100,
 oF 82 72 7 1 0,
 oL 83 3 82 3,
 oI 84 100 81 83 0,
 oL 85 3 84 3,
 oQ 86 (.binOp .add 3 (kI 3) (oT 85) 3) 3,
 oQ 87 (cF 51 #[(oT 86)] #[3]) 3,
 oI 88 100 79 80 0,
 oS 3 88 87 0]
def f52r19:LO:=[oE 90 3 21 10 4,
 oA 89 90 4]
def f52r20:LO:=[oM 91 5 100,
 oM 92 6 3,
 oL 93 72 7 72,
 oM 94 1 3,
 oQ 95 (cF 79 #[(oT 93),(oT 94)] #[72,3]) 3,
 oM 96 5 100,
 oF 97 72 7 1 0,
 oL 98 3 97 3,
 oI 99 100 96 98 0,
 oL 100 3 99 3,
 oQ 101 (.binOp .add 3 (kI 1) (oT 100) 3) 3,
 oB .mul 102 3 95 101 3,
 oQ 103 (.binOp .add 3 (kI 4) (oT 102) 3) 3,
 oQ 104 (cF 51 #[(oT 103)] #[3]) 3,
 oI 105 100 91 92 0,
 oS 3 105 104 0]
def f52r6:LO:=[oM 22 5 100,
 oM 23 6 3,
 oI 24 100 22 23 0,
 oN (.store 3 (oT 24) (kI 1)) 0]
def f52r21:LO:=[oV .add 106 3 15 1 3,
 oM 15 106 3]
def f52b0:AC:=(.seq (.ops false f52r3) (.seq (.cond (oT 16) .skip (.exit 0)) (.seq (.block 1 (.seq (.ops false f52r4) (.seq (.ops false f52r5) (.block 2 (.seq (.ops false f52r7) (.cond (oT 25) (.ops true f52r8) (.seq (.ops false f52r9) (.cond (oT 43) (.ops true f52r10) (.seq (.ops false f52r11) (.cond (oT 61) (.ops false f52r12) (.seq (.seq (.ops false f52r13) (.cond (oT 73) .skip (.seq (.ops false f52r14) (.cond (oT 73) .skip (.seq (.ops false f52r15) (.cond (oT 73) .skip (.seq (.ops false f52r16) (.cond (oT 73) .skip (.ops false f52r17))))))))) (.cond (oT 73) (.ops false f52r18) (.seq (.ops false f52r19) (.cond (oT 89) (.ops true f52r20) (.ops false f52r6))))))))))))))) (.ops false f52r21))))
def f52r22:LO:=[oM 107 5 100,
 oA 4 107 100]
def f52:AFun:=⟨108,[(.tmp 4)],(.seq (.ops false f52r0) (.seq (.ops false f52r1) (.seq (.seq (.ops false f52r2) (.block 0 (.loop [1,5,13,14,15] f52b0))) (.seq (.ops false f52r22) .ret))))⟩
def f55r0:LO:=[oQ 4 (.assign kF) 4]
def f55r1:LO:=[oM 5 1 3,
 oE 6 3 5 0 4]
def f55r2:LO:=[oM 7 0 44,
 oQ 8 (cF 84 #[(oT 7)] #[44]) 44,
 oA 0 8 44]
def f55r3:LO:=[oM 9 1 3,
 oV .lss 10 3 9 0 4]
def f55r4:LO:=[oM 11 0 44,
 oQ 12 (.unOp .neg 44 (oT 11)) 44,
 oA 0 12 44]
def f55r5:LO:=[oM 13 0 44,
 oQ 14 (.binOp .gtr 44 (oT 13) (.const (.float .f64 9218868437227405311)) 44) 4,
 oA 4 14 4]
def f55:AFun:=⟨15,[(.tmp 4)],(.seq (.ops false f55r0) (.seq (.seq (.ops false f55r1) (.cond (.tmp 6) (.ops false f55r2) (.seq (.ops false f55r3) (.cond (.tmp 10) (.ops false f55r4) .skip)))) (.seq (.ops false f55r5) .ret)))⟩
def f56r0:LO:=[oQ 2 (.assign (.const (.float .f64 0))) 44]
def f56r1:LO:=[oQ 3 (.assign (kW 0)) 22]
def f56r2:LO:=[oM 4 0 3,
 oV .geq 5 3 4 0 4]
def f56r3:LO:=[oQ 3 (.assign (kW 9218868437227405312)) 22]
def f56r4:LO:=[oQ 3 (.assign (kW 18442240474082181120)) 22]
def f56r5:LO:=[oM 6 3 22,
 oQ 7 (cF 85 #[(oT 6)] #[22]) 44,
 oA 2 7 44]
def f56:AFun:=⟨8,[(.tmp 2)],(.seq (.ops false f56r0) (.seq (.ops false f56r1) (.seq (.seq (.ops false f56r2) (.cond (.tmp 5) (.ops false f56r3) (.ops false f56r4))) (.seq (.ops false f56r5) .ret))))⟩
noncomputable def f61:AFun:=⟨8,[(.tmp 4)],cvF Tryz.f61 (.seq hO (.seq hO .ret))⟩
def f62r0:LO:=[oQ 1 (.box 37 (oT 0)) 0,
 oQ 2 (.assign (.const (.slice none 0 0))) 100,
 oQ 3 (.assign kF) 4]
def f62r1:LO:=[oF 11 37 1 0 0,
 oL 12 35 11 35,
 oQ 13 (cB .len #[(oT 12)] #[35]) 3,
 oQ 14 (.makeSlice 100 (oT 13) (oT 13)) 100,
 oA 4 14 100]
def f62r2:LO:=[oF 15 37 1 0 0,
 oL 16 35 15 35,
 oQ 17 (cB .len #[(oT 16)] #[35]) 3,
 oQ 18 (.move (kI 0)) 3]
def f62r3:LO:=[oB .lss 19 3 18 17 0]
def f62r4:LO:=[oM 20 18 3,
 oI 21 35 16 18 0,
 oL 22 72 21 72,
 oQ 6 (.alloc 72) 0,
 oA 5 20 3,
 oS 72 6 22 0]
def f62r5:LO:=[oZ 7 0 3,
 oZ 8 0 3,
 oZ 9 1 3]
def f62r6:LO:=[oF 23 72 6 0 0,
 oL 24 3 23 3,
 oQ 25 (cF 66 #[(oT 24)] #[3]) 3]
def f62r7:LO:=[oE 27 3 25 1 4,
 oA 26 27 4]
def f62r8:LO:=[oM 28 5 3,
 oV .sub 29 3 28 1 3,
 oA 7 29 3]
def f62r9:LO:=[oM 30 7 3,
 oV .lss 31 3 30 0 4]
def f62r10:LO:=[oQ 2 (.assign (.const (.slice none 0 0))) 100,
 oQ 3 (.assign kF) 4]
def f62r11:LO:=[oM 32 9 3,
 oM 33 4 100,
 oM 34 7 3,
 oI 35 100 33 34 0,
 oL 36 3 35 3,
 oB .add 37 3 32 36 3,
 oA 9 37 3]
def f62r12:LO:=[oE 39 3 25 2 4,
 oA 38 39 4]
def f62r13:LO:=[oM 40 5 3,
 oV .sub 41 3 40 1 3,
 oA 8 41 3]
def f62r14:LO:=[oM 42 8 3,
 oV .lss 43 3 42 0 4]
def f62r15:LO:=[oQ 2 (.assign (.const (.slice none 0 0))) 100,
 oQ 3 (.assign kF) 4]
def f62r16:LO:=[oM 44 8 3,
 oM 45 4 100,
 oM 46 8 3,
 oI 47 100 45 46 0,
 oL 48 3 47 3,
 oB .sub 49 3 44 48 3,
 oA 7 49 3]
def f62r17:LO:=[oM 50 7 3,
 oV .lss 51 3 50 0 4]
def f62r18:LO:=[oQ 2 (.assign (.const (.slice none 0 0))) 100,
 oQ 3 (.assign kF) 4]
def f62r19:LO:=[oM 52 9 3,
 oM 53 4 100,
 oM 54 7 3,
 oI 55 100 53 54 0,
 oL 56 3 55 3,
 oM 57 4 100,
 oM 58 8 3,
 oI 59 100 57 58 0,
 oL 60 3 59 3,
 oB .add 61 3 56 60 3,
 oB .add 62 3 52 61 3,
 oA 9 62 3]
def f62r20p0:LO:=[oL 63 72 6 72,
 oQ 64 (cF 97 #[(oT 63)] #[72]) 4,
 oQ 65 (.unOp .not 4 (oT 64)) 4,
 oM 66 65 4,
  gF 67 72 6 1 0 66 false,
  gL 68 3 67 3 66 false,
  gM 69 7 3 66 false,
 oG 70 (.binOp .neq 3 (oT 68) (oT 69) 3) 4 66 false,
 oO 71 66 70 4]
def f62r20p1:LO:=[oM 72 71 4,
  gF 73 72 6 2 0 72 false,
  gL 74 3 73 3 72 false,
  gM 75 8 3 72 false,
 oG 76 (.binOp .neq 3 (oT 74) (oT 75) 3) 4 72 false,
 oO 77 72 76 4]
def f62r20:LO:=f62r20p0 ++ f62r20p1
def f62r21:LO:=[oQ 2 (.assign (.const (.slice none 0 0))) 100,
 oQ 3 (.assign kF) 4]
def f62r22:LO:=[oM 78 4 100,
 oM 79 5 3,
 oM 80 9 3,
 oI 81 100 78 79 0,
 oS 3 81 80 0]
def f62r23:LO:=[oV .add 82 3 18 1 3,
 oM 18 82 3]
def f62b0:AC:=(.seq (.ops false f62r3) (.seq (.cond (oT 19) .skip (.exit 0)) (.seq (.block 1 (.seq (.ops false f62r4) (.seq (.ops false f62r5) (.seq (.seq (.ops false f62r6) (.block 2 (.seq (.ops false f62r7) (.cond (oT 26) (.seq (.ops false f62r8) (.seq (.seq (.ops false f62r9) (.cond (oT 31) (.seq (.ops false f62r10) .ret) .skip)) (.ops false f62r11))) (.seq (.ops false f62r12) (.cond (oT 38) (.seq (.ops false f62r13) (.seq (.seq (.ops false f62r14) (.cond (oT 43) (.seq (.ops false f62r15) .ret) .skip)) (.seq (.ops false f62r16) (.seq (.seq (.ops false f62r17) (.cond (oT 51) (.seq (.ops false f62r18) .ret) .skip)) (.ops true f62r19))))) .skip)))))) (.seq (.seq (.ops false f62r20) (.cond (oT 77) (.seq (.ops false f62r21) .ret) .skip)) (.ops false f62r22)))))) (.ops false f62r23))))
def f62r24:LO:=[oF 83 37 1 0 0,
 oL 84 35 83 35,
 oQ 85 (cB .len #[(oT 84)] #[35]) 3,
 oV .sub 86 3 85 1 3,
 oA 10 86 3]
def f62r25p0:LO:=[oM 87 4 100,
 oM 88 10 3,
 oV .geq 89 3 88 0 4,
 oM 90 89 4,
  gM 91 4 100 90 true,
  gM 92 10 3 90 true,
 oG 93 (.indexAddr 100 (oT 91) (oT 92)) 0 90 true,
  gL 94 3 93 3 90 true,
  gF 95 37 1 0 0 90 true,
  gL 96 35 95 35 90 true,
 oG 97 (cB .len #[(oT 96)] #[35]) 3 90 true,
 oG 98 (.binOp .eql 3 (oT 94) (oT 97) 3) 4 90 true,
 oP 99 90 98 4]
def f62r25p1:LO:=[oA 2 87 100,
 oA 3 99 4]
def f62r25:LO:=f62r25p0 ++ f62r25p1
def f62:AFun:=⟨100,[(.tmp 2),(.tmp 3)],(.seq (.ops false f62r0) (.seq (.ops false f62r1) (.seq (.seq (.ops false f62r2) (.block 0 (.loop [1,4,16,17,18] f62b0))) (.seq (.ops false f62r24) (.seq (.ops true f62r25) .ret)))))⟩
def f63r0:LO:=[oQ 1 (.box 37 (oT 0)) 0,
 oQ 2 (.assign (.const (.slice none 0 0))) 100]
def f63r1:LO:=[oF 6 37 1 0 0,
 oL 7 35 6 35,
 oQ 8 (cB .len #[(oT 7)] #[35]) 3,
 oQ 9 (.makeSlice 100 (oT 8) (oT 8)) 100,
 oA 3 9 100]
def f63r2:LO:=[oF 10 37 1 0 0,
 oL 11 35 10 35,
 oQ 12 (cB .len #[(oT 11)] #[35]) 3,
 oQ 13 (.move (kI 0)) 3]
def f63r3:LO:=[oB .lss 14 3 13 12 0]
def f63r4:LO:=[oM 15 13 3,
 oI 16 35 11 13 0,
 oL 17 72 16 72,
 oQ 5 (.alloc 72) 0,
 oA 4 15 3,
 oS 72 5 17 0]
def f63r5:LO:=[oF 18 72 5 0 0,
 oL 19 3 18 3,
 oQ 20 (cF 66 #[(oT 19)] #[3]) 3]
def f63r7:LO:=[oE 37 3 20 0 4,
 oA 36 37 4]
def f63r8:LO:=[oM 38 3 100,
 oM 39 4 3,
 oI 40 100 38 39 0,
 oN (.store 3 (oT 40) (kI 1)) 0]
def f63r9:LO:=[oE 42 3 20 1 4,
 oA 41 42 4]
def f63r10:LO:=[oM 43 3 100,
 oM 44 4 3,
 oM 45 3 100,
 oF 46 72 5 1 0,
 oL 47 3 46 3,
 oI 48 100 45 47 0,
 oL 49 3 48 3,
 oQ 50 (.binOp .add 3 (kI 1) (oT 49) 3) 3,
 oI 51 100 43 44 0,
 oS 3 51 50 0]
def f63r6:LO:=[oM 21 3 100,
 oM 22 4 3,
 oM 23 3 100,
 oF 24 72 5 1 0,
 oL 25 3 24 3,
 oI 26 100 23 25 0,
 oL 27 3 26 3,
 oM 28 3 100,
 oF 29 72 5 2 0,
 oL 30 3 29 3,
 oI 31 100 28 30 0,
 oL 32 3 31 3,
 oQ 33 (cB .max #[(oT 27),(oT 32)] #[3,3]) 3,
 oQ 34 (.binOp .add 3 (kI 1) (oT 33) 3) 3,
 oI 35 100 21 22 0,
 oS 3 35 34 0]
def f63r11:LO:=[oV .add 52 3 13 1 3,
 oM 13 52 3]
def f63b0:AC:=(.seq (.ops false f63r3) (.seq (.cond (oT 14) .skip (.exit 0)) (.seq (.block 1 (.seq (.ops false f63r4) (.seq (.ops false f63r5) (.block 2 (.seq (.ops false f63r7) (.cond (oT 36) (.ops false f63r8) (.seq (.ops false f63r9) (.cond (oT 41) (.ops false f63r10) (.ops true f63r6))))))))) (.ops false f63r11))))
def f63r12:LO:=[oM 53 3 100,
 oA 2 53 100]
def f63:AFun:=⟨54,[(.tmp 2)],(.seq (.ops false f63r0) (.seq (.ops false f63r1) (.seq (.seq (.ops false f63r2) (.block 0 (.loop [3,11,12,13] f63b0))) (.seq (.ops false f63r12) .ret))))⟩
def f64r0:LO:=[oQ 1 (.box 37 (oT 0)) 0,
 oZ 2 0 28]
def f64r1:LO:=[oF 5 37 1 0 0,
 oL 6 35 5 35,
 oQ 7 (cB .len #[(oT 6)] #[35]) 3,
 oV .gtr 8 3 7 500 4]
def f64r2:LO:=[oZ 2 4 28]
def f64r3:LO:=[oL 10 37 1 37,
 oQ 11 (cF 62 #[(oT 10)] #[37]) 115,
 oM 9 11 115,
 oX 12 9 0 100,
 oX 13 9 1 4,
 oA 3 12 100,
 oA 4 13 4]
def f64r4:LO:=[oM 14 4 4,
 oQ 15 (.unOp .not 4 (oT 14)) 4]
def f64r5:LO:=[oZ 2 3 28]
def f64r6:LO:=[oL 16 37 1 37,
 oQ 17 (cF 63 #[(oT 16)] #[37]) 100,
 oQ 18 (cF 98 #[(oT 17)] #[100]) 3,
 oV .gtr 19 3 18 40 4]
def f64r7:LO:=[oZ 2 4 28]
def f64r8:LO:=[oZ 2 0 28]
def f64:AFun:=⟨20,[(.tmp 2)],(.seq (.ops false f64r0) (.seq (.seq (.ops false f64r1) (.cond (.tmp 8) (.seq (.ops false f64r2) .ret) .skip)) (.seq (.seq (.ops false f64r3) (.seq (.ops false f64r4) (.cond (.tmp 15) (.seq (.ops false f64r5) .ret) .skip))) (.seq (.seq (.ops false f64r6) (.cond (.tmp 19) (.seq (.ops false f64r7) .ret) .skip)) (.seq (.ops false f64r8) .ret)))))⟩
def f65r0:LO:=[oQ 1 (.box 37 (oT 0)) 0,
 oQ 2 (.assign (.const (.slice none 0 0))) 100,
 oQ 3 (.assign (.const (.slice none 0 0))) 100]
def f65r1:LO:=[oF 8 37 1 0 0,
 oL 9 35 8 35,
 oQ 10 (cB .len #[(oT 9)] #[35]) 3,
 oQ 11 (.makeSlice 100 (oT 10) (oT 10)) 100,
 oF 12 37 1 0 0,
 oL 13 35 12 35,
 oQ 14 (cB .len #[(oT 13)] #[35]) 3,
 oQ 15 (.makeSlice 100 (oT 14) (oT 14)) 100,
 oA 4 11 100,
 oA 5 15 100]
def f65r2:LO:=[oF 16 37 1 0 0,
 oL 17 35 16 35,
 oQ 18 (cB .len #[(oT 17)] #[35]) 3,
 oQ 19 (.move (kI 0)) 3]
def f65r3:LO:=[oB .lss 20 3 19 18 0]
def f65r4:LO:=[oM 21 19 3,
 oI 22 35 17 19 0,
 oL 23 72 22 72,
 oQ 7 (.alloc 72) 0,
 oA 6 21 3,
 oS 72 7 23 0]
def f65r5:LO:=[oF 24 72 7 0 0,
 oL 25 3 24 3]
def f65r6:LO:=[oE 27 3 25 1 4,
 oA 26 27 4]
def f65r7:LO:=[oM 28 4 100,
 oM 29 6 3,
 oM 30 5 100,
 oM 31 6 3,
 oI 32 100 28 29 0,
 oN (.store 3 (oT 32) (kI 1)) 0,
 oI 33 100 30 31 0,
 oN (.store 3 (oT 33) (kI 1)) 0]
def f65r8:LO:=[oE 35 3 25 12 4,
 oA 34 35 4]
def f65r9:LO:=[oM 36 5 100,
 oM 37 6 3,
 oI 38 100 36 37 0,
 oN (.store 3 (oT 38) (kI (-1))) 0]
def f65r10:LO:=[oE 40 3 25 8 4,
 oA 39 40 4]
def f65r11:LO:=[oM 41 4 100,
 oM 42 6 3,
 oM 43 5 100,
 oM 44 6 3,
 oM 45 4 100,
 oF 46 72 7 1 0,
 oL 47 3 46 3,
 oI 48 100 45 47 0,
 oL 49 3 48 3,
 oM 50 4 100,
 oF 51 72 7 2 0,
 oL 52 3 51 3,
 oI 53 100 50 52 0,
 oL 54 3 53 3,
 oQ 55 (cF 99 #[(oT 49),(oT 54)] #[3,3]) 3,
 oM 56 5 100,
 oF 57 72 7 1 0,
 oL 58 3 57 3,
 oI 59 100 56 58 0,
 oL 60 3 59 3,
 oM 61 5 100,
 oF 62 72 7 2 0,
 oL 63 3 62 3,
 oI 64 100 61 63 0,
 oL 65 3 64 3,
 oQ 66 (cF 99 #[(oT 60),(oT 65)] #[3,3]) 3,
 oI 67 100 41 42 0,
 oS 3 67 55 0,
 oI 68 100 43 44 0,
 oS 3 68 66 0]
def f65r12:LO:=[oE 70 3 25 9 4,
 oA 69 70 4]
def f65r13:LO:=[oM 71 4 100,
 oM 72 6 3,
 oM 73 5 100,
 oM 74 6 3,
 oM 75 4 100,
 oF 76 72 7 1 0,
 oL 77 3 76 3,
 oI 78 100 75 77 0,
 oL 79 3 78 3,
 oM 80 4 100,
 oF 81 72 7 2 0,
 oL 82 3 81 3,
 oI 83 100 80 82 0,
 oL 84 3 83 3,
 oQ 85 (cB .min #[(oT 79),(oT 84)] #[3,3]) 3,
 oM 86 5 100,
 oF 87 72 7 1 0,
 oL 88 3 87 3,
 oI 89 100 86 88 0,
 oL 90 3 89 3,
 oM 91 5 100,
 oF 92 72 7 2 0,
 oL 93 3 92 3,
 oI 94 100 91 93 0,
 oL 95 3 94 3,
 oQ 96 (cB .max #[(oT 90),(oT 95)] #[3,3]) 3,
 oI 97 100 71 72 0,
 oS 3 97 85 0,
 oI 98 100 73 74 0,
 oS 3 98 96 0]
def f65r14:LO:=[oM 99 5 100,
 oF 100 72 7 1 0,
 oL 101 3 100 3,
 oI 102 100 99 101 0,
 oL 103 3 102 3,
 oM 104 5 100,
 oF 105 72 7 2 0,
 oL 106 3 105 3,
 oI 107 100 104 106 0,
 oL 108 3 107 3,
 oQ 109 (cB .min #[(oT 103),(oT 108)] #[3,3]) 3,
 oE 110 3 109 (-1) 4]
def f65r15:LO:=[oM 111 5 100,
 oM 112 6 3,
 oI 113 100 111 112 0,
 oN (.store 3 (oT 113) (kI (-1))) 0]
def f65r16:LO:=[oE 115 3 25 10 4,
 oA 114 115 4]
def f65r17:LO:=[oM 116 4 100,
 oM 117 6 3,
 oM 118 5 100,
 oM 119 6 3,
 oM 120 4 100,
 oF 121 72 7 1 0,
 oL 122 3 121 3,
 oI 123 100 120 122 0,
 oL 124 3 123 3,
 oF 125 72 7 4 0,
 oL 126 3 125 3,
 oQ 127 (cF 100 #[(oT 124),(oT 126)] #[3,3]) 3,
 oM 128 5 100,
 oF 129 72 7 1 0,
 oL 130 3 129 3,
 oI 131 100 128 130 0,
 oL 132 3 131 3,
 oF 133 72 7 5 0,
 oL 134 3 133 3,
 oQ 135 (cF 100 #[(oT 132),(oT 134)] #[3,3]) 3,
 oI 136 100 116 117 0,
 oS 3 136 127 0,
 oI 137 100 118 119 0,
 oS 3 137 135 0]
def f65r18:LO:=[oE 139 3 25 11 4,
 oA 138 139 4]
def f65r19:LO:=[oE 140 3 25 17 4,
 oA 138 140 4]
def f65r20:LO:=[oM 141 4 100,
 oM 142 6 3,
 oM 143 5 100,
 oM 144 6 3,
 oM 145 4 100,
 oF 146 72 7 1 0,
 oL 147 3 146 3,
 oI 148 100 145 147 0,
 oL 149 3 148 3,
 oM 150 5 100,
 oF 151 72 7 1 0,
 oL 152 3 151 3,
 oI 153 100 150 152 0,
 oL 154 3 153 3,
 oI 155 100 141 142 0,
 oS 3 155 149 0,
 oI 156 100 143 144 0,
 oS 3 156 154 0]
def f65r21:LO:=[oV .add 157 3 19 1 3,
 oM 19 157 3]
def f65b0:AC:=(.seq (.ops false f65r3) (.seq (.cond (oT 20) .skip (.exit 0)) (.seq (.block 1 (.seq (.ops false f65r4) (.seq (.ops false f65r5) (.block 2 (.seq (.ops false f65r6) (.cond (oT 26) (.ops false f65r7) (.seq (.ops false f65r8) (.cond (oT 34) (.ops false f65r9) (.seq (.ops false f65r10) (.cond (oT 39) (.ops true f65r11) (.seq (.ops false f65r12) (.cond (oT 69) (.seq (.ops true f65r13) (.seq (.ops true f65r14) (.cond (oT 110) (.ops false f65r15) .skip))) (.seq (.ops false f65r16) (.cond (oT 114) (.ops true f65r17) (.seq (.seq (.ops false f65r18) (.cond (oT 138) .skip (.ops false f65r19))) (.cond (oT 138) (.ops true f65r20) .skip)))))))))))))))) (.ops false f65r21))))
def f65r22:LO:=[oM 158 4 100,
 oM 159 5 100,
 oA 2 158 100,
 oA 3 159 100]
def f65:AFun:=⟨160,[(.tmp 2),(.tmp 3)],(.seq (.ops false f65r0) (.seq (.ops true f65r1) (.seq (.seq (.ops false f65r2) (.block 0 (.loop [4,5,17,18,19] f65b0))) (.seq (.ops false f65r22) .ret))))⟩
def f66r0:LO:=[oZ 2 0 3]
def f66r1:LO:=[oM 3 0 3]
def f66r2:LO:=[oE 5 3 3 8 4,
 oA 4 5 4]
def f66r3:LO:=[oE 6 3 3 9 4,
 oA 4 6 4]
def f66r4:LO:=[oZ 2 2 3]
def f66r5:LO:=[oE 8 3 3 10 4,
 oA 7 8 4]
def f66r6:LO:=[oE 9 3 3 11 4,
 oA 7 9 4]
def f66r7:LO:=[oE 10 3 3 13 4,
 oA 7 10 4]
def f66r8:LO:=[oE 11 3 3 14 4,
 oA 7 11 4]
def f66r9:LO:=[oE 12 3 3 15 4,
 oA 7 12 4]
def f66r10:LO:=[oE 13 3 3 16 4,
 oA 7 13 4]
def f66r11:LO:=[oE 14 3 3 17 4,
 oA 7 14 4]
def f66r12:LO:=[oZ 2 1 3]
def f66r13:LO:=[oZ 2 0 3]
def f66:AFun:=⟨15,[(.tmp 2)],(.seq (.ops false f66r0) (.seq (.seq (.ops false f66r1) (.block 0 (.seq (.seq (.ops false f66r2) (.cond (.tmp 4) .skip (.ops false f66r3))) (.cond (.tmp 4) (.seq (.ops false f66r4) .ret) (.seq (.seq (.ops false f66r5) (.cond (.tmp 7) .skip (.seq (.ops false f66r6) (.cond (.tmp 7) .skip (.seq (.ops false f66r7) (.cond (.tmp 7) .skip (.seq (.ops false f66r8) (.cond (.tmp 7) .skip (.seq (.ops false f66r9) (.cond (.tmp 7) .skip (.seq (.ops false f66r10) (.cond (.tmp 7) .skip (.ops false f66r11))))))))))))) (.cond (.tmp 7) (.seq (.ops false f66r12) .ret) .skip)))))) (.seq (.ops false f66r13) .ret)))⟩
def f68r0:LO:=[oQ 1 (.box 37 (oT 0)) 0,
 oQ 2 (.assign kF) 4]
def f68r1:LO:=[oL 13 37 1 37,
 oQ 14 (cF 62 #[(oT 13)] #[37]) 115,
 oM 12 14 115,
 oX 15 12 0 100,
 oX 16 12 1 4,
 oQ 3 (.alloc 100) 0,
 oS 100 3 15 0,
 oA 4 16 4]
def f68r2:LO:=[oQ 5 (.alloc 100) 0]
def f68r3:LO:=[oF 17 37 1 0 0,
 oL 18 35 17 35,
 oQ 19 (cB .len #[(oT 18)] #[35]) 3,
 oQ 20 (.move (kI 0)) 3]
def f68r4:LO:=[oB .lss 21 3 20 19 0]
def f68r5:LO:=[oM 22 20 3,
 oI 23 35 18 20 0,
 oL 24 72 23 72,
 oQ 7 (.alloc 72) 0,
 oA 6 22 3,
 oS 72 7 24 0]
def f68r6:LO:=[oF 25 72 7 0 0,
 oL 26 3 25 3,
 oE 27 3 26 11 4]
def f68r7:LO:=[oL 28 100 5 100,
 oM 29 6 3,
 oQ 30 (.buildSlice 100 1 #[(0,(oT 29))]) 100,
 oQ 31 (cB .append #[(oT 28),(oT 30)] #[100,100]) 100,
 oS 100 5 31 0]
def f68r8:LO:=[oV .add 32 3 20 1 3,
 oM 20 32 3]
def f68b0:AC:=(.seq (.ops false f68r4) (.seq (.cond (oT 21) .skip (.exit 0)) (.seq (.block 1 (.seq (.ops false f68r5) (.seq (.ops false f68r6) (.cond (oT 27) (.ops false f68r7) .skip)))) (.ops false f68r8))))
def f68r9:LO:=[oQ 33 (.makeFunc (.func 102) #[] #[(oT 3)]) 99,
 oQ 8 (.alloc 99) 0,
 oS 99 8 33 0]
def f68r10:LO:=[oL 34 100 5 100,
 oQ 35 (.makeFunc (.func 104) #[] #[(oT 8),(oT 3)]) 151,
 oQ 36 (cF 103 #[(oT 34),(oT 35)] #[100,151]) 0]
def f68r11:LO:=[oL 37 100 5 100,
 oQ 38 (cB .len #[(oT 37)] #[100]) 3,
 oQ 39 (.move (kI 0)) 3]
def f68r12:LO:=[oB .lss 40 3 39 38 0]
def f68r13:LO:=[oM 41 39 3,
 oI 42 100 37 39 0,
 oL 43 3 42 3,
 oA 9 41 3,
 oA 10 43 3]
def f68r14:LO:=[oF 44 37 1 0 0,
 oL 45 35 44 35,
 oM 46 10 3,
 oI 47 35 45 46 0,
 oF 48 72 47 7 0,
 oL 49 3 48 3,
 oM 50 9 3,
 oV .add 51 3 50 1 3,
 oB .neq 52 3 49 51 4]
def f68r15:LO:=[oQ 2 (.assign kF) 4]
def f68r16:LO:=[oV .add 53 3 39 1 3,
 oM 39 53 3]
def f68b1:AC:=(.seq (.ops false f68r12) (.seq (.cond (oT 40) .skip (.exit 2)) (.seq (.block 3 (.seq (.ops false f68r13) (.seq (.ops false f68r14) (.cond (oT 52) (.seq (.ops false f68r15) .ret) .skip)))) (.ops false f68r16))))
def f68r17:LO:=[oQ 54 (.makeFunc (.func 105) #[] #[(oT 5)]) 158,
 oA 11 54 158]
def f68r18p0:LO:=[oL 55 100 5 100,
 oQ 56 (cB .len #[(oT 55)] #[100]) 3,
 oV .leq 57 3 56 9 4,
 oM 58 57 4,
  gF 59 37 1 0 0 58 true,
  gL 60 35 59 35 58 true,
  gM 61 11 158 58 true,
 oG 62 (cF 106 #[(oT 60),(oT 61)] #[35,158]) 4 58 true,
 oG 63 (.unOp .not 4 (oT 62)) 4 58 true,
 oP 64 58 63 4]
def f68r18p1:LO:=[oA 2 64 4]
def f68r18:LO:=f68r18p0 ++ f68r18p1
def f68:AFun:=⟨65,[(.tmp 2)],(.seq (.ops false f68r0) (.seq (.ops false f68r1) (.seq (.ops false f68r2) (.seq (.seq (.ops false f68r3) (.block 0 (.loop [1,3,5,18,19,20] f68b0))) (.seq (.ops false f68r9) (.seq (.ops false f68r10) (.seq (.seq (.ops false f68r11) (.block 2 (.loop [1,5,37,38,39] f68b1))) (.seq (.ops false f68r17) (.seq (.ops false f68r18) .ret)))))))))⟩
noncomputable def f72:AFun:=⟨35,[(.tmp 2)],cvF Tryz.f72 (.seq hO (.seq hO (.seq hO (.seq hO (.seq hO (.seq hO (.seq hO (.seq hO .ret))))))))⟩
noncomputable def f73:AFun:=⟨14,[(.tmp 2),(.tmp 3)],cvF Tryz.f73 (.seq hO (.seq hO (.seq hO (.seq (.seq hO (hC (.seq hO .ret) .skip)) (.seq hO .ret)))))⟩
noncomputable def f74:AFun:=⟨68,[(.cell 2 33),(.tmp 3),(.tmp 4)],cvF Tryz.f74 (.seq hO (.seq (.seq hO (hC (.seq hO .ret) .skip)) (.seq (.seq hO (.block 0 (.loop [0,2,14,15] (.seq hO (.seq (hC .skip (.exit 0)) (.seq (.block 1 (.seq hO (.seq hO (hC (.seq hO .ret) .skip)))) hO)))))) (.seq hO (.seq (.seq hO (.block 2 (.loop [2,7,30] (.seq hO (.seq (hC .skip (.exit 2)) (.block 3 (.seq hO (.seq (.block 4 (.seq hO (hC (.seq hO .ret) (.seq hO (hC (.seq hO .ret) .skip))))) hO)))))))) (.seq hO .ret))))))⟩
noncomputable def f75:AFun:=⟨68,[(.cell 2 33),(.tmp 3),(.tmp 4)],cvF Tryz.f75 (.seq hO (.seq hO (.seq (.seq hO (.block 0 (.seq hO (hC hO (.seq hO (hC hO (.seq hO (hC (.seq hO (.block 1 (.seq hO (hC (.seq hO .ret) (.seq hO (hC (.seq hO .ret) (.seq hO (hC (.seq hO .ret) .skip)))))))) .skip)))))))) (.seq (.block 2 (.seq hO (hC (.seq hO hO) (.seq hO (hC (.seq hO hO) .skip))))) (.seq hO .ret)))))⟩
noncomputable def f76:AFun:=⟨75,[(.cell 4 25),(.tmp 5),(.tmp 6)],cvF Tryz.f76 (.seq hO (.scope (.seq (.seq hO (hC (.seq hO .ret) .skip)) (.seq hO (.seq hO (.seq hO (.seq (.seq hO (hC hO .skip)) (.seq hO (.seq .skip (.seq (.block 0 (.loop [0,4,7,8,9,10] (.block 1 (.seq (.seq hO (hC (.exit 0) .skip)) (.seq hO (.seq (.seq hO (hC (.seq hO .ret) .skip)) (.seq hO hO))))))) (.seq (.seq hO (hC hO .skip)) (.seq hO .ret))))))))))))⟩
noncomputable def f77:AFun:=⟨43,[(.cell 2 33),(.tmp 3),(.tmp 4)],cvF Tryz.f77 (.seq hO (.seq hO (.seq (.block 0 (.seq hO (hC (.seq hO .ret) (.seq hO (hC (.seq hO .ret) (.seq hO (hC (.seq hO .ret) .skip))))))) (.seq hO (.seq (.seq hO (hC (.seq hO .ret) .skip)) (.seq hO .ret))))))⟩
noncomputable def f78:AFun:=⟨18,[],cvF Tryz.f78 hO⟩
def f79r0:LO:=[oQ 2 (.box 72 (oT 0)) 0,
 oZ 4 0 3]
def f79r1:LO:=[oF 6 72 2 4 0,
 oL 7 3 6 3,
 oM 8 1 3,
 oB .add 9 3 7 8 3,
 oA 5 9 3]
def f79r2:LO:=[oF 10 72 2 5 0,
 oL 11 3 10 3,
 oV .neq 12 3 11 (-1) 4]
def f79r3:LO:=[oM 13 5 3,
 oF 14 72 2 5 0,
 oL 15 3 14 3,
 oQ 16 (cB .min #[(oT 13),(oT 15)] #[3,3]) 3,
 oA 5 16 3]
def f79r4:LO:=[oM 17 5 3,
 oV .add 18 3 17 1 3,
 oA 4 18 3]
def f79:AFun:=⟨19,[(.tmp 4)],(.seq (.ops false f79r0) (.seq (.ops false f79r1) (.seq (.seq (.ops false f79r2) (.cond (.tmp 12) (.ops false f79r3) .skip)) (.seq (.ops false f79r4) .ret))))⟩
def f84r0:LO:=[oQ 2 (.assign (.const (.float .f64 0))) 44]
def f84r1:LO:=[oM 3 0 44,
 oQ 4 (cF 119 #[(oT 3)] #[44]) 22,
 oQ 5 (.binOp .andNot 22 (oT 4) (kW 9223372036854775808) 22) 22,
 oQ 6 (cF 85 #[(oT 5)] #[22]) 44,
 oA 2 6 44]
def f84:AFun:=⟨7,[(.tmp 2)],(.seq (.ops false f84r0) (.seq (.ops false f84r1) .ret))⟩
noncomputable def f88:AFun:=⟨3,[(.cell 0 25)],cvF Tryz.f88 (.seq hO (.seq hO .ret))⟩
noncomputable def f96:AFun:=⟨18,[(.tmp 4)],cvF Tryz.f96 (.seq hO (.seq hO .ret))⟩
def f97r0:LO:=[oQ 1 (.box 72 (oT 0)) 0,
 oQ 2 (.assign kF) 4]
def f97r1p0:LO:=[oF 3 72 1 0 0,
 oL 4 3 3 3,
 oV .lss 5 3 4 0 4,
 oM 6 5 4,
  gF 7 72 1 0 0 6 false,
  gL 8 3 7 3 6 false,
 oG 9 (.binOp .geq 3 (oT 8) (kI 18) 3) 4 6 false,
 oO 10 6 9 4]
def f97r1p1:LO:=[oM 11 10 4,
  gL 12 72 1 72 11 false,
 oG 13 (cF 124 #[(oT 12)] #[72]) 72 11 false,
  gL 14 72 1 72 11 false,
 oG 15 (cF 125 #[(oT 14)] #[72]) 72 11 false,
 oG 16 (cF 124 #[(oT 15)] #[72]) 72 11 false,
 oG 17 (.binOp .neq 72 (oT 13) (oT 16) 72) 4 11 false,
 oO 18 11 17 4]
def f97r1:LO:=f97r1p0 ++ f97r1p1
def f97r2:LO:=[oQ 2 (.assign kF) 4]
def f97r3:LO:=[oF 19 72 1 0 0,
 oL 20 3 19 3,
 oV .neq 21 3 20 10 4]
def f97r4:LO:=[oQ 2 (.assign kT) 4]
def f97r5p0:LO:=[oF 22 72 1 4 0,
 oL 23 3 22 3,
 oV .geq 24 3 23 0 4,
 oM 25 24 4,
  gF 26 72 1 4 0 25 true,
  gL 27 3 26 3 25 true,
 oG 28 (.binOp .leq 3 (oT 27) (kI 100) 3) 4 25 true,
 oP 29 25 28 4]
def f97r5p1:LO:=[oM 30 29 4,
  gF 31 72 1 5 0 30 true,
  gL 32 3 31 3 30 true,
 oG 33 (.binOp .eql 3 (oT 32) (kI (-1)) 3) 4 30 true,
  gM 34 33 4 30 true,
  gF 35 72 1 5 0 34 false,
  gL 36 3 35 3 34 false,
  gF 37 72 1 4 0 34 false,
  gL 38 3 37 3 34 false,
 oG 39 (.binOp .geq 3 (oT 36) (oT 38) 3) 4 34 false,
  gM 40 39 4 34 false,
  gF 41 72 1 5 0 40 true,
  gL 42 3 41 3 40 true,
 oG 43 (.binOp .leq 3 (oT 42) (kI 100) 3) 4 40 true,
 oG 44 (.pick (oT 40) (oT 43) kF) 4 34 false,
 oG 45 (.pick (oT 34) kT (oT 44)) 4 30 true,
 oP 46 30 45 4]
def f97r5p2:LO:=[oM 47 46 4,
  gF 48 72 1 6 0 47 true,
  gL 49 3 48 3 47 true,
 oG 50 (.binOp .geq 3 (oT 49) (kI 0) 3) 4 47 true,
 oP 51 47 50 4]
def f97r5p3:LO:=[oM 52 51 4,
  gF 53 72 1 6 0 52 true,
  gL 54 3 53 3 52 true,
 oG 55 (.binOp .leq 3 (oT 54) (kI 2) 3) 4 52 true,
 oP 56 52 55 4]
def f97r5p4:LO:=[oA 2 56 4]
def f97r5:LO:=f97r5p0 ++ (f97r5p1 ++ (f97r5p2 ++ (f97r5p3 ++ f97r5p4)))
def f97:AFun:=⟨57,[(.tmp 2)],(.seq (.ops false f97r0) (.seq (.seq (.ops true f97r1) (.cond (.tmp 18) (.seq (.ops false f97r2) .ret) .skip)) (.seq (.seq (.ops false f97r3) (.cond (.tmp 21) (.seq (.ops false f97r4) .ret) .skip)) (.seq (.ops false f97r5) .ret))))⟩
def f98r0:LO:=[oZ 2 0 3]
def f98r1:LO:=[oM 5 0 100,
 oQ 6 (cB .len #[(oT 5)] #[100]) 3,
 oV .lss 7 3 6 1 4]
def f98r2:LO:=[oQ 8 (.makeInterface 9 (.const (.string { data:=#[115,108,105,99,101,115,46,77,97,120,58,32,101,109,112,116,121,32,108,105,115,116] }))) 20,
 oN (.panic (oT 8)) 0]
def f98r3:LO:=[oM 9 0 100,
 oQ 10 (.indexAddr 100 (oT 9) (kI 0)) 0,
 oL 11 3 10 3,
 oA 3 11 3]
def f98r4:LO:=[oZ 4 1 3]
def f98r5:LO:=[oM 12 4 3,
 oM 13 0 100,
 oQ 14 (cB .len #[(oT 13)] #[100]) 3,
 oB .lss 15 3 12 14 4]
def f98r7:LO:=[oM 18 3 3,
 oM 19 0 100,
 oM 20 4 3,
 oI 21 100 19 20 0,
 oL 22 3 21 3,
 oQ 23 (cB .max #[(oT 18),(oT 22)] #[3,3]) 3,
 oA 3 23 3]
def f98r6:LO:=[oM 16 4 3,
 oV .add 17 3 16 1 3,
 oA 4 17 3]
def f98b0:AC:=(.seq (.seq (.ops false f98r5) (.cond (oT 15) .skip (.exit 0))) (.seq (.block 1 (.ops false f98r7)) (.ops false f98r6)))
def f98r8:LO:=[oM 24 3 3,
 oA 2 24 3]
def f98:AFun:=⟨25,[(.tmp 2)],(.seq (.ops false f98r0) (.seq (.seq (.ops false f98r1) (.cond (.tmp 7) (.ops false f98r2) .skip)) (.seq (.ops false f98r3) (.seq (.seq (.ops false f98r4) (.block 0 (.loop [0,3,4] f98b0))) (.seq (.ops false f98r8) .ret)))))⟩
def f99r0:LO:=[oZ 4 0 3]
def f99r1:LO:=[oM 5 0 3,
 oE 6 3 5 (-1) 4,
 oM 7 6 4,
  gM 8 1 3 7 false,
 oG 9 (.binOp .eql 3 (oT 8) (kI (-1)) 3) 4 7 false,
 oO 10 7 9 4]
def f99r2:LO:=[oZ 4 (-1) 3]
def f99r3:LO:=[oM 11 0 3,
 oM 12 1 3,
 oB .add 13 3 11 12 3,
 oQ 14 (cB .min #[(oT 13),(kI 1048576)] #[3,3]) 3,
 oA 4 14 3]
def f99:AFun:=⟨15,[(.tmp 4)],(.seq (.ops false f99r0) (.seq (.seq (.ops false f99r1) (.cond (.tmp 10) (.seq (.ops false f99r2) .ret) .skip)) (.seq (.ops false f99r3) .ret)))⟩
def f100r0:LO:=[oZ 4 0 3]
def f100r1p0:LO:=[oM 6 0 3,
 oE 7 3 6 0 4,
 oM 8 7 4,
  gM 9 1 3 8 false,
 oG 10 (.binOp .eql 3 (oT 9) (kI 0) 3) 4 8 false,
 oO 11 8 10 4]
def f100r1p1:LO:=[oA 5 11 4]
def f100r1:LO:=f100r1p0 ++ f100r1p1
def f100r2:LO:=[oZ 4 0 3]
def f100r3p0:LO:=[oM 13 0 3,
 oE 14 3 13 (-1) 4,
 oM 15 14 4,
  gM 16 1 3 15 false,
 oG 17 (.binOp .eql 3 (oT 16) (kI (-1)) 3) 4 15 false,
 oO 18 15 17 4]
def f100r3p1:LO:=[oA 12 18 4]
def f100r3:LO:=f100r3p0 ++ f100r3p1
def f100r4:LO:=[oZ 4 (-1) 3]
def f100r5:LO:=[oM 19 0 3,
 oM 20 1 3,
 oB .mul 21 3 19 20 3,
 oQ 22 (cB .min #[(oT 21),(kI 1048576)] #[3,3]) 3,
 oA 4 22 3]
def f100:AFun:=⟨23,[(.tmp 4)],(.seq (.ops false f100r0) (.seq (.block 0 (.seq (.ops false f100r1) (.cond (.tmp 5) (.seq (.ops false f100r2) .ret) (.seq (.ops false f100r3) (.cond (.tmp 12) (.seq (.ops false f100r4) .ret) .skip))))) (.seq (.ops false f100r5) .ret)))⟩
def f102r0:LO:=[oZ 3 0 3]
def f102r1:LO:=[oM 4 0 3,
 oL 5 100 1 100,
 oM 6 0 3,
 oI 7 100 5 6 0,
 oL 8 3 7 3,
 oB .sub 9 3 4 8 3,
 oV .add 10 3 9 1 3,
 oA 3 10 3]
def f102:AFun:=⟨11,[(.tmp 3)],(.seq (.ops false f102r0) (.seq (.ops false f102r1) .ret))⟩
noncomputable def f103:AFun:=⟨14,[],cvF Tryz.f103 (.seq hO hO)⟩
def f104r0:LO:=[oZ 6 0 3]
def f104r1:LO:=[oL 8 99 2 99,
 oM 9 0 3,
 oQ 10 (.call { callee:=(.value (oT 8)),args:=#[(oT 9)],argTypes:=#[3] }) 3,
 oL 11 99 2 99,
 oM 12 1 3,
 oQ 13 (.call { callee:=(.value (oT 11)),args:=#[(oT 12)],argTypes:=#[3] }) 3,
 oB .sub 14 3 10 13 3,
 oA 7 14 3]
def f104r2:LO:=[oM 15 7 3,
 oV .neq 16 3 15 0 4]
def f104r3:LO:=[oM 17 7 3,
 oA 6 17 3]
def f104r4:LO:=[oL 18 100 3 100,
 oM 19 1 3,
 oI 20 100 18 19 0,
 oL 21 3 20 3,
 oL 22 100 3 100,
 oM 23 0 3,
 oI 24 100 22 23 0,
 oL 25 3 24 3,
 oB .sub 26 3 21 25 3,
 oA 6 26 3]
def f104:AFun:=⟨27,[(.tmp 6)],(.seq (.ops false f104r0) (.seq (.seq (.ops true f104r1) (.seq (.ops false f104r2) (.cond (.tmp 16) (.seq (.ops false f104r3) .ret) .skip))) (.seq (.ops true f104r4) .ret)))⟩
def f105r0:LO:=[oQ 2 (.box 72 (oT 0)) 0,
 oQ 3 (.assign kF) 4]
def f105r1p0:LO:=[oF 4 72 2 0 0,
 oL 5 3 4 3,
 oE 6 3 5 12 4,
 oM 7 6 4,
  gF 8 72 2 7 0 7 true,
  gL 9 3 8 3 7 true,
 oG 10 (.binOp .lss 3 (oT 9) (kI 1) 3) 4 7 true,
  gM 11 10 4 7 true,
  gF 12 72 2 7 0 11 false,
  gL 13 3 12 3 11 false,
  gL 14 100 1 100 11 false,
 oG 15 (cB .len #[(oT 14)] #[100]) 3 11 false,
 oG 16 (.binOp .gtr 3 (oT 13) (oT 15) 3) 4 11 false,
 oG 17 (.pick (oT 11) kT (oT 16)) 4 7 true,
 oP 18 7 17 4]
def f105r1p1:LO:=[oA 3 18 4]
def f105r1:LO:=f105r1p0 ++ f105r1p1
def f105:AFun:=⟨19,[(.tmp 3)],(.seq (.ops false f105r0) (.seq (.ops false f105r1) .ret))⟩
def f106r0:LO:=[oQ 4 (.assign kF) 4]
def f106r1:LO:=[oM 5 0 35,
 oM 6 1 158,
 oQ 7 (cF 138 #[(oT 5),(oT 6)] #[35,158]) 3,
 oV .geq 8 3 7 0 4,
 oA 4 8 4]
def f106:AFun:=⟨9,[(.tmp 4)],(.seq (.ops false f106r0) (.seq (.ops false f106r1) .ret))⟩
noncomputable def f108:AFun:=⟨9,[(.cell 2 37)],cvF Tryz.f108 (.seq hO (.seq hO .ret))⟩
noncomputable def f109:AFun:=⟨8,[(.tmp 4)],cvF Tryz.f109 (.seq hO (.seq hO .ret))⟩
noncomputable def f110:AFun:=⟨15,[(.tmp 4)],cvF Tryz.f110 (.seq hO (.seq (.seq hO (.block 0 (.loop [1,8] (.seq hO (.seq (hC .skip (.exit 0)) (.block 1 (.seq hO (.seq hO (hC (.seq hO .ret) .skip))))))))) (.seq hO .ret)))⟩
noncomputable def f111:AFun:=⟨65,[(.tmp 2),(.tmp 3),(.tmp 4)],cvF Tryz.f111 (.seq hO (.seq hO (.seq hO (.seq hO (.seq (.seq hO (hC (.seq hO (.seq hO (.seq hO (.seq hO (.seq hO (hC hO .skip)))))) .skip)) (.seq (.seq hO (hC (.seq hO .ret) .skip)) (.seq hO .ret)))))))⟩
noncomputable def f112:AFun:=⟨76,[(.cell 2 25),(.tmp 3)],cvF Tryz.f112 (.seq hO (.seq hO (.seq (.seq hO (hC (.seq hO .ret) .skip)) (.seq hO (.seq hO (.seq hO (.seq (.seq hO (hC (.seq hO .ret) .skip)) (.seq hO .ret))))))))⟩
noncomputable def f113:AFun:=⟨17,[(.cell 2 25)],cvF Tryz.f113 (.seq hO (.seq (.seq hO (.block 0 (.loop [1,2,4] (.seq hO (.seq (hC .skip (.exit 0)) (.seq (.block 1 (.seq hO hO)) hO)))))) (.seq hO .ret)))⟩
noncomputable def f114:AFun:=⟨42,[(.tmp 4)],cvF Tryz.f114 (.seq hO (.seq hO (.seq (.block 0 (.seq hO (hC hO (.seq hO (hC hO (.seq hO (hC hO .skip))))))) (.seq (.seq hO (hC (.seq hO .ret) .skip)) (.seq hO .ret)))))⟩
noncomputable def f115:AFun:=⟨73,[(.cell 2 25),(.tmp 3)],cvF Tryz.f115 (.seq hO (.seq (.seq hO (hC (.seq hO .ret) .skip)) (.seq hO (.seq hO (.block 0 (.seq hO (hC (.seq hO .ret) (.seq hO (hC (.seq hO .ret) (.seq hO (hC (.seq hO .ret) (.seq hO (hC (.seq hO .ret) (.seq hO (hC (.seq hO .ret) (.seq hO (hC (.seq hO .ret) (.seq hO (hC (.seq (.seq hO (hC (.seq hO .ret) .skip)) (.seq hO .ret)) (.seq (.seq hO (.seq hO (hC (.seq hO .ret) .skip))) (.seq (.seq hO (hC (.seq hO .ret) .skip)) (.seq hO .ret))))))))))))))))))))))⟩
noncomputable def f120:AFun:=⟨21,[(.tmp 2),(.tmp 3)],cvF Tryz.f120 (.seq hO (.seq (.seq hO (.block 0 (.loop [7,8] (.seq hO (.seq (hC .skip (.exit 0)) (.seq (.block 1 (.seq hO (.seq hO (hC (.seq hO .ret) .skip)))) hO)))))) (.seq hO .ret)))⟩
def f124r0:LO:=[oQ 1 (.box 72 (oT 0)) 0,
 oQ 2 (.alloc 72) 0]
def f124r1:LO:=[oF 3 72 1 0 0,
 oN (.store 3 (oT 3) (kI 0)) 0,
 oF 4 72 1 1 0,
 oN (.store 3 (oT 4) (kI 0)) 0,
 oF 5 72 1 2 0,
 oN (.store 3 (oT 5) (kI 0)) 0]
def f124r2:LO:=[oL 6 72 1 72,
 oS 72 2 6 0]
def f124:AFun:=⟨7,[(.cell 2 72)],(.seq (.ops false f124r0) (.seq (.ops false f124r1) (.seq (.ops false f124r2) .ret)))⟩
noncomputable def f125:AFun:=⟨39,[(.cell 2 72)],cvF Tryz.f125 (.seq hO (.seq hO (.seq (.seq hO (.block 0 (.seq hO (hC hO (.seq hO (hC (.opsL [18,20] 11 false []) (.seq hO (hC hO (.seq hO (hC (.opsL [34] 7 false []) .skip)))))))))) (.seq hO .ret))))⟩
noncomputable def f136:AFun:=⟨148,[],cvF Tryz.f136 (.seq hO (.seq hO (.block 0 (.loop [0,1,2,3,4,10,11] (.block 1 (.seq hO (.seq (.seq hO (hC (.seq hO .ret) .skip)) (.seq (.seq hO (hC (.seq hO .ret) .skip)) (.seq (.seq hO (hC (.seq hO hO) .skip)) (.seq hO (.seq (.seq hO (hC (.seq hO (.seq hO hO)) .skip)) (.seq (.seq hO (hC (.seq hO (hC .ret .skip)) .skip)) (.seq (.seq hQ (hC (.seq hO (.seq hO (.exit 1))) .skip)) (.seq hO (.seq hO (.seq hO (.seq hO (.seq hO (hC (.seq hO (.seq hO hO)) (.seq hO (.seq hO hO)))))))))))))))))))))⟩
noncomputable def f137:AFun:=⟨8,[(.tmp 2)],cvF Tryz.f137 (.seq hO (.seq (hC (.seq hO .ret) .skip) (.seq hO .ret)))⟩
def f138r0:LO:=[oZ 4 0 3]
def f138r1:LO:=[oM 6 0 35,
 oQ 7 (cB .len #[(oT 6)] #[35]) 3,
 oQ 8 (.move (kI 0)) 3]
def f138r2:LO:=[oB .lss 9 3 8 7 0]
def f138r3:LO:=[oM 10 8 3,
 oA 5 10 3]
def f138r4:LO:=[oM 11 1 158,
 oM 12 0 35,
 oM 13 5 3,
 oI 14 35 12 13 0,
 oL 15 72 14 72,
 oQ 16 (.call { callee:=(.value (oT 11)),args:=#[(oT 15)],argTypes:=#[72] }) 4]
def f138r5:LO:=[oM 17 5 3,
 oA 4 17 3]
def f138r6:LO:=[oV .add 18 3 8 1 3,
 oM 8 18 3]
def f138b0:AC:=(.seq (.ops false f138r2) (.seq (.cond (oT 9) .skip (.exit 0)) (.seq (.block 1 (.seq (.ops false f138r3) (.seq (.ops false f138r4) (.cond (oT 16) (.seq (.ops false f138r5) .ret) .skip)))) (.ops false f138r6))))
def f138r7:LO:=[oZ 4 (-1) 3]
def f138:AFun:=⟨19,[(.tmp 4)],(.seq (.ops false f138r0) (.seq (.seq (.ops false f138r1) (.block 0 (.loop [0,1,7,8] f138b0))) (.seq (.ops false f138r7) .ret)))⟩
noncomputable def f139:AFun:=⟨20,[(.cell 8 37)],cvF Tryz.f139 (.seq hO (.seq hO (.seq (.block 0 (.loop [1,2,3,8,9] (.seq (.seq hO (hC .skip (.exit 0))) (.block 1 (.opsL [9] 4 false []))))) (.seq hO .ret))))⟩
noncomputable def f140:AFun:=⟨15,[(.tmp 2)],cvF Tryz.f140 (.seq hO (.seq hO (.seq (.seq hO (hC hO .skip)) (.seq hO .ret))))⟩
noncomputable def f141:AFun:=⟨14,[(.cell 2 37)],cvF Tryz.f141 (.seq hO (.seq (.seq hO (hC (.seq hO .ret) .skip)) (.seq hO .ret)))⟩
noncomputable def f142:AFun:=⟨8,[(.tmp 4)],cvF Tryz.f142 (.seq hO (.seq hO .ret))⟩
noncomputable def f143:AFun:=⟨32,[(.tmp 2),(.tmp 3)],cvF Tryz.f143 (.seq hO (.seq hO (.seq (.block 0 (.loop [0,4,5] (.seq (.seq hO (hC .skip (.exit 0))) (.block 1 (.seq hO hO))))) (.seq hO .ret))))⟩
noncomputable def f144:AFun:=⟨35,[(.cell 2 25),(.tmp 3)],cvF Tryz.f144 (.seq hO (.seq (.block 0 (.seq hO (hC (.seq hO .ret) (.seq hO (hC (.seq hO (.seq (.seq hO (hC (.seq hO .ret) .skip)) (.seq hO .ret))) .skip))))) (.seq hO .ret)))⟩
noncomputable def f145:AFun:=⟨19,[(.cell 4 25)],cvF Tryz.f145 (.seq hO (.seq hO (.seq (.seq hO (.block 0 (.loop [1,4,5,6] (.seq (.seq hO (hC .skip (.exit 0))) (.seq (.block 1 hO) hO))))) (.seq hO .ret))))⟩
noncomputable def f146:AFun:=⟨2,[(.cell 0 25)],cvF Tryz.f146 (.seq hO (.seq hO .ret))⟩
noncomputable def f147:AFun:=⟨8,[(.cell 0 25)],cvF Tryz.f147 (.seq hO (.seq hO .ret))⟩
noncomputable def f148:AFun:=⟨4,[(.cell 0 25)],cvF Tryz.f148 (.seq hO (.seq hO .ret))⟩
noncomputable def f149:AFun:=⟨10,[(.tmp 2)],cvF Tryz.f149 (.seq hO (.seq hO .ret))⟩
noncomputable def f152:AFun:=⟨14,[(.tmp 2)],cvF Tryz.f152 (.seq hO (.seq (.seq hO (hC (.seq hO .ret) .skip)) (.seq hO .ret)))⟩
noncomputable def f154:AFun:=⟨53,[],cvF Tryz.f154 (.seq hO (.block 0 (.loop [0,1,2,3,8] (.seq (.seq hO (hC .skip (.exit 0))) (.seq (.block 1 (.seq hO (.block 2 (.loop [0,1,2,3,8,9] (.seq (.seq hQ (hC .skip (.exit 2))) (.seq (.block 3 hQ) hO)))))) hO)))))⟩
noncomputable def f155:AFun:=⟨60,[],cvF Tryz.f155 (.seq hO (.seq hO (.seq hO (.seq (.seq hO (.block 0 (.loop [0,3,8,9,10,11] (.seq (.seq hO (hC .skip (.exit 0))) (.seq (.block 1 hO) hO))))) (.seq hO (.block 2 (.loop [0,3,8,9,12] (.seq (.seq hO (hC .skip (.exit 2))) (.seq (.block 3 (.seq hQ hO)) hO)))))))))⟩
noncomputable def f156:AFun:=⟨67,[],cvF Tryz.f156 (.seq hO (.seq hO (hC (.seq hO (.seq hO (.seq hO (.block 0 (.loop [0,1,8,9,10,11] (.seq (.seq hO (hC .skip (.exit 0))) (.seq (.block 1 (.seq hO (.seq (.seq hO (hC hO .skip)) hQ))) hO))))))) .skip)))⟩
noncomputable def f157:AFun:=⟨63,[(.tmp 8),(.tmp 9)],cvF Tryz.f157 (.seq hO (.seq hO (.seq hO (.seq hO (.seq hO (.seq hO (.seq (.seq hO (hC (.seq (.seq hO (hC (.seq hO (.seq hO hO)) .skip)) hO) .skip)) (.seq hO (.block 0 (.seq hO (hC (.seq hO .ret) (.seq hO (hC (.seq hO .ret) (.seq hO .ret))))))))))))))⟩
noncomputable def f158:AFun:=⟨34,[],cvF Tryz.f158 (.seq hO (.seq hO (.block 0 (.loop [0,8,9] (.seq (.seq hO (hC .skip (.exit 0))) (.block 1 (.seq hQ (.seq hO hO))))))))⟩
noncomputable def f159:AFun:=⟨141,[(.tmp 8)],cvF Tryz.f159 (.seq hO (.seq hO (.seq (.seq hO (.block 0 (.loop [0,1,2,3,9,10] (.seq (.seq hO (hC .skip (.exit 0))) (.seq (.block 1 (.seq (.block 2 (.loop [0,1,2,3,9,10] (.seq (.seq hQ (hC .skip (.exit 2))) (.block 3 hO)))) (.seq (.seq hO (hC (.seq hO .ret) .skip)) (.seq (.seq hO (hC (.seq hO .ret) .skip)) (.seq hQ (.seq (.seq hO (hC (.seq hO (.block 4 (.loop [0,1,2,3,9,10,11] (.seq (.seq hO (hC .skip (.exit 4))) (.seq (.block 5 (.seq (.seq hQ (hC (.exit 4) .skip)) hQ)) hO))))) .skip)) (.seq hO (hC (.seq hO (.block 6 (.loop [0,1,2,3,9,10,12] (.seq (.seq hO (hC .skip (.exit 6))) (.seq (.block 7 (.seq (.seq hQ (hC (.exit 6) .skip)) hQ)) hO))))) .skip)))))))) hO))))) (.seq hO .ret))))⟩
noncomputable def f160:AFun:=⟨90,[(.tmp 10)],cvF Tryz.f160 (.seq hO (.seq hQ (.seq hO (.seq (.block 0 (.loop [0,1,4,11,12] (.block 1 (.seq (.block 2 (.loop [0,1,4,11,12] (.seq (.seq hQ (hC .skip (.exit 2))) (.block 3 hO)))) (.seq (.block 4 (.loop [0,1,4,11,12] (.seq (.seq hQ (hC .skip (.exit 4))) (.block 5 hO)))) (.seq (.seq hO (hC (.exit 0) .skip)) (.seq hQ (.seq hO hO)))))))) (.seq hO .ret)))))⟩
noncomputable def f161:AFun:=⟨178,[(.tmp 10),(.tmp 11)],cvF Tryz.f161 (.seq hO (.seq hQ (.seq hO (.seq (.block 0 (.loop [0,1,4,12,13] (.seq (.seq hQ (hC .skip (.exit 0))) (.block 1 hO)))) (.seq (.block 2 (.loop [0,1,4,12,13] (.seq (.seq hQ (hC .skip (.exit 2))) (.block 3 hO)))) (.seq (.seq hO (hC (.seq hQ (.seq hO .ret)) .skip)) (.seq hQ (.seq hO (.seq hO (.seq (.block 4 (.loop [0,1,4,12,13] (.block 5 (.seq (.block 6 (.loop [0,1,4,12,13] (.seq (.seq hQ (hC .skip (.exit 6))) (.block 7 hO)))) (.seq (.block 8 (.loop [0,1,4,12,13] (.seq (.seq hQ (hC .skip (.exit 8))) (.block 9 hO)))) (.seq (.seq hO (hC (.exit 4) .skip)) (.seq hQ (.seq hO hO)))))))) (.seq hQ (.seq hO .ret))))))))))))⟩
noncomputable def f162:AFun:=⟨19,[(.tmp 2)],cvF Tryz.f162 (.seq hO (.seq (.seq hO (hC (.seq hO hO) .skip)) (.seq (.seq hO (hC (.seq hO hO) .skip)) (.seq hO .ret))))⟩
noncomputable def f163:AFun:=⟨25,[(.tmp 2)],cvF Tryz.f163 (.seq hO (.seq (.seq hO (hC (.seq hO hO) .skip)) (.seq (.seq hO (hC (.seq hO hO) .skip)) (.seq (.seq hO (hC (.seq hO hO) .skip)) (.seq hO .ret)))))⟩
noncomputable def f164:AFun:=⟨30,[(.tmp 4)],cvF Tryz.f164 (.seq hO (.seq hQ .ret))⟩
noncomputable def f165:AFun:=⟨23,[(.tmp 2)],cvF Tryz.f165 (.seq hO (.seq (.opsL [5,9] 12 false []) .ret))⟩
noncomputable def f166:AFun:=⟨36,[(.cell 2 37)],cvF Tryz.f166 (.seq hO (.seq hO (.seq (.seq hO (hC (.seq hQ (.seq hO hO)) .skip)) (.seq hO .ret))))⟩
noncomputable def f170:AFun:=⟨82,[],cvF Tryz.f170 (.seq hO (.block 0 (.loop [0,2,3,4,10] (.block 1 (.seq hO (.seq (.seq hO (hC (.exit 0) .skip)) (.seq (.seq hQ (hC hO .skip)) (.seq (.seq hQ (hC .ret .skip)) (.seq hQ hO)))))))))⟩
noncomputable def f171:AFun:=⟨7,[(.tmp 2)],cvF Tryz.f171 (.seq hO (.seq hO .ret))⟩
noncomputable def f172:AFun:=⟨33,[(.tmp 2)],cvF Tryz.f172 (.seq hO (.seq hQ (.seq hQ (.seq hQ (.seq hO .ret)))))⟩
noncomputable def f173:AFun:=⟨18,[(.tmp 8)],cvF Tryz.f173 (.seq hO (.seq hO .ret))⟩
noncomputable def f174:AFun:=⟨41,[(.tmp 12)],cvF Tryz.f174 (.seq hO (.seq hO (.seq hO (.seq hO (.seq hO .ret)))))⟩
noncomputable def f175:AFun:=⟨66,[(.cell 2 37)],cvF Tryz.f175 (.seq hO (.seq hQ (.seq hO (.seq (.seq hO (.block 0 (.seq hO (hC (.seq hO .ret) (.seq hO (hC (.seq hO .ret) (.seq hO (hC (.seq hO .ret) (.seq hO (hC (.seq hO .ret) (.seq hO (hC (.seq hO .ret) (.seq hO (hC (.seq hO .ret) (.seq hO (hC (.seq (.opsL [53] 5 false []) .ret) (.seq hO (hC hO .skip)))))))))))))))))) (.seq hO .ret)))))⟩
noncomputable def f177:AFun:=⟨32,[(.tmp 10),(.tmp 11)],cvF Tryz.f177 (.seq hO (.seq (.seq hQ (hC (.seq hO (.seq hO .ret)) .skip)) (.seq hO .ret)))⟩
noncomputable def f178:AFun:=⟨12,[(.cell 4 37)],cvF Tryz.f178 (.seq hO (.seq (.seq hO (hC hO .skip)) (.seq hO .ret)))⟩
noncomputable def f179:AFun:=⟨13,[(.cell 2 37)],cvF Tryz.f179 (.seq hO (.seq hO (.seq (.seq hO (hC hO .skip)) (.seq hO .ret))))⟩
noncomputable def f180:AFun:=⟨14,[(.cell 6 37)],cvF Tryz.f180 (.seq hO (.seq (.seq hO (hC (.seq hO .ret) .skip)) (.seq hO .ret)))⟩
noncomputable def f181:AFun:=⟨11,[(.tmp 4)],cvF Tryz.f181 (.seq hO (.seq hO .ret))⟩
noncomputable def f182:AFun:=⟨65,[(.cell 4 37)],cvF Tryz.f182 (.seq hO (.seq (.opsL [14] 11 true []) (.seq (.seq hO (hC (.seq hO hO) .skip)) (.seq hQ (.seq hO (.seq hO (.seq (.seq hO (hC hO .skip)) (.seq hO (.seq (.seq hO (hC (.seq hO .ret) .skip)) (.seq hO .ret))))))))))⟩
noncomputable def f187:AFun:=⟨28,[(.cell 2 25)],cvF Tryz.f187 (.seq hO (.seq (.seq hO (hC (.seq hO .ret) .skip)) (.seq hO (.seq (.seq hO (.block 0 (.loop [1,2,3,4] (.seq (.seq hO (hC .skip (.exit 0))) (.seq (.block 1 (.seq (.seq hO (hC hO .skip)) (.seq hO (hC hO .skip)))) hO))))) (.seq hO .ret)))))⟩
noncomputable def f188:AFun:=⟨9,[(.tmp 4)],cvF Tryz.f188 (.seq hO (.seq hO .ret))⟩
noncomputable def f189:AFun:=⟨16,[(.tmp 2)],cvF Tryz.f189 (.seq hO (.seq (.seq hO (.block 0 (.seq hO (hC (.seq hO .ret) (.seq hO (hC (.seq hO .ret) (.seq hO (hC (.seq hO .ret) (.seq hO (hC (.seq hO .ret) (.seq hO (hC (.seq hO .ret) (.seq hO (hC (.seq hO .ret) .skip)))))))))))))) (.seq hO .ret)))⟩
noncomputable def f194:AFun:=⟨8,[(.tmp 4)],cvF Tryz.f194 (.seq hO (.seq hO .ret))⟩
noncomputable def f196:AFun:=⟨143,[(.tmp 4)],cvF Tryz.f196 (.seq hO (.seq hO (.seq (.block 0 (.seq hO (hC (.seq hO .ret) (.seq hO (hC (.seq hO .ret) (.seq hO (hC (.seq hO .ret) (.seq hO (hC (.seq hO .ret) .skip))))))))) (.seq hO (.seq hO (.seq hO (.seq hO (.seq hO (.seq (.block 1 (.loop [0,1,5,6,7,8,9,10] (.seq (.seq hO (hC .skip (.exit 1))) (.block 2 (.seq (.seq hO (hC (.seq hO (.seq (.seq hO (hC (.seq hO .ret) .skip)) hO)) .skip)) (.seq (.seq hO (hC (.seq hO .ret) .skip)) (.seq hO (.seq hO (.seq hO (hC (.seq hO (.seq (.seq hO (hC (.seq hO .ret) .skip)) (.seq hO .ret))) (.seq hO (hC (.seq hO (.seq (.seq hO (hC (.seq hO .ret) .skip)) (.seq hO .ret))) .skip)))))))))))) (.seq hO .ret))))))))))⟩
noncomputable def f198:AFun:=⟨6,[(.tmp 2)],cvF Tryz.f198 (.seq hO (.seq hO .ret))⟩
noncomputable def f199:AFun:=⟨81,[(.tmp 4)],cvF Tryz.f199 (.seq hO (.seq hO (.seq hO (.seq hO (.seq (.seq hO (.block 0 (.loop [0,1,5,6,7,8,9] (.seq (.seq hO (hC .skip (.exit 0))) (.seq (.block 1 hO) hO))))) (.seq (.seq hO (hC (.seq hO .ret) .skip)) (.seq (.seq hO (.block 2 (.loop [0,1,5,6,7,8,10] (.seq (.seq hO (hC .skip (.exit 2))) (.block 3 (.seq hO (.seq hO (.seq hO (.seq hO (.seq hO (hC (.seq hO .ret) .skip))))))))))) (.seq hO .ret))))))))⟩
noncomputable def f200:AFun:=⟨39,[(.tmp 2),(.tmp 3)],cvF Tryz.f200 (.seq hO (.seq hO (.seq (.seq hO (.block 0 (.loop [0,4,5] (.seq (.seq hO (hC .skip (.exit 0))) (.seq (.block 1 hO) hO))))) (.seq hO (.seq (.seq hO (.block 2 (.loop [4,6,7,8] (.seq (.seq hO (hC .skip (.exit 2))) (.seq (.block 3 (.seq (.seq hO (hC hO .skip)) hO)) hO))))) (.seq hO .ret))))))⟩
def f69r2:LO:=[oM 6 0 27,
 oQ 7 (.build 165 #[(0,(oT 6))]) 165,
 oQ 8 (.box 165 (oT 7)) 163,
 oA 4 8 163]
def f69r3:LO:=[oM 9 4 163,
 oQ 10 (cF 108 #[(oT 9)] #[163]) 37,
 oS 37 2 10 0]
def f69r4:LO:=[oM 11 4 163,
 oQ 12 (.nilCheck (oT 11)) 0,
 oF 13 165 12 1 0,
 oL 14 3 13 3,
 oM 15 0 27,
 oQ 16 (cB .len #[(oT 15)] #[27]) 3,
 oB .lss 17 3 14 16 4]
def f69r5:LO:=[oQ 18 (.build 161 #[]) 161,
 oQ 19 (.makeInterface 161 (oT 18)) 20,
 oN (.panic (oT 19)) 0]
def f69r6:LO:=[oL 20 37 2 37,
 oS 37 2 20 0,
 oN (.store 4 (oT 3) kT) 0]
def f107r1:LO:=[oM 9 3 4]
def f107r2:List AOp:=[
  ⟨some 10,(.build 37 #[]),37,none⟩,
  ⟨none,(.store 37 (.tmp 0) (.tmp 10)),0,none⟩,
  ⟨none,(.store 4 (.tmp 1) (.const (.bool false))),0,none⟩]
def d69:DFun:=⟨21,[(.cell 2 37),(.cell 3 4)],[⟨some 2,(.alloc 37),0,none⟩,⟨some 3,(.alloc 4),0,none⟩],[⟨some 5,(.makeFunc (.func 107) #[] #[(.tmp 2),(.tmp 3)]),1,none⟩],5,(.seq (.ops false f69r2) (.seq (.ops false f69r3) (.seq (.seq (.ops false f69r4) (.cond (.tmp 17) (.ops false f69r5) .skip)) (.seq (.ops false f69r6) .ret)))),107,11,5,[⟨some 6,(.typeAssert (.tmp 5) 20 161 true),162,none⟩,⟨some 4,(.move (.tmp 6)),162,none⟩,⟨some 7,(.extract (.tmp 4) 0),161,none⟩,⟨some 8,(.extract (.tmp 4) 1),4,none⟩,⟨some 2,(.alloc 161),0,none⟩,⟨none,(.store 161 (.tmp 2) (.tmp 7)),0,none⟩,⟨some 3,(.assign (.tmp 8)),4,none⟩],(.seq (.ops false f107r1) (.cond (.tmp 9) (.ops false f107r2) .skip))⟩
def f69:AFun:=⟨21,[(.cell 2 37),(.cell 3 4)],.goto 0⟩
noncomputable def F:FuncId → Option AFun
  | 10=>some f10
  | 16=>some f16
  | 18=>some f18
  | 20=>some f20
  | 22=>some f22
  | 24=>some f24
  | 25=>some f25
  | 32=>some f32
  | 33=>some f33
  | 35=>some f35
  | 36=>some f36
  | 37=>some f37
  | 38=>some f38
  | 40=>some f40
  | 41=>some f41
  | 44=>some f44
  | 46=>some f46
  | 47=>some f47
  | 49=>some f49
  | 51=>some f51
  | 52=>some f52
  | 55=>some f55
  | 56=>some f56
  | 61=>some f61
  | 62=>some f62
  | 63=>some f63
  | 64=>some f64
  | 65=>some f65
  | 66=>some f66
  | 68=>some f68
  | 72=>some f72
  | 73=>some f73
  | 74=>some f74
  | 75=>some f75
  | 76=>some f76
  | 77=>some f77
  | 78=>some f78
  | 79=>some f79
  | 84=>some f84
  | 88=>some f88
  | 96=>some f96
  | 97=>some f97
  | 98=>some f98
  | 99=>some f99
  | 100=>some f100
  | 102=>some f102
  | 103=>some f103
  | 104=>some f104
  | 105=>some f105
  | 106=>some f106
  | 108=>some f108
  | 109=>some f109
  | 110=>some f110
  | 111=>some f111
  | 112=>some f112
  | 113=>some f113
  | 114=>some f114
  | 115=>some f115
  | 120=>some f120
  | 124=>some f124
  | 125=>some f125
  | 136=>some f136
  | 137=>some f137
  | 138=>some f138
  | 139=>some f139
  | 140=>some f140
  | 141=>some f141
  | 142=>some f142
  | 143=>some f143
  | 144=>some f144
  | 145=>some f145
  | 146=>some f146
  | 147=>some f147
  | 148=>some f148
  | 149=>some f149
  | 152=>some f152
  | 154=>some f154
  | 155=>some f155
  | 156=>some f156
  | 157=>some f157
  | 158=>some f158
  | 159=>some f159
  | 160=>some f160
  | 161=>some f161
  | 162=>some f162
  | 163=>some f163
  | 164=>some f164
  | 165=>some f165
  | 166=>some f166
  | 170=>some f170
  | 171=>some f171
  | 172=>some f172
  | 173=>some f173
  | 174=>some f174
  | 175=>some f175
  | 177=>some f177
  | 178=>some f178
  | 179=>some f179
  | 180=>some f180
  | 181=>some f181
  | 182=>some f182
  | 187=>some f187
  | 188=>some f188
  | 189=>some f189
  | 194=>some f194
  | 196=>some f196
  | 198=>some f198
  | 199=>some f199
  | 200=>some f200
  | 69=>some f69
  | _=>none
noncomputable def Df:FuncId → Option DFun
  | 69=>some d69
  | _=>none
end Go.Proofs.YtaadjlpfdajggaaGreatDoor.C
