/-
  THE FUNCTIONS OF THIS SEAT AS OUR ABSTRACT MACHINE RUNS THEM: printed by our own mir.py out of Lean's print of the loaded functions.
-/
import Derived.Test.YtcjnmmeibppblaaDoorAm0
namespace Go.Proofs.YtcjnmmeibppblaaDoor.C
open Go Go.AM

-- clew/clewlaw06.LexClass
def f4r0 : List AOp := [
  ⟨some 4, (.assign (.const (.bool false))), 4, none⟩]
def f4r1 : List AOp := [
  ⟨some 11, (.move (.tmp 0)), 9, none⟩,
  ⟨some 12, (.move (.tmp 0)), 9, none⟩,
  ⟨some 13, (.call { callee := (.builtin .len), args := #[(.tmp 12)], argTypes := #[9] }), 3, none⟩,
  ⟨some 14, (.call { callee := (.builtin .min), args := #[(.tmp 13), (.const (.int .i64 200))], argTypes := #[3, 3] }), 3, none⟩,
  ⟨some 15, (.slice 9 (.tmp 11) none (some (.tmp 14)) none), 9, none⟩,
  ⟨some 0, (.assign (.tmp 15)), 9, none⟩]
def f4r2 : List AOp := [
  ⟨some 17, (.move (.tmp 0)), 9, none⟩,
  ⟨some 18, (.move (.tmp 1)), 3, none⟩,
  ⟨some 19, (.call { callee := (.value (.func 15)), args := #[(.tmp 17), (.tmp 18)], argTypes := #[9, 3] }), 37, none⟩,
  ⟨some 16, (.move (.tmp 19)), 37, none⟩,
  ⟨some 20, (.extract (.tmp 16) 0), 36, none⟩,
  ⟨some 21, (.extract (.tmp 16) 1), 3, none⟩,
  ⟨some 22, (.extract (.tmp 16) 2), 23, none⟩,
  ⟨some 5, (.alloc 36), 0, none⟩,
  ⟨none, (.store 36 (.tmp 5) (.tmp 20)), 0, none⟩,
  ⟨some 6, (.assign (.tmp 21)), 3, none⟩,
  ⟨some 7, (.assign (.tmp 22)), 23, none⟩]
def f4r3 : List AOp := [
  ⟨some 24, (.move (.tmp 0)), 9, none⟩,
  ⟨some 25, (.move (.tmp 1)), 3, none⟩,
  ⟨some 26, (.call { callee := (.value (.func 16)), args := #[(.tmp 24), (.tmp 25)], argTypes := #[9, 3] }), 39, none⟩,
  ⟨some 23, (.move (.tmp 26)), 39, none⟩,
  ⟨some 27, (.extract (.tmp 23) 0), 34, none⟩,
  ⟨some 28, (.extract (.tmp 23) 1), 3, none⟩,
  ⟨some 29, (.extract (.tmp 23) 2), 23, none⟩,
  ⟨some 8, (.alloc 34), 0, none⟩,
  ⟨none, (.store 34 (.tmp 8) (.tmp 27)), 0, none⟩,
  ⟨some 9, (.assign (.tmp 28)), 3, none⟩,
  ⟨some 10, (.assign (.tmp 29)), 23, none⟩]
def f4r4p0 : List AOp := [
  ⟨some 30, (.fieldAddr 36 (.tmp 5) 0), 0, none⟩,
  ⟨some 31, (.load 34 (.tmp 30)), 34, none⟩,
  ⟨some 32, (.load 34 (.tmp 8)), 34, none⟩,
  ⟨some 33, (.binOp .eql 34 (.tmp 31) (.tmp 32) 34), 4, none⟩,
  ⟨some 34, (.move (.tmp 33)), 4, none⟩,
  ⟨some 35, (.move (.tmp 6)), 3, some (34, true)⟩,
  ⟨some 36, (.move (.tmp 9)), 3, some (34, true)⟩,
  ⟨some 37, (.binOp .eql 3 (.tmp 35) (.tmp 36) 3), 4, some (34, true)⟩,
  ⟨some 38, (.pick (.tmp 34) (.tmp 37) (.const (.bool false))), 4, none⟩]
def f4r4p1 : List AOp := [
  ⟨some 39, (.move (.tmp 38)), 4, none⟩,
  ⟨some 40, (.move (.tmp 7)), 23, some (39, true)⟩,
  ⟨some 41, (.move (.tmp 10)), 23, some (39, true)⟩,
  ⟨some 42, (.binOp .eql 23 (.tmp 40) (.tmp 41) 23), 4, some (39, true)⟩,
  ⟨some 43, (.pick (.tmp 39) (.tmp 42) (.const (.bool false))), 4, none⟩]
def f4r4p2 : List AOp := [
  ⟨some 44, (.move (.tmp 43)), 4, none⟩,
  ⟨some 45, (.call { callee := (.value (.func 14)), args := #[], argTypes := #[] }), 4, some (44, true)⟩,
  ⟨some 46, (.pick (.tmp 44) (.tmp 45) (.const (.bool false))), 4, none⟩]
def f4r4p3 : List AOp := [
  ⟨some 4, (.assign (.tmp 46)), 4, none⟩]
def f4r4 : List AOp := f4r4p0 ++ (f4r4p1 ++ (f4r4p2 ++ f4r4p3))
def f4 : AFun := ⟨47, [(.tmp 4)], (.seq (.ops false f4r0) (.seq (.ops false f4r1) (.seq (.ops false f4r2) (.seq (.ops false f4r3) (.seq (.ops false f4r4) .ret)))))⟩

-- clew/lex.Lex
def f10r0 : List AOp := [
  ⟨some 2, (.assign (.const (.slice none 0 0))), 22, none⟩,
  ⟨some 3, (.assign (.const (.int .i64 0))), 23, none⟩]
def f10r1 : List AOp := [
  ⟨some 8, (.move (.tmp 0)), 9, none⟩,
  ⟨some 9, (.call { callee := (.builtin .len), args := #[(.tmp 8)], argTypes := #[9] }), 3, none⟩,
  ⟨some 10, (.binOp .gtr 3 (.tmp 9) (.const (.int .i64 1000)) 3), 4, none⟩]
def f10r2 : List AOp := [
  ⟨some 2, (.assign (.const (.slice none 0 0))), 22, none⟩,
  ⟨some 3, (.assign (.const (.int .i64 4))), 23, none⟩]
def f10r3 : List AOp := [
  ⟨some 4, (.assign (.const (.slice none 0 0))), 22, none⟩]
def f10r4 : List AOp := [
  ⟨some 11, (.move (.tmp 0)), 9, none⟩,
  ⟨some 12, (.binOp .neq 9 (.tmp 11) (.const (.string { data := #[] })) 9), 4, none⟩]
def f10r5 : List AOp := [
  ⟨some 14, (.move (.tmp 0)), 9, none⟩,
  ⟨some 15, (.call { callee := (.value (.func 23)), args := #[(.tmp 14)], argTypes := #[9] }), 56, none⟩,
  ⟨some 13, (.move (.tmp 15)), 56, none⟩,
  ⟨some 16, (.extract (.tmp 13) 0), 46, none⟩,
  ⟨some 17, (.extract (.tmp 13) 1), 3, none⟩,
  ⟨some 18, (.extract (.tmp 13) 2), 23, none⟩,
  ⟨some 5, (.alloc 46), 0, none⟩,
  ⟨none, (.store 46 (.tmp 5) (.tmp 16)), 0, none⟩,
  ⟨some 6, (.assign (.tmp 17)), 3, none⟩,
  ⟨some 7, (.assign (.tmp 18)), 23, none⟩]
def f10r6 : List AOp := [
  ⟨some 19, (.move (.tmp 7)), 23, none⟩,
  ⟨some 20, (.binOp .neq 23 (.tmp 19) (.const (.int .i64 0)) 23), 4, none⟩]
def f10r7 : List AOp := [
  ⟨some 21, (.move (.tmp 7)), 23, none⟩,
  ⟨some 2, (.assign (.const (.slice none 0 0))), 22, none⟩,
  ⟨some 3, (.assign (.tmp 21)), 23, none⟩]
def f10r8 : List AOp := [
  ⟨some 22, (.move (.tmp 4)), 22, none⟩,
  ⟨some 23, (.load 46 (.tmp 5)), 46, none⟩,
  ⟨some 24, (.buildSlice 22 1 #[(0, (.tmp 23))]), 22, none⟩,
  ⟨some 25, (.call { callee := (.builtin .append), args := #[(.tmp 22), (.tmp 24)], argTypes := #[22, 22] }), 22, none⟩,
  ⟨some 26, (.move (.tmp 0)), 9, none⟩,
  ⟨some 27, (.move (.tmp 6)), 3, none⟩,
  ⟨some 28, (.slice 9 (.tmp 26) (some (.tmp 27)) none none), 9, none⟩,
  ⟨some 4, (.assign (.tmp 25)), 22, none⟩,
  ⟨some 0, (.assign (.tmp 28)), 9, none⟩]
def f10b0 : AC := (.seq (.seq (.ops false f10r4) (.cond (.tmp 12) .skip (.exit 0))) (.block 1 (.seq (.ops false f10r5) (.seq (.seq (.ops false f10r6) (.cond (.tmp 20) (.seq (.ops false f10r7) .ret) .skip)) (.ops false f10r8)))))
def f10r9 : List AOp := [
  ⟨some 29, (.move (.tmp 4)), 22, none⟩,
  ⟨some 2, (.assign (.tmp 29)), 22, none⟩,
  ⟨some 3, (.assign (.const (.int .i64 0))), 23, none⟩]
def f10 : AFun := ⟨30, [(.tmp 2), (.tmp 3)], (.seq (.ops false f10r0) (.seq (.seq (.ops false f10r1) (.cond (.tmp 10) (.seq (.ops false f10r2) .ret) .skip)) (.seq (.ops false f10r3) (.seq (.block 0 (.loop [0, 4] f10b0)) (.seq (.ops false f10r9) .ret)))))⟩

-- clew/clewlaw06.fixed
def f14r0 : List AOp := [
  ⟨some 0, (.assign (.const (.bool false))), 4, none⟩]
def f14r1 : List AOp := [
  ⟨some 20, (.call { callee := (.value (.func 10)), args := #[(.const (.string { data := #[97, 43, 63, 40, 63, 105, 58, 91, 94, 98, 45, 100, 92, 120, 52, 49, 93, 124, 92, 50, 41, 123, 50, 44, 51, 125, 43] }))], argTypes := #[9] }), 24, none⟩,
  ⟨some 19, (.move (.tmp 20)), 24, none⟩,
  ⟨some 21, (.extract (.tmp 19) 0), 22, none⟩,
  ⟨some 22, (.extract (.tmp 19) 1), 23, none⟩,
  ⟨some 1, (.assign (.tmp 21)), 22, none⟩,
  ⟨some 2, (.assign (.tmp 22)), 23, none⟩]
def f14r2 : List AOp := [
  ⟨some 24, (.call { callee := (.value (.func 10)), args := #[(.const (.string { data := #[97, 123, 49, 48, 49, 125] }))], argTypes := #[9] }), 24, none⟩,
  ⟨some 23, (.move (.tmp 24)), 24, none⟩,
  ⟨some 25, (.extract (.tmp 23) 0), 22, none⟩,
  ⟨some 26, (.extract (.tmp 23) 1), 23, none⟩,
  ⟨some 3, (.assign (.tmp 25)), 22, none⟩,
  ⟨some 4, (.assign (.tmp 26)), 23, none⟩]
def f14r3 : List AOp := [
  ⟨some 28, (.call { callee := (.value (.func 10)), args := #[(.const (.string { data := #[97, 123, 51, 44, 50, 125] }))], argTypes := #[9] }), 24, none⟩,
  ⟨some 27, (.move (.tmp 28)), 24, none⟩,
  ⟨some 29, (.extract (.tmp 27) 0), 22, none⟩,
  ⟨some 30, (.extract (.tmp 27) 1), 23, none⟩,
  ⟨some 5, (.assign (.tmp 29)), 22, none⟩,
  ⟨some 6, (.assign (.tmp 30)), 23, none⟩]
def f14r4 : List AOp := [
  ⟨some 32, (.call { callee := (.value (.func 10)), args := #[(.const (.string { data := #[40, 63, 105, 105, 58, 97, 41] }))], argTypes := #[9] }), 24, none⟩,
  ⟨some 31, (.move (.tmp 32)), 24, none⟩,
  ⟨some 33, (.extract (.tmp 31) 0), 22, none⟩,
  ⟨some 34, (.extract (.tmp 31) 1), 23, none⟩,
  ⟨some 7, (.assign (.tmp 33)), 22, none⟩,
  ⟨some 8, (.assign (.tmp 34)), 23, none⟩]
def f14r5 : List AOp := [
  ⟨some 36, (.call { callee := (.value (.func 10)), args := #[(.const (.string { data := #[91, 93] }))], argTypes := #[9] }), 24, none⟩,
  ⟨some 35, (.move (.tmp 36)), 24, none⟩,
  ⟨some 37, (.extract (.tmp 35) 0), 22, none⟩,
  ⟨some 38, (.extract (.tmp 35) 1), 23, none⟩,
  ⟨some 9, (.assign (.tmp 37)), 22, none⟩,
  ⟨some 10, (.assign (.tmp 38)), 23, none⟩]
def f14r6 : List AOp := [
  ⟨some 40, (.call { callee := (.value (.func 10)), args := #[(.const (.string { data := #[92, 113] }))], argTypes := #[9] }), 24, none⟩,
  ⟨some 39, (.move (.tmp 40)), 24, none⟩,
  ⟨some 41, (.extract (.tmp 39) 0), 22, none⟩,
  ⟨some 42, (.extract (.tmp 39) 1), 23, none⟩,
  ⟨some 11, (.assign (.tmp 41)), 22, none⟩,
  ⟨some 12, (.assign (.tmp 42)), 23, none⟩]
def f14r7 : List AOp := [
  ⟨some 44, (.call { callee := (.value (.func 15)), args := #[(.const (.string { data := #[120, 91, 97, 45, 99, 93, 121] })), (.const (.int .i64 1))], argTypes := #[9, 3] }), 37, none⟩,
  ⟨some 43, (.move (.tmp 44)), 37, none⟩,
  ⟨some 45, (.extract (.tmp 43) 0), 36, none⟩,
  ⟨some 46, (.extract (.tmp 43) 1), 3, none⟩,
  ⟨some 47, (.extract (.tmp 43) 2), 23, none⟩,
  ⟨some 13, (.alloc 36), 0, none⟩,
  ⟨none, (.store 36 (.tmp 13) (.tmp 45)), 0, none⟩,
  ⟨some 14, (.assign (.tmp 46)), 3, none⟩,
  ⟨some 15, (.assign (.tmp 47)), 23, none⟩]
def f14r8 : List AOp := [
  ⟨some 49, (.call { callee := (.value (.func 15)), args := #[(.const (.string { data := #[120, 91, 97, 45, 99, 93, 121] })), (.const (.int .i64 0))], argTypes := #[9, 3] }), 37, none⟩,
  ⟨some 48, (.move (.tmp 49)), 37, none⟩,
  ⟨some 50, (.extract (.tmp 48) 0), 36, none⟩,
  ⟨some 51, (.extract (.tmp 48) 1), 3, none⟩,
  ⟨some 52, (.extract (.tmp 48) 2), 23, none⟩,
  ⟨some 16, (.alloc 36), 0, none⟩,
  ⟨none, (.store 36 (.tmp 16) (.tmp 50)), 0, none⟩,
  ⟨some 17, (.assign (.tmp 51)), 3, none⟩,
  ⟨some 18, (.assign (.tmp 52)), 23, none⟩]
def f14r9 : List AOp := [
  ⟨some 53, (.move (.tmp 1)), 22, none⟩,
  ⟨some 54, (.call { callee := (.builtin .len), args := #[(.tmp 53)], argTypes := #[22] }), 3, none⟩,
  ⟨some 55, (.binOp .neq 3 (.tmp 54) (.const (.int .i64 8)) 3), 4, none⟩]
def f14r10 : List AOp := [
  ⟨some 0, (.assign (.const (.bool false))), 4, none⟩]
def f14r11p0 : List AOp := [
  ⟨some 56, (.move (.tmp 2)), 23, none⟩,
  ⟨some 57, (.binOp .eql 23 (.tmp 56) (.const (.int .i64 0)) 23), 4, none⟩,
  ⟨some 58, (.move (.tmp 57)), 4, none⟩,
  ⟨some 59, (.move (.tmp 1)), 22, some (58, true)⟩,
  ⟨some 60, (.indexAddr 22 (.tmp 59) (.const (.int .i64 0))), 0, some (58, true)⟩,
  ⟨some 61, (.load 46 (.tmp 60)), 46, some (58, true)⟩,
  ⟨some 62, (.call { callee := (.value (.func 17)), args := #[(.const (.int .u8 97))], argTypes := #[5] }), 36, some (58, true)⟩,
  ⟨some 63, (.build 46 #[(0, (.const (.int .i64 0))), (1, (.tmp 62))]), 46, some (58, true)⟩,
  ⟨some 64, (.binOp .eql 46 (.tmp 61) (.tmp 63) 46), 4, some (58, true)⟩,
  ⟨some 65, (.pick (.tmp 58) (.tmp 64) (.const (.bool false))), 4, none⟩]
def f14r11p1 : List AOp := [
  ⟨some 66, (.move (.tmp 65)), 4, none⟩,
  ⟨some 67, (.move (.tmp 1)), 22, some (66, true)⟩,
  ⟨some 68, (.indexAddr 22 (.tmp 67) (.const (.int .i64 1))), 0, some (66, true)⟩,
  ⟨some 69, (.load 46 (.tmp 68)), 46, some (66, true)⟩,
  ⟨some 70, (.build 46 #[(0, (.const (.int .i64 16))), (2, (.const (.int .i64 1))), (3, (.const (.int .i64 (-1)))), (4, (.const (.int .i64 1)))]), 46, some (66, true)⟩,
  ⟨some 71, (.binOp .eql 46 (.tmp 69) (.tmp 70) 46), 4, some (66, true)⟩,
  ⟨some 72, (.pick (.tmp 66) (.tmp 71) (.const (.bool false))), 4, none⟩]
def f14r11p2 : List AOp := [
  ⟨some 73, (.move (.tmp 72)), 4, none⟩,
  ⟨some 74, (.move (.tmp 1)), 22, some (73, true)⟩,
  ⟨some 75, (.indexAddr 22 (.tmp 74) (.const (.int .i64 2))), 0, some (73, true)⟩,
  ⟨some 76, (.load 46 (.tmp 75)), 46, some (73, true)⟩,
  ⟨some 77, (.build 46 #[(0, (.const (.int .i64 14))), (6, (.const (.string { data := #[105] })))]), 46, some (73, true)⟩,
  ⟨some 78, (.binOp .eql 46 (.tmp 76) (.tmp 77) 46), 4, some (73, true)⟩,
  ⟨some 79, (.pick (.tmp 73) (.tmp 78) (.const (.bool false))), 4, none⟩]
def f14r11p3 : List AOp := [
  ⟨some 80, (.move (.tmp 79)), 4, none⟩,
  ⟨some 81, (.move (.tmp 1)), 22, some (80, true)⟩,
  ⟨some 82, (.indexAddr 22 (.tmp 81) (.const (.int .i64 3))), 0, some (80, true)⟩,
  ⟨some 83, (.load 46 (.tmp 82)), 46, some (80, true)⟩,
  ⟨some 84, (.call { callee := (.value (.func 18)), args := #[(.const (.string { data := #[98, 99, 100, 65] }))], argTypes := #[9] }), 36, some (80, true)⟩,
  ⟨some 85, (.call { callee := (.value (.func 25)), args := #[(.tmp 84)], argTypes := #[36] }), 36, some (80, true)⟩,
  ⟨some 86, (.build 46 #[(0, (.const (.int .i64 0))), (1, (.tmp 85))]), 46, some (80, true)⟩,
  ⟨some 87, (.binOp .eql 46 (.tmp 83) (.tmp 86) 46), 4, some (80, true)⟩,
  ⟨some 88, (.pick (.tmp 80) (.tmp 87) (.const (.bool false))), 4, none⟩]
def f14r11p4 : List AOp := [
  ⟨some 89, (.move (.tmp 88)), 4, none⟩,
  ⟨some 90, (.move (.tmp 1)), 22, some (89, true)⟩,
  ⟨some 91, (.indexAddr 22 (.tmp 90) (.const (.int .i64 4))), 0, some (89, true)⟩,
  ⟨some 92, (.load 46 (.tmp 91)), 46, some (89, true)⟩,
  ⟨some 93, (.build 46 #[(0, (.const (.int .i64 6)))]), 46, some (89, true)⟩,
  ⟨some 94, (.binOp .eql 46 (.tmp 92) (.tmp 93) 46), 4, some (89, true)⟩,
  ⟨some 95, (.pick (.tmp 89) (.tmp 94) (.const (.bool false))), 4, none⟩]
def f14r11p5 : List AOp := [
  ⟨some 96, (.move (.tmp 95)), 4, none⟩,
  ⟨some 97, (.move (.tmp 1)), 22, some (96, true)⟩,
  ⟨some 98, (.indexAddr 22 (.tmp 97) (.const (.int .i64 5))), 0, some (96, true)⟩,
  ⟨some 99, (.load 46 (.tmp 98)), 46, some (96, true)⟩,
  ⟨some 100, (.build 46 #[(0, (.const (.int .i64 17))), (5, (.const (.int .i64 2)))]), 46, some (96, true)⟩,
  ⟨some 101, (.binOp .eql 46 (.tmp 99) (.tmp 100) 46), 4, some (96, true)⟩,
  ⟨some 102, (.pick (.tmp 96) (.tmp 101) (.const (.bool false))), 4, none⟩]
def f14r11p6 : List AOp := [
  ⟨some 103, (.move (.tmp 102)), 4, none⟩,
  ⟨some 104, (.move (.tmp 1)), 22, some (103, true)⟩,
  ⟨some 105, (.indexAddr 22 (.tmp 104) (.const (.int .i64 6))), 0, some (103, true)⟩,
  ⟨some 106, (.load 46 (.tmp 105)), 46, some (103, true)⟩,
  ⟨some 107, (.build 46 #[(0, (.const (.int .i64 15)))]), 46, some (103, true)⟩,
  ⟨some 108, (.binOp .eql 46 (.tmp 106) (.tmp 107) 46), 4, some (103, true)⟩,
  ⟨some 109, (.pick (.tmp 103) (.tmp 108) (.const (.bool false))), 4, none⟩]
def f14r11p7 : List AOp := [
  ⟨some 110, (.move (.tmp 109)), 4, none⟩,
  ⟨some 111, (.move (.tmp 1)), 22, some (110, true)⟩,
  ⟨some 112, (.indexAddr 22 (.tmp 111) (.const (.int .i64 7))), 0, some (110, true)⟩,
  ⟨some 113, (.load 46 (.tmp 112)), 46, some (110, true)⟩,
  ⟨some 114, (.build 46 #[(0, (.const (.int .i64 16))), (2, (.const (.int .i64 2))), (3, (.const (.int .i64 3))), (4, (.const (.int .i64 2)))]), 46, some (110, true)⟩,
  ⟨some 115, (.binOp .eql 46 (.tmp 113) (.tmp 114) 46), 4, some (110, true)⟩,
  ⟨some 116, (.pick (.tmp 110) (.tmp 115) (.const (.bool false))), 4, none⟩]
def f14r11p8 : List AOp := [
  ⟨some 117, (.move (.tmp 116)), 4, none⟩,
  ⟨some 118, (.move (.tmp 4)), 23, some (117, true)⟩,
  ⟨some 119, (.binOp .eql 23 (.tmp 118) (.const (.int .i64 4)) 23), 4, some (117, true)⟩,
  ⟨some 120, (.pick (.tmp 117) (.tmp 119) (.const (.bool false))), 4, none⟩]
def f14r11p9 : List AOp := [
  ⟨some 121, (.move (.tmp 120)), 4, none⟩,
  ⟨some 122, (.move (.tmp 6)), 23, some (121, true)⟩,
  ⟨some 123, (.binOp .eql 23 (.tmp 122) (.const (.int .i64 3)) 23), 4, some (121, true)⟩,
  ⟨some 124, (.pick (.tmp 121) (.tmp 123) (.const (.bool false))), 4, none⟩]
def f14r11p10 : List AOp := [
  ⟨some 125, (.move (.tmp 124)), 4, none⟩,
  ⟨some 126, (.move (.tmp 8)), 23, some (125, true)⟩,
  ⟨some 127, (.binOp .eql 23 (.tmp 126) (.const (.int .i64 3)) 23), 4, some (125, true)⟩,
  ⟨some 128, (.pick (.tmp 125) (.tmp 127) (.const (.bool false))), 4, none⟩]
def f14r11p11 : List AOp := [
  ⟨some 129, (.move (.tmp 128)), 4, none⟩,
  ⟨some 130, (.move (.tmp 10)), 23, some (129, true)⟩,
  ⟨some 131, (.binOp .eql 23 (.tmp 130) (.const (.int .i64 3)) 23), 4, some (129, true)⟩,
  ⟨some 132, (.pick (.tmp 129) (.tmp 131) (.const (.bool false))), 4, none⟩]
def f14r11p12 : List AOp := [
  ⟨some 133, (.move (.tmp 132)), 4, none⟩,
  ⟨some 134, (.move (.tmp 12)), 23, some (133, true)⟩,
  ⟨some 135, (.binOp .eql 23 (.tmp 134) (.const (.int .i64 3)) 23), 4, some (133, true)⟩,
  ⟨some 136, (.pick (.tmp 133) (.tmp 135) (.const (.bool false))), 4, none⟩]
def f14r11p13 : List AOp := [
  ⟨some 137, (.move (.tmp 136)), 4, none⟩,
  ⟨some 138, (.load 36 (.tmp 13)), 36, some (137, true)⟩,
  ⟨some 139, (.call { callee := (.value (.func 18)), args := #[(.const (.string { data := #[97, 98, 99] }))], argTypes := #[9] }), 36, some (137, true)⟩,
  ⟨some 140, (.binOp .eql 36 (.tmp 138) (.tmp 139) 36), 4, some (137, true)⟩,
  ⟨some 141, (.pick (.tmp 137) (.tmp 140) (.const (.bool false))), 4, none⟩]
def f14r11p14 : List AOp := [
  ⟨some 142, (.move (.tmp 141)), 4, none⟩,
  ⟨some 143, (.move (.tmp 14)), 3, some (142, true)⟩,
  ⟨some 144, (.binOp .eql 3 (.tmp 143) (.const (.int .i64 6)) 3), 4, some (142, true)⟩,
  ⟨some 145, (.pick (.tmp 142) (.tmp 144) (.const (.bool false))), 4, none⟩]
def f14r11p15 : List AOp := [
  ⟨some 146, (.move (.tmp 145)), 4, none⟩,
  ⟨some 147, (.move (.tmp 15)), 23, some (146, true)⟩,
  ⟨some 148, (.binOp .eql 23 (.tmp 147) (.const (.int .i64 0)) 23), 4, some (146, true)⟩,
  ⟨some 149, (.pick (.tmp 146) (.tmp 148) (.const (.bool false))), 4, none⟩]
def f14r11p16 : List AOp := [
  ⟨some 150, (.move (.tmp 149)), 4, none⟩,
  ⟨some 151, (.move (.tmp 18)), 23, some (150, true)⟩,
  ⟨some 152, (.binOp .eql 23 (.tmp 151) (.const (.int .i64 1)) 23), 4, some (150, true)⟩,
  ⟨some 153, (.pick (.tmp 150) (.tmp 152) (.const (.bool false))), 4, none⟩]
def f14r11p17 : List AOp := [
  ⟨some 0, (.assign (.tmp 153)), 4, none⟩]
def f14r11 : List AOp := f14r11p0 ++ (f14r11p1 ++ (f14r11p2 ++ (f14r11p3 ++ (f14r11p4 ++ (f14r11p5 ++ (f14r11p6 ++ (f14r11p7 ++ (f14r11p8 ++ (f14r11p9 ++ (f14r11p10 ++ (f14r11p11 ++ (f14r11p12 ++ (f14r11p13 ++ (f14r11p14 ++ (f14r11p15 ++ (f14r11p16 ++ f14r11p17))))))))))))))))
def f14 : AFun := ⟨154, [(.tmp 0)], (.seq (.ops false f14r0) (.seq (.ops false f14r1) (.seq (.ops false f14r2) (.seq (.ops false f14r3) (.seq (.ops false f14r4) (.seq (.ops false f14r5) (.seq (.ops false f14r6) (.seq (.ops false f14r7) (.seq (.ops false f14r8) (.seq (.seq (.ops false f14r9) (.cond (.tmp 55) (.seq (.ops false f14r10) .ret) .skip)) (.seq (.ops true f14r11) .ret)))))))))))⟩

-- clew/lex.Class
def f15r0 : List AOp := [
  ⟨some 4, (.alloc 36), 0, none⟩,
  ⟨some 5, (.assign (.const (.int .i64 0))), 3, none⟩,
  ⟨some 6, (.assign (.const (.int .i64 0))), 23, none⟩]
def f15r1p0 : List AOp := [
  ⟨some 13, (.move (.tmp 1)), 3, none⟩,
  ⟨some 14, (.binOp .lss 3 (.tmp 13) (.const (.int .i64 0)) 3), 4, none⟩,
  ⟨some 15, (.move (.tmp 14)), 4, none⟩,
  ⟨some 16, (.move (.tmp 1)), 3, some (15, false)⟩,
  ⟨some 17, (.move (.tmp 0)), 9, some (15, false)⟩,
  ⟨some 18, (.call { callee := (.builtin .len), args := #[(.tmp 17)], argTypes := #[9] }), 3, some (15, false)⟩,
  ⟨some 19, (.binOp .geq 3 (.tmp 16) (.tmp 18) 3), 4, some (15, false)⟩,
  ⟨some 20, (.pick (.tmp 15) (.const (.bool true)) (.tmp 19)), 4, none⟩]
def f15r1p1 : List AOp := [
  ⟨some 21, (.move (.tmp 20)), 4, none⟩,
  ⟨some 22, (.move (.tmp 0)), 9, some (21, false)⟩,
  ⟨some 23, (.move (.tmp 1)), 3, some (21, false)⟩,
  ⟨some 24, (.index 9 (.tmp 22) (.tmp 23)), 5, some (21, false)⟩,
  ⟨some 25, (.binOp .neq 5 (.tmp 24) (.const (.int .u8 91)) 5), 4, some (21, false)⟩,
  ⟨some 26, (.pick (.tmp 21) (.const (.bool true)) (.tmp 25)), 4, none⟩]
def f15r1 : List AOp := f15r1p0 ++ f15r1p1
def f15r2 : List AOp := [
  ⟨some 27, (.build 36 #[]), 36, none⟩,
  ⟨none, (.store 36 (.tmp 4) (.tmp 27)), 0, none⟩,
  ⟨some 5, (.assign (.const (.int .i64 0))), 3, none⟩,
  ⟨some 6, (.assign (.const (.int .i64 1))), 23, none⟩]
def f15r3 : List AOp := [
  ⟨some 7, (.alloc 36), 0, none⟩]
def f15r4 : List AOp := [
  ⟨some 28, (.move (.tmp 1)), 3, none⟩,
  ⟨some 29, (.binOp .add 3 (.tmp 28) (.const (.int .i64 1)) 3), 3, none⟩,
  ⟨some 8, (.assign (.tmp 29)), 3, none⟩]
def f15r5 : List AOp := [
  ⟨some 30, (.move (.tmp 0)), 9, none⟩,
  ⟨some 31, (.move (.tmp 8)), 3, none⟩,
  ⟨some 32, (.slice 9 (.tmp 30) (some (.tmp 31)) none none), 9, none⟩,
  ⟨some 33, (.call { callee := (.value (.func 26)), args := #[(.tmp 32), (.const (.string { data := #[94] }))], argTypes := #[9, 9] }), 4, none⟩,
  ⟨some 9, (.assign (.tmp 33)), 4, none⟩]
def f15r6 : List AOp := [
  ⟨some 34, (.move (.tmp 9)), 4, none⟩]
def f15r7 : List AOp := [
  ⟨some 35, (.move (.tmp 8)), 3, none⟩,
  ⟨some 36, (.binOp .add 3 (.tmp 35) (.const (.int .i64 1)) 3), 3, none⟩,
  ⟨some 8, (.assign (.tmp 36)), 3, none⟩]
def f15r8 : List AOp := [
  ⟨some 10, (.assign (.const (.int .i64 0))), 3, none⟩]
def f15r9p0 : List AOp := [
  ⟨some 37, (.move (.tmp 10)), 3, none⟩,
  ⟨some 38, (.binOp .gtr 3 (.tmp 37) (.const (.int .i64 0)) 3), 4, none⟩,
  ⟨some 39, (.move (.tmp 38)), 4, none⟩,
  ⟨some 40, (.move (.tmp 8)), 3, some (39, true)⟩,
  ⟨some 41, (.move (.tmp 0)), 9, some (39, true)⟩,
  ⟨some 42, (.call { callee := (.builtin .len), args := #[(.tmp 41)], argTypes := #[9] }), 3, some (39, true)⟩,
  ⟨some 43, (.binOp .lss 3 (.tmp 40) (.tmp 42) 3), 4, some (39, true)⟩,
  ⟨some 44, (.pick (.tmp 39) (.tmp 43) (.const (.bool false))), 4, none⟩]
def f15r9p1 : List AOp := [
  ⟨some 45, (.move (.tmp 44)), 4, none⟩,
  ⟨some 46, (.move (.tmp 0)), 9, some (45, true)⟩,
  ⟨some 47, (.move (.tmp 8)), 3, some (45, true)⟩,
  ⟨some 48, (.index 9 (.tmp 46) (.tmp 47)), 5, some (45, true)⟩,
  ⟨some 49, (.binOp .eql 5 (.tmp 48) (.const (.int .u8 93)) 5), 4, some (45, true)⟩,
  ⟨some 50, (.pick (.tmp 45) (.tmp 49) (.const (.bool false))), 4, none⟩]
def f15r9 : List AOp := f15r9p0 ++ f15r9p1
def f15r10 : List AOp := [
  ⟨some 52, (.move (.tmp 0)), 9, none⟩,
  ⟨some 53, (.move (.tmp 8)), 3, none⟩,
  ⟨some 54, (.slice 9 (.tmp 52) (some (.tmp 53)) none none), 9, none⟩,
  ⟨some 55, (.call { callee := (.value (.func 27)), args := #[(.tmp 54)], argTypes := #[9] }), 63, none⟩,
  ⟨some 51, (.move (.tmp 55)), 63, none⟩,
  ⟨some 56, (.extract (.tmp 51) 0), 36, none⟩,
  ⟨some 57, (.extract (.tmp 51) 1), 3, none⟩,
  ⟨some 11, (.alloc 36), 0, none⟩,
  ⟨none, (.store 36 (.tmp 11) (.tmp 56)), 0, none⟩,
  ⟨some 12, (.assign (.tmp 57)), 3, none⟩]
def f15r11 : List AOp := [
  ⟨some 58, (.move (.tmp 12)), 3, none⟩,
  ⟨some 59, (.binOp .eql 3 (.tmp 58) (.const (.int .i64 0)) 3), 4, none⟩]
def f15r12 : List AOp := [
  ⟨some 60, (.build 36 #[]), 36, none⟩,
  ⟨none, (.store 36 (.tmp 4) (.tmp 60)), 0, none⟩,
  ⟨some 5, (.assign (.const (.int .i64 0))), 3, none⟩,
  ⟨some 6, (.assign (.const (.int .i64 3))), 23, none⟩]
def f15r13 : List AOp := [
  ⟨some 61, (.load 36 (.tmp 7)), 36, none⟩,
  ⟨some 62, (.load 36 (.tmp 11)), 36, none⟩,
  ⟨some 63, (.call { callee := (.value (.func 21)), args := #[(.tmp 61), (.tmp 62)], argTypes := #[36, 36] }), 36, none⟩,
  ⟨some 64, (.move (.tmp 8)), 3, none⟩,
  ⟨some 65, (.move (.tmp 12)), 3, none⟩,
  ⟨some 66, (.binOp .add 3 (.tmp 64) (.tmp 65) 3), 3, none⟩,
  ⟨none, (.store 36 (.tmp 7) (.tmp 63)), 0, none⟩,
  ⟨some 8, (.assign (.tmp 66)), 3, none⟩]
def f15r14 : List AOp := [
  ⟨some 67, (.move (.tmp 10)), 3, none⟩,
  ⟨some 68, (.binOp .add 3 (.tmp 67) (.const (.int .i64 1)) 3), 3, none⟩,
  ⟨some 10, (.assign (.tmp 68)), 3, none⟩]
def f15b0 : AC := (.block 1 (.seq (.seq (.ops false f15r9) (.cond (.tmp 50) (.exit 0) .skip)) (.seq (.ops false f15r10) (.seq (.seq (.ops false f15r11) (.cond (.tmp 59) (.seq (.ops false f15r12) .ret) .skip)) (.seq (.ops false f15r13) (.ops false f15r14))))))
def f15r15 : List AOp := [
  ⟨some 69, (.move (.tmp 9)), 4, none⟩]
def f15r16 : List AOp := [
  ⟨some 70, (.load 36 (.tmp 7)), 36, none⟩,
  ⟨some 71, (.call { callee := (.value (.func 25)), args := #[(.tmp 70)], argTypes := #[36] }), 36, none⟩,
  ⟨none, (.store 36 (.tmp 7) (.tmp 71)), 0, none⟩]
def f15r17 : List AOp := [
  ⟨some 72, (.load 36 (.tmp 7)), 36, none⟩,
  ⟨some 73, (.move (.tmp 8)), 3, none⟩,
  ⟨some 74, (.binOp .add 3 (.tmp 73) (.const (.int .i64 1)) 3), 3, none⟩,
  ⟨none, (.store 36 (.tmp 4) (.tmp 72)), 0, none⟩,
  ⟨some 5, (.assign (.tmp 74)), 3, none⟩,
  ⟨some 6, (.assign (.const (.int .i64 0))), 23, none⟩]
def f15 : AFun := ⟨75, [(.cell 4 36), (.tmp 5), (.tmp 6)], (.seq (.ops false f15r0) (.scope (.seq (.seq (.ops false f15r1) (.cond (.tmp 26) (.seq (.ops false f15r2) .ret) .skip)) (.seq (.ops false f15r3) (.seq (.ops false f15r4) (.seq (.ops false f15r5) (.seq (.seq (.ops false f15r6) (.cond (.tmp 34) (.ops false f15r7) .skip)) (.seq (.ops false f15r8) (.seq .skip (.seq (.block 0 (.loop [0, 4, 7, 8, 9, 10] f15b0)) (.seq (.seq (.ops false f15r15) (.cond (.tmp 69) (.ops false f15r16) .skip)) (.seq (.ops false f15r17) .ret))))))))))))⟩

-- clew/clewref06.Class
def f16r0 : List AOp := [
  ⟨some 4, (.alloc 34), 0, none⟩,
  ⟨some 5, (.assign (.const (.int .i64 0))), 3, none⟩,
  ⟨some 6, (.assign (.const (.int .i64 0))), 23, none⟩]
def f16r1 : List AOp := [
  ⟨some 20, (.build 34 #[]), 34, none⟩,
  ⟨some 7, (.alloc 34), 0, none⟩,
  ⟨none, (.store 34 (.tmp 7) (.tmp 20)), 0, none⟩]
def f16r2p0 : List AOp := [
  ⟨some 21, (.move (.tmp 1)), 3, none⟩,
  ⟨some 22, (.binOp .lss 3 (.tmp 21) (.const (.int .i64 0)) 3), 4, none⟩,
  ⟨some 23, (.move (.tmp 22)), 4, none⟩,
  ⟨some 24, (.move (.tmp 1)), 3, some (23, false)⟩,
  ⟨some 25, (.move (.tmp 0)), 9, some (23, false)⟩,
  ⟨some 26, (.call { callee := (.builtin .len), args := #[(.tmp 25)], argTypes := #[9] }), 3, some (23, false)⟩,
  ⟨some 27, (.binOp .geq 3 (.tmp 24) (.tmp 26) 3), 4, some (23, false)⟩,
  ⟨some 28, (.pick (.tmp 23) (.const (.bool true)) (.tmp 27)), 4, none⟩]
def f16r2p1 : List AOp := [
  ⟨some 29, (.move (.tmp 28)), 4, none⟩,
  ⟨some 30, (.move (.tmp 0)), 9, some (29, false)⟩,
  ⟨some 31, (.move (.tmp 1)), 3, some (29, false)⟩,
  ⟨some 32, (.index 9 (.tmp 30) (.tmp 31)), 5, some (29, false)⟩,
  ⟨some 33, (.binOp .neq 5 (.tmp 32) (.const (.int .u8 91)) 5), 4, some (29, false)⟩,
  ⟨some 34, (.pick (.tmp 29) (.const (.bool true)) (.tmp 33)), 4, none⟩]
def f16r2 : List AOp := f16r2p0 ++ f16r2p1
def f16r3 : List AOp := [
  ⟨some 35, (.load 34 (.tmp 7)), 34, none⟩,
  ⟨none, (.store 34 (.tmp 4) (.tmp 35)), 0, none⟩,
  ⟨some 5, (.assign (.const (.int .i64 0))), 3, none⟩,
  ⟨some 6, (.assign (.const (.int .i64 1))), 23, none⟩]
def f16r4 : List AOp := [
  ⟨some 36, (.move (.tmp 0)), 9, none⟩,
  ⟨some 37, (.move (.tmp 1)), 3, none⟩,
  ⟨some 38, (.binOp .add 3 (.tmp 37) (.const (.int .i64 1)) 3), 3, none⟩,
  ⟨some 39, (.call { callee := (.value (.func 28)), args := #[(.tmp 36), (.tmp 38), (.const (.string { data := #[94] }))], argTypes := #[9, 3, 9] }), 4, none⟩,
  ⟨some 8, (.assign (.tmp 39)), 4, none⟩]
def f16r5 : List AOp := [
  ⟨some 40, (.move (.tmp 1)), 3, none⟩,
  ⟨some 41, (.binOp .add 3 (.tmp 40) (.const (.int .i64 1)) 3), 3, none⟩,
  ⟨some 42, (.build 68 #[]), 68, none⟩,
  ⟨some 10, (.alloc 68), 0, none⟩,
  ⟨some 9, (.assign (.tmp 41)), 3, none⟩,
  ⟨none, (.store 68 (.tmp 10) (.tmp 42)), 0, none⟩,
  ⟨some 11, (.assign (.const (.int .i64 0))), 3, none⟩]
def f16r6 : List AOp := [
  ⟨some 43, (.move (.tmp 8)), 4, none⟩]
def f16r7 : List AOp := [
  ⟨some 44, (.move (.tmp 9)), 3, none⟩,
  ⟨some 45, (.binOp .add 3 (.tmp 44) (.const (.int .i64 1)) 3), 3, none⟩,
  ⟨some 9, (.assign (.tmp 45)), 3, none⟩]
def f16r8 : List AOp := [
  ⟨some 46, (.move (.tmp 11)), 3, none⟩,
  ⟨some 47, (.binOp .eql 3 (.tmp 46) (.const (.int .i64 0)) 3), 4, none⟩,
  ⟨some 48, (.move (.tmp 47)), 4, none⟩,
  ⟨some 49, (.move (.tmp 0)), 9, some (48, false)⟩,
  ⟨some 50, (.move (.tmp 9)), 3, some (48, false)⟩,
  ⟨some 51, (.call { callee := (.value (.func 28)), args := #[(.tmp 49), (.tmp 50), (.const (.string { data := #[93] }))], argTypes := #[9, 3, 9] }), 4, some (48, false)⟩,
  ⟨some 52, (.unOp .not 4 (.tmp 51)), 4, some (48, false)⟩,
  ⟨some 53, (.pick (.tmp 48) (.const (.bool true)) (.tmp 52)), 4, none⟩]
def f16r9 : List AOp := [
  ⟨some 55, (.move (.tmp 0)), 9, none⟩,
  ⟨some 56, (.move (.tmp 9)), 3, none⟩,
  ⟨some 57, (.call { callee := (.value (.func 29)), args := #[(.tmp 55), (.tmp 56)], argTypes := #[9, 3] }), 69, none⟩,
  ⟨some 54, (.move (.tmp 57)), 69, none⟩,
  ⟨some 58, (.extract (.tmp 54) 0), 68, none⟩,
  ⟨some 59, (.extract (.tmp 54) 1), 3, none⟩,
  ⟨some 12, (.alloc 68), 0, none⟩,
  ⟨none, (.store 68 (.tmp 12) (.tmp 58)), 0, none⟩,
  ⟨some 13, (.assign (.tmp 59)), 3, none⟩]
def f16r10 : List AOp := [
  ⟨some 60, (.move (.tmp 13)), 3, none⟩,
  ⟨some 61, (.binOp .eql 3 (.tmp 60) (.const (.int .i64 0)) 3), 4, none⟩]
def f16r11 : List AOp := [
  ⟨some 62, (.load 34 (.tmp 7)), 34, none⟩,
  ⟨none, (.store 34 (.tmp 4) (.tmp 62)), 0, none⟩,
  ⟨some 5, (.assign (.const (.int .i64 0))), 3, none⟩,
  ⟨some 6, (.assign (.const (.int .i64 3))), 23, none⟩]
def f16r12 : List AOp := [
  ⟨some 63, (.move (.tmp 0)), 9, none⟩,
  ⟨some 64, (.move (.tmp 13)), 3, none⟩,
  ⟨some 65, (.call { callee := (.value (.func 28)), args := #[(.tmp 63), (.tmp 64), (.const (.string { data := #[45] }))], argTypes := #[9, 3, 9] }), 4, none⟩]
def f16r13 : List AOp := [
  ⟨some 67, (.move (.tmp 0)), 9, none⟩,
  ⟨some 68, (.move (.tmp 13)), 3, none⟩,
  ⟨some 69, (.binOp .add 3 (.tmp 68) (.const (.int .i64 1)) 3), 3, none⟩,
  ⟨some 70, (.call { callee := (.value (.func 29)), args := #[(.tmp 67), (.tmp 69)], argTypes := #[9, 3] }), 69, none⟩,
  ⟨some 66, (.move (.tmp 70)), 69, none⟩,
  ⟨some 71, (.extract (.tmp 66) 0), 68, none⟩,
  ⟨some 72, (.extract (.tmp 66) 1), 3, none⟩,
  ⟨some 14, (.alloc 68), 0, none⟩,
  ⟨none, (.store 68 (.tmp 14) (.tmp 71)), 0, none⟩,
  ⟨some 15, (.assign (.tmp 72)), 3, none⟩]
def f16r14 : List AOp := [
  ⟨some 74, (.load 68 (.tmp 12)), 68, none⟩,
  ⟨some 75, (.call { callee := (.value (.func 30)), args := #[(.tmp 74)], argTypes := #[68] }), 71, none⟩,
  ⟨some 73, (.move (.tmp 75)), 71, none⟩,
  ⟨some 76, (.extract (.tmp 73) 0), 5, none⟩,
  ⟨some 77, (.extract (.tmp 73) 1), 4, none⟩,
  ⟨some 16, (.assign (.tmp 76)), 5, none⟩,
  ⟨some 17, (.assign (.tmp 77)), 4, none⟩]
def f16r15 : List AOp := [
  ⟨some 79, (.load 68 (.tmp 14)), 68, none⟩,
  ⟨some 80, (.call { callee := (.value (.func 30)), args := #[(.tmp 79)], argTypes := #[68] }), 71, none⟩,
  ⟨some 78, (.move (.tmp 80)), 71, none⟩,
  ⟨some 81, (.extract (.tmp 78) 0), 5, none⟩,
  ⟨some 82, (.extract (.tmp 78) 1), 4, none⟩,
  ⟨some 18, (.assign (.tmp 81)), 5, none⟩,
  ⟨some 19, (.assign (.tmp 82)), 4, none⟩]
def f16r16p0 : List AOp := [
  ⟨some 83, (.move (.tmp 15)), 3, none⟩,
  ⟨some 84, (.binOp .eql 3 (.tmp 83) (.const (.int .i64 0)) 3), 4, none⟩,
  ⟨some 85, (.move (.tmp 84)), 4, none⟩,
  ⟨some 86, (.load 68 (.tmp 12)), 68, some (85, false)⟩,
  ⟨some 87, (.call { callee := (.value (.func 31)), args := #[(.tmp 86)], argTypes := #[68] }), 3, some (85, false)⟩,
  ⟨some 88, (.binOp .neq 3 (.tmp 87) (.const (.int .i64 1)) 3), 4, some (85, false)⟩,
  ⟨some 89, (.pick (.tmp 85) (.const (.bool true)) (.tmp 88)), 4, none⟩]
def f16r16p1 : List AOp := [
  ⟨some 90, (.move (.tmp 89)), 4, none⟩,
  ⟨some 91, (.load 68 (.tmp 14)), 68, some (90, false)⟩,
  ⟨some 92, (.call { callee := (.value (.func 31)), args := #[(.tmp 91)], argTypes := #[68] }), 3, some (90, false)⟩,
  ⟨some 93, (.binOp .neq 3 (.tmp 92) (.const (.int .i64 1)) 3), 4, some (90, false)⟩,
  ⟨some 94, (.pick (.tmp 90) (.const (.bool true)) (.tmp 93)), 4, none⟩]
def f16r16p2 : List AOp := [
  ⟨some 95, (.move (.tmp 94)), 4, none⟩,
  ⟨some 96, (.move (.tmp 18)), 5, some (95, false)⟩,
  ⟨some 97, (.move (.tmp 16)), 5, some (95, false)⟩,
  ⟨some 98, (.binOp .lss 5 (.tmp 96) (.tmp 97) 5), 4, some (95, false)⟩,
  ⟨some 99, (.pick (.tmp 95) (.const (.bool true)) (.tmp 98)), 4, none⟩]
def f16r16 : List AOp := f16r16p0 ++ (f16r16p1 ++ f16r16p2)
def f16r17 : List AOp := [
  ⟨some 100, (.load 34 (.tmp 7)), 34, none⟩,
  ⟨none, (.store 34 (.tmp 4) (.tmp 100)), 0, none⟩,
  ⟨some 5, (.assign (.const (.int .i64 0))), 3, none⟩,
  ⟨some 6, (.assign (.const (.int .i64 3))), 23, none⟩]
def f16r18 : List AOp := [
  ⟨some 101, (.move (.tmp 16)), 5, none⟩,
  ⟨some 102, (.move (.tmp 18)), 5, none⟩,
  ⟨some 103, (.call { callee := (.value (.func 32)), args := #[(.tmp 101), (.tmp 102)], argTypes := #[5, 5] }), 68, none⟩,
  ⟨none, (.store 68 (.tmp 12) (.tmp 103)), 0, none⟩]
def f16r19 : List AOp := [
  ⟨some 104, (.move (.tmp 15)), 3, none⟩,
  ⟨some 13, (.assign (.tmp 104)), 3, none⟩]
def f16r20 : List AOp := [
  ⟨some 105, (.load 68 (.tmp 10)), 68, none⟩,
  ⟨some 106, (.load 68 (.tmp 12)), 68, none⟩,
  ⟨some 107, (.call { callee := (.value (.func 33)), args := #[(.tmp 105), (.tmp 106)], argTypes := #[68, 68] }), 68, none⟩,
  ⟨none, (.store 68 (.tmp 10) (.tmp 107)), 0, none⟩]
def f16r21 : List AOp := [
  ⟨some 108, (.move (.tmp 13)), 3, none⟩,
  ⟨some 9, (.assign (.tmp 108)), 3, none⟩]
def f16r22 : List AOp := [
  ⟨some 109, (.move (.tmp 11)), 3, none⟩,
  ⟨some 110, (.binOp .add 3 (.tmp 109) (.const (.int .i64 1)) 3), 3, none⟩,
  ⟨some 11, (.assign (.tmp 110)), 3, none⟩]
def f16b0 : AC := (.seq (.seq (.ops false f16r8) (.cond (.tmp 53) .skip (.exit 0))) (.block 1 (.seq (.ops false f16r9) (.seq (.seq (.ops false f16r10) (.cond (.tmp 61) (.seq (.ops false f16r11) .ret) .skip)) (.seq (.seq (.ops false f16r12) (.cond (.tmp 65) (.seq (.ops false f16r13) (.seq (.ops false f16r14) (.seq (.ops false f16r15) (.seq (.seq (.ops false f16r16) (.cond (.tmp 99) (.seq (.ops false f16r17) .ret) .skip)) (.seq (.ops false f16r18) (.ops false f16r19)))))) .skip)) (.seq (.ops false f16r20) (.seq (.ops false f16r21) (.ops false f16r22))))))))
def f16r23 : List AOp := [
  ⟨some 111, (.move (.tmp 8)), 4, none⟩]
def f16r24 : List AOp := [
  ⟨some 112, (.load 68 (.tmp 10)), 68, none⟩,
  ⟨some 113, (.call { callee := (.value (.func 34)), args := #[(.tmp 112)], argTypes := #[68] }), 68, none⟩,
  ⟨none, (.store 68 (.tmp 10) (.tmp 113)), 0, none⟩]
def f16r25 : List AOp := [
  ⟨some 114, (.load 68 (.tmp 10)), 68, none⟩,
  ⟨some 115, (.call { callee := (.value (.func 35)), args := #[(.tmp 114)], argTypes := #[68] }), 34, none⟩,
  ⟨some 116, (.move (.tmp 9)), 3, none⟩,
  ⟨some 117, (.binOp .add 3 (.tmp 116) (.const (.int .i64 1)) 3), 3, none⟩,
  ⟨none, (.store 34 (.tmp 4) (.tmp 115)), 0, none⟩,
  ⟨some 5, (.assign (.tmp 117)), 3, none⟩,
  ⟨some 6, (.assign (.const (.int .i64 0))), 23, none⟩]
def f16 : AFun := ⟨118, [(.cell 4 34), (.tmp 5), (.tmp 6)], (.seq (.ops false f16r0) (.seq (.ops false f16r1) (.seq (.seq (.ops false f16r2) (.cond (.tmp 34) (.seq (.ops false f16r3) .ret) .skip)) (.seq (.ops false f16r4) (.seq (.ops false f16r5) (.seq (.seq (.ops false f16r6) (.cond (.tmp 43) (.ops false f16r7) .skip)) (.seq (.block 0 (.loop [0, 4, 7, 8, 9, 10, 11] f16b0)) (.seq (.seq (.ops false f16r23) (.cond (.tmp 111) (.ops false f16r24) .skip)) (.seq (.ops false f16r25) .ret)))))))))⟩

-- clew/class.One
def f17r0 : List AOp := [
  ⟨some 2, (.alloc 36), 0, none⟩]
def f17r1 : List AOp := [
  ⟨some 3, (.alloc 36), 0, none⟩]
def f17r2 : List AOp := [
  ⟨some 4, (.move (.tmp 0)), 5, none⟩,
  ⟨some 5, (.call { callee := (.value (.func 36)), args := #[(.tmp 3), (.tmp 4)], argTypes := #[36, 5] }), 0, none⟩]
def f17r3 : List AOp := [
  ⟨some 6, (.load 36 (.tmp 3)), 36, none⟩,
  ⟨none, (.store 36 (.tmp 2) (.tmp 6)), 0, none⟩]
def f17 : AFun := ⟨7, [(.cell 2 36)], (.seq (.ops false f17r0) (.seq (.ops false f17r1) (.seq (.ops false f17r2) (.seq (.ops false f17r3) .ret))))⟩

-- clew/class.Of
def f18r0 : List AOp := [
  ⟨some 2, (.alloc 36), 0, none⟩]
def f18r1 : List AOp := [
  ⟨some 3, (.alloc 36), 0, none⟩]
def f18r2 : List AOp := [
  ⟨some 6, (.move (.tmp 0)), 9, none⟩,
  ⟨some 7, (.convert 9 43 (.tmp 6)), 43, none⟩,
  ⟨some 8, (.call { callee := (.builtin .len), args := #[(.tmp 7)], argTypes := #[43] }), 3, none⟩,
  ⟨some 9, (.move (.const (.int .i64 0))), 3, none⟩]
def f18r3 : List AOp := [
  ⟨some 10, (.binOp .lss 3 (.tmp 9) (.tmp 8) 3), 0, none⟩]
def f18r4 : List AOp := [
  ⟨some 11, (.indexAddr 43 (.tmp 7) (.tmp 9)), 0, none⟩,
  ⟨some 12, (.load 5 (.tmp 11)), 5, none⟩,
  ⟨some 5, (.assign (.tmp 12)), 5, none⟩]
def f18r5 : List AOp := [
  ⟨some 13, (.move (.tmp 5)), 5, none⟩,
  ⟨some 14, (.call { callee := (.value (.func 36)), args := #[(.tmp 3), (.tmp 13)], argTypes := #[36, 5] }), 0, none⟩]
def f18r6 : List AOp := [
  ⟨some 15, (.binOp .add 3 (.tmp 9) (.const (.int .i64 1)) 3), 3, none⟩,
  ⟨some 9, (.move (.tmp 15)), 3, none⟩]
def f18b0 : AC := (.seq (.ops false f18r3) (.seq (.cond (.tmp 10) .skip (.exit 0)) (.seq (.block 1 (.seq (.ops false f18r4) (.ops false f18r5))) (.ops false f18r6))))
def f18r7 : List AOp := [
  ⟨some 16, (.load 36 (.tmp 3)), 36, none⟩,
  ⟨none, (.store 36 (.tmp 2) (.tmp 16)), 0, none⟩]
def f18 : AFun := ⟨17, [(.cell 2 36)], (.seq (.ops false f18r0) (.seq (.ops false f18r1) (.seq (.seq (.ops false f18r2) (.block 0 (.loop [2, 3, 7, 8, 9] f18b0))) (.seq (.ops false f18r7) .ret))))⟩

-- (clew/class.Set).Has
def f19r0 : List AOp := [
  ⟨some 2, (.box 36 (.tmp 0)), 0, none⟩,
  ⟨some 4, (.assign (.const (.bool false))), 4, none⟩]
def f19r1 : List AOp := [
  ⟨some 5, (.move (.tmp 1)), 5, none⟩,
  ⟨some 6, (.binOp .quo 5 (.tmp 5) (.const (.int .u8 64)) 5), 5, none⟩,
  ⟨some 7, (.fieldAddr 36 (.tmp 2) 0), 0, none⟩,
  ⟨some 8, (.indexAddr 34 (.tmp 7) (.tmp 6)), 0, none⟩,
  ⟨some 9, (.load 33 (.tmp 8)), 33, none⟩,
  ⟨some 10, (.move (.tmp 1)), 5, none⟩,
  ⟨some 11, (.binOp .rem 5 (.tmp 10) (.const (.int .u8 64)) 5), 5, none⟩,
  ⟨some 12, (.binOp .shr 33 (.tmp 9) (.tmp 11) 5), 33, none⟩,
  ⟨some 13, (.binOp .and 33 (.tmp 12) (.const (.int .u64 1)) 33), 33, none⟩,
  ⟨some 14, (.binOp .eql 33 (.tmp 13) (.const (.int .u64 1)) 33), 4, none⟩,
  ⟨some 4, (.assign (.tmp 14)), 4, none⟩]
def f19 : AFun := ⟨15, [(.tmp 4)], (.seq (.ops false f19r0) (.seq (.ops false f19r1) .ret))⟩

-- clew/class.Range
def f20r0 : List AOp := [
  ⟨some 4, (.alloc 36), 0, none⟩]
def f20r1 : List AOp := [
  ⟨some 5, (.alloc 36), 0, none⟩]
def f20r2 : List AOp := [
  ⟨some 7, (.move (.tmp 0)), 5, none⟩,
  ⟨some 8, (.convert 5 3 (.tmp 7)), 3, none⟩,
  ⟨some 6, (.assign (.tmp 8)), 3, none⟩]
def f20r3 : List AOp := [
  ⟨some 9, (.move (.tmp 6)), 3, none⟩,
  ⟨some 10, (.move (.tmp 1)), 5, none⟩,
  ⟨some 11, (.convert 5 3 (.tmp 10)), 3, none⟩,
  ⟨some 12, (.binOp .leq 3 (.tmp 9) (.tmp 11) 3), 4, none⟩]
def f20r5 : List AOp := [
  ⟨some 15, (.move (.tmp 6)), 3, none⟩,
  ⟨some 16, (.convert 3 5 (.tmp 15)), 5, none⟩,
  ⟨some 17, (.call { callee := (.value (.func 36)), args := #[(.tmp 5), (.tmp 16)], argTypes := #[36, 5] }), 0, none⟩]
def f20r4 : List AOp := [
  ⟨some 13, (.move (.tmp 6)), 3, none⟩,
  ⟨some 14, (.binOp .add 3 (.tmp 13) (.const (.int .i64 1)) 3), 3, none⟩,
  ⟨some 6, (.assign (.tmp 14)), 3, none⟩]
def f20b0 : AC := (.seq (.seq (.ops false f20r3) (.cond (.tmp 12) .skip (.exit 0))) (.seq (.block 1 (.ops false f20r5)) (.ops false f20r4)))
def f20r6 : List AOp := [
  ⟨some 18, (.load 36 (.tmp 5)), 36, none⟩,
  ⟨none, (.store 36 (.tmp 4) (.tmp 18)), 0, none⟩]
def f20 : AFun := ⟨19, [(.cell 4 36)], (.seq (.ops false f20r0) (.seq (.ops false f20r1) (.seq (.seq (.ops false f20r2) (.block 0 (.loop [1, 4, 5, 6] f20b0))) (.seq (.ops false f20r6) .ret))))⟩

-- (clew/class.Set).Or
def f21r0 : List AOp := [
  ⟨some 2, (.box 36 (.tmp 0)), 0, none⟩,
  ⟨some 3, (.box 36 (.tmp 1)), 0, none⟩,
  ⟨some 4, (.alloc 36), 0, none⟩]
def f21r1 : List AOp := [
  ⟨some 6, (.move (.const (.int .i64 0))), 3, none⟩]
def f21r2 : List AOp := [
  ⟨some 7, (.binOp .lss 3 (.tmp 6) (.const (.int .i64 4)) 3), 0, none⟩]
def f21r3 : List AOp := [
  ⟨some 8, (.move (.tmp 6)), 3, none⟩,
  ⟨some 5, (.assign (.tmp 8)), 3, none⟩]
def f21r4 : List AOp := [
  ⟨some 9, (.move (.tmp 5)), 3, none⟩,
  ⟨some 10, (.fieldAddr 36 (.tmp 2) 0), 0, none⟩,
  ⟨some 11, (.indexAddr 34 (.tmp 10) (.tmp 9)), 0, none⟩,
  ⟨some 12, (.load 33 (.tmp 11)), 33, none⟩,
  ⟨some 13, (.move (.tmp 5)), 3, none⟩,
  ⟨some 14, (.fieldAddr 36 (.tmp 3) 0), 0, none⟩,
  ⟨some 15, (.indexAddr 34 (.tmp 14) (.tmp 13)), 0, none⟩,
  ⟨some 16, (.load 33 (.tmp 15)), 33, none⟩,
  ⟨some 17, (.binOp .or 33 (.tmp 12) (.tmp 16) 33), 33, none⟩,
  ⟨some 18, (.fieldAddr 36 (.tmp 2) 0), 0, none⟩,
  ⟨some 19, (.indexAddr 34 (.tmp 18) (.tmp 9)), 0, none⟩,
  ⟨none, (.store 33 (.tmp 19) (.tmp 17)), 0, none⟩]
def f21r5 : List AOp := [
  ⟨some 20, (.binOp .add 3 (.tmp 6) (.const (.int .i64 1)) 3), 3, none⟩,
  ⟨some 6, (.move (.tmp 20)), 3, none⟩]
def f21b0 : AC := (.seq (.ops false f21r2) (.seq (.cond (.tmp 7) .skip (.exit 0)) (.seq (.block 1 (.seq (.ops false f21r3) (.ops true f21r4))) (.ops false f21r5))))
def f21r6 : List AOp := [
  ⟨some 21, (.load 36 (.tmp 2)), 36, none⟩,
  ⟨none, (.store 36 (.tmp 4) (.tmp 21)), 0, none⟩]
def f21 : AFun := ⟨22, [(.cell 4 36)], (.seq (.ops false f21r0) (.seq (.seq (.ops false f21r1) (.block 0 (.loop [2, 3, 4, 6] f21b0))) (.seq (.ops false f21r6) .ret)))⟩

-- clew/lex.token
def f23r0 : List AOp := [
  ⟨some 2, (.alloc 46), 0, none⟩,
  ⟨some 3, (.assign (.const (.int .i64 0))), 3, none⟩,
  ⟨some 4, (.assign (.const (.int .i64 0))), 23, none⟩]
def f23r1 : List AOp := [
  ⟨some 11, (.move (.tmp 0)), 9, none⟩,
  ⟨some 12, (.index 9 (.tmp 11) (.const (.int .i64 0))), 5, none⟩,
  ⟨some 13, (.call { callee := (.value (.func 37)), args := #[(.tmp 12)], argTypes := #[5] }), 79, none⟩,
  ⟨some 10, (.move (.tmp 13)), 79, none⟩,
  ⟨some 14, (.extract (.tmp 10) 0), 3, none⟩,
  ⟨some 15, (.extract (.tmp 10) 1), 4, none⟩,
  ⟨some 5, (.assign (.tmp 14)), 3, none⟩,
  ⟨some 6, (.assign (.tmp 15)), 4, none⟩]
def f23r2 : List AOp := [
  ⟨some 16, (.move (.tmp 6)), 4, none⟩]
def f23r3 : List AOp := [
  ⟨some 17, (.move (.tmp 5)), 3, none⟩,
  ⟨some 18, (.build 46 #[(0, (.tmp 17))]), 46, none⟩,
  ⟨none, (.store 46 (.tmp 2) (.tmp 18)), 0, none⟩,
  ⟨some 3, (.assign (.const (.int .i64 1))), 3, none⟩,
  ⟨some 4, (.assign (.const (.int .i64 0))), 23, none⟩]
def f23r4 : List AOp := [
  ⟨some 19, (.move (.tmp 0)), 9, none⟩,
  ⟨some 20, (.index 9 (.tmp 19) (.const (.int .i64 0))), 5, none⟩]
def f23r5 : List AOp := [
  ⟨some 22, (.binOp .eql 5 (.tmp 20) (.const (.int .u8 40)) 5), 4, none⟩,
  ⟨some 21, (.assign (.tmp 22)), 4, none⟩]
def f23r6 : List AOp := [
  ⟨some 24, (.binOp .eql 5 (.tmp 20) (.const (.int .u8 42)) 5), 4, none⟩,
  ⟨some 23, (.assign (.tmp 24)), 4, none⟩]
def f23r7 : List AOp := [
  ⟨some 25, (.binOp .eql 5 (.tmp 20) (.const (.int .u8 43)) 5), 4, none⟩,
  ⟨some 23, (.assign (.tmp 25)), 4, none⟩]
def f23r8 : List AOp := [
  ⟨some 26, (.binOp .eql 5 (.tmp 20) (.const (.int .u8 63)) 5), 4, none⟩,
  ⟨some 23, (.assign (.tmp 26)), 4, none⟩]
def f23r9 : List AOp := [
  ⟨some 27, (.binOp .eql 5 (.tmp 20) (.const (.int .u8 123)) 5), 4, none⟩,
  ⟨some 23, (.assign (.tmp 27)), 4, none⟩]
def f23r10 : List AOp := [
  ⟨some 29, (.binOp .eql 5 (.tmp 20) (.const (.int .u8 91)) 5), 4, none⟩,
  ⟨some 28, (.assign (.tmp 29)), 4, none⟩]
def f23r11 : List AOp := [
  ⟨some 31, (.binOp .eql 5 (.tmp 20) (.const (.int .u8 92)) 5), 4, none⟩,
  ⟨some 30, (.assign (.tmp 31)), 4, none⟩]
def f23r12 : List AOp := [
  ⟨some 33, (.binOp .eql 5 (.tmp 20) (.const (.int .u8 93)) 5), 4, none⟩,
  ⟨some 32, (.assign (.tmp 33)), 4, none⟩]
def f23r13 : List AOp := [
  ⟨some 35, (.binOp .eql 5 (.tmp 20) (.const (.int .u8 125)) 5), 4, none⟩,
  ⟨some 34, (.assign (.tmp 35)), 4, none⟩]
def f23r14 : List AOp := [
  ⟨some 36, (.move (.tmp 0)), 9, none⟩,
  ⟨some 37, (.call { callee := (.value (.func 38)), args := #[(.tmp 36)], argTypes := #[9] }), 56, none⟩,
  ⟨some 38, (.extract (.tmp 37) 0), 46, none⟩,
  ⟨some 39, (.extract (.tmp 37) 1), 3, none⟩,
  ⟨some 40, (.extract (.tmp 37) 2), 23, none⟩,
  ⟨none, (.store 46 (.tmp 2) (.tmp 38)), 0, none⟩,
  ⟨some 3, (.assign (.tmp 39)), 3, none⟩,
  ⟨some 4, (.assign (.tmp 40)), 23, none⟩]
def f23r15 : List AOp := [
  ⟨some 41, (.move (.tmp 0)), 9, none⟩,
  ⟨some 42, (.call { callee := (.value (.func 39)), args := #[(.tmp 41)], argTypes := #[9] }), 56, none⟩,
  ⟨some 43, (.extract (.tmp 42) 0), 46, none⟩,
  ⟨some 44, (.extract (.tmp 42) 1), 3, none⟩,
  ⟨some 45, (.extract (.tmp 42) 2), 23, none⟩,
  ⟨none, (.store 46 (.tmp 2) (.tmp 43)), 0, none⟩,
  ⟨some 3, (.assign (.tmp 44)), 3, none⟩,
  ⟨some 4, (.assign (.tmp 45)), 23, none⟩]
def f23r16 : List AOp := [
  ⟨some 47, (.move (.tmp 0)), 9, none⟩,
  ⟨some 48, (.call { callee := (.value (.func 15)), args := #[(.tmp 47), (.const (.int .i64 0))], argTypes := #[9, 3] }), 37, none⟩,
  ⟨some 46, (.move (.tmp 48)), 37, none⟩,
  ⟨some 49, (.extract (.tmp 46) 0), 36, none⟩,
  ⟨some 50, (.extract (.tmp 46) 1), 3, none⟩,
  ⟨some 51, (.extract (.tmp 46) 2), 23, none⟩,
  ⟨some 7, (.alloc 36), 0, none⟩,
  ⟨none, (.store 36 (.tmp 7) (.tmp 49)), 0, none⟩,
  ⟨some 8, (.assign (.tmp 50)), 3, none⟩,
  ⟨some 9, (.assign (.tmp 51)), 23, none⟩]
def f23r17 : List AOp := [
  ⟨some 52, (.load 36 (.tmp 7)), 36, none⟩,
  ⟨some 53, (.build 46 #[(1, (.tmp 52))]), 46, none⟩,
  ⟨some 54, (.move (.tmp 8)), 3, none⟩,
  ⟨some 55, (.move (.tmp 9)), 23, none⟩,
  ⟨none, (.store 46 (.tmp 2) (.tmp 53)), 0, none⟩,
  ⟨some 3, (.assign (.tmp 54)), 3, none⟩,
  ⟨some 4, (.assign (.tmp 55)), 23, none⟩]
def f23r18 : List AOp := [
  ⟨some 56, (.move (.tmp 0)), 9, none⟩,
  ⟨some 57, (.call { callee := (.value (.func 40)), args := #[(.tmp 56)], argTypes := #[9] }), 56, none⟩,
  ⟨some 58, (.extract (.tmp 57) 0), 46, none⟩,
  ⟨some 59, (.extract (.tmp 57) 1), 3, none⟩,
  ⟨some 60, (.extract (.tmp 57) 2), 23, none⟩,
  ⟨none, (.store 46 (.tmp 2) (.tmp 58)), 0, none⟩,
  ⟨some 3, (.assign (.tmp 59)), 3, none⟩,
  ⟨some 4, (.assign (.tmp 60)), 23, none⟩]
def f23r19 : List AOp := [
  ⟨some 61, (.build 46 #[]), 46, none⟩,
  ⟨none, (.store 46 (.tmp 2) (.tmp 61)), 0, none⟩,
  ⟨some 3, (.assign (.const (.int .i64 0))), 3, none⟩,
  ⟨some 4, (.assign (.const (.int .i64 3))), 23, none⟩]
def f23r20 : List AOp := [
  ⟨some 62, (.move (.tmp 0)), 9, none⟩,
  ⟨some 63, (.index 9 (.tmp 62) (.const (.int .i64 0))), 5, none⟩,
  ⟨some 64, (.call { callee := (.value (.func 17)), args := #[(.tmp 63)], argTypes := #[5] }), 36, none⟩,
  ⟨some 65, (.build 46 #[(1, (.tmp 64))]), 46, none⟩,
  ⟨none, (.store 46 (.tmp 2) (.tmp 65)), 0, none⟩,
  ⟨some 3, (.assign (.const (.int .i64 1))), 3, none⟩,
  ⟨some 4, (.assign (.const (.int .i64 0))), 23, none⟩]
def f23 : AFun := ⟨66, [(.cell 2 46), (.tmp 3), (.tmp 4)], (.seq (.ops false f23r0) (.seq (.seq (.ops false f23r1) (.seq (.ops false f23r2) (.cond (.tmp 16) (.seq (.ops false f23r3) .ret) .skip))) (.seq (.seq (.ops false f23r4) (.block 0 (.seq (.block 6 (.block 5 (.seq (.block 4 (.seq (.block 3 (.seq (.block 2 (.seq (.block 1 (.seq (.seq (.seq (.ops false f23r5) (.cond (.tmp 21) (.exit 1) .skip)) (.seq (.seq (.seq (.ops false f23r6) (.cond (.tmp 23) .skip (.seq (.ops false f23r7) (.cond (.tmp 23) .skip (.seq (.ops false f23r8) (.cond (.tmp 23) .skip (.ops false f23r9))))))) (.cond (.tmp 23) (.exit 2) .skip)) (.seq (.seq (.ops false f23r10) (.cond (.tmp 28) (.exit 3) .skip)) (.seq (.seq (.ops false f23r11) (.cond (.tmp 30) (.exit 4) .skip)) (.seq (.seq (.ops false f23r12) (.cond (.tmp 32) (.exit 5) .skip)) (.seq (.ops false f23r13) (.cond (.tmp 34) (.exit 6) .skip))))))) (.exit 0))) (.seq (.seq (.ops false f23r14) .ret) (.exit 0)))) (.seq (.seq (.ops false f23r15) .ret) (.exit 0)))) (.seq (.seq (.ops false f23r16) (.seq (.ops false f23r17) .ret)) (.exit 0)))) (.seq (.seq (.ops false f23r18) .ret) (.exit 0))))) (.seq (.seq (.ops false f23r19) .ret) (.exit 0))))) (.seq (.ops false f23r20) .ret))))⟩

-- (clew/class.Set).Not
def f25r0 : List AOp := [
  ⟨some 1, (.box 36 (.tmp 0)), 0, none⟩,
  ⟨some 2, (.alloc 36), 0, none⟩]
def f25r1 : List AOp := [
  ⟨some 4, (.move (.const (.int .i64 0))), 3, none⟩]
def f25r2 : List AOp := [
  ⟨some 5, (.binOp .lss 3 (.tmp 4) (.const (.int .i64 4)) 3), 0, none⟩]
def f25r3 : List AOp := [
  ⟨some 6, (.move (.tmp 4)), 3, none⟩,
  ⟨some 3, (.assign (.tmp 6)), 3, none⟩]
def f25r4 : List AOp := [
  ⟨some 7, (.move (.tmp 3)), 3, none⟩,
  ⟨some 8, (.move (.tmp 3)), 3, none⟩,
  ⟨some 9, (.fieldAddr 36 (.tmp 1) 0), 0, none⟩,
  ⟨some 10, (.indexAddr 34 (.tmp 9) (.tmp 8)), 0, none⟩,
  ⟨some 11, (.load 33 (.tmp 10)), 33, none⟩,
  ⟨some 12, (.unOp .xor 33 (.tmp 11)), 33, none⟩,
  ⟨some 13, (.fieldAddr 36 (.tmp 1) 0), 0, none⟩,
  ⟨some 14, (.indexAddr 34 (.tmp 13) (.tmp 7)), 0, none⟩,
  ⟨none, (.store 33 (.tmp 14) (.tmp 12)), 0, none⟩]
def f25r5 : List AOp := [
  ⟨some 15, (.binOp .add 3 (.tmp 4) (.const (.int .i64 1)) 3), 3, none⟩,
  ⟨some 4, (.move (.tmp 15)), 3, none⟩]
def f25b0 : AC := (.seq (.ops false f25r2) (.seq (.cond (.tmp 5) .skip (.exit 0)) (.seq (.block 1 (.seq (.ops false f25r3) (.ops false f25r4))) (.ops false f25r5))))
def f25r6 : List AOp := [
  ⟨some 16, (.load 36 (.tmp 1)), 36, none⟩,
  ⟨none, (.store 36 (.tmp 2) (.tmp 16)), 0, none⟩]
def f25 : AFun := ⟨17, [(.cell 2 36)], (.seq (.ops false f25r0) (.seq (.seq (.ops false f25r1) (.block 0 (.loop [1, 2, 4] f25b0))) (.seq (.ops false f25r6) .ret)))⟩

-- strings.HasPrefix
def f26r0 : List AOp := [
  ⟨some 4, (.assign (.const (.bool false))), 4, none⟩]
def f26r1 : List AOp := [
  ⟨some 5, (.move (.tmp 0)), 9, none⟩,
  ⟨some 6, (.move (.tmp 1)), 9, none⟩,
  ⟨some 7, (.call { callee := (.value (.func 45)), args := #[(.tmp 5), (.tmp 6)], argTypes := #[9, 9] }), 4, none⟩,
  ⟨some 4, (.assign (.tmp 7)), 4, none⟩]
def f26 : AFun := ⟨8, [(.tmp 4)], (.seq (.ops false f26r0) (.seq (.ops false f26r1) .ret))⟩

-- clew/lex.span
def f27r0 : List AOp := [
  ⟨some 2, (.alloc 36), 0, none⟩,
  ⟨some 3, (.assign (.const (.int .i64 0))), 3, none⟩]
def f27r1 : List AOp := [
  ⟨some 13, (.move (.tmp 0)), 9, none⟩,
  ⟨some 14, (.call { callee := (.value (.func 46)), args := #[(.tmp 13)], argTypes := #[9] }), 63, none⟩,
  ⟨some 12, (.move (.tmp 14)), 63, none⟩,
  ⟨some 15, (.extract (.tmp 12) 0), 36, none⟩,
  ⟨some 16, (.extract (.tmp 12) 1), 3, none⟩,
  ⟨some 4, (.alloc 36), 0, none⟩,
  ⟨none, (.store 36 (.tmp 4) (.tmp 15)), 0, none⟩,
  ⟨some 5, (.assign (.tmp 16)), 3, none⟩]
def f27r2p0 : List AOp := [
  ⟨some 17, (.move (.tmp 5)), 3, none⟩,
  ⟨some 18, (.binOp .eql 3 (.tmp 17) (.const (.int .i64 0)) 3), 4, none⟩,
  ⟨some 19, (.move (.tmp 18)), 4, none⟩,
  ⟨some 20, (.move (.tmp 5)), 3, some (19, false)⟩,
  ⟨some 21, (.move (.tmp 0)), 9, some (19, false)⟩,
  ⟨some 22, (.call { callee := (.builtin .len), args := #[(.tmp 21)], argTypes := #[9] }), 3, some (19, false)⟩,
  ⟨some 23, (.binOp .geq 3 (.tmp 20) (.tmp 22) 3), 4, some (19, false)⟩,
  ⟨some 24, (.pick (.tmp 19) (.const (.bool true)) (.tmp 23)), 4, none⟩]
def f27r2p1 : List AOp := [
  ⟨some 25, (.move (.tmp 24)), 4, none⟩,
  ⟨some 26, (.move (.tmp 0)), 9, some (25, false)⟩,
  ⟨some 27, (.move (.tmp 5)), 3, some (25, false)⟩,
  ⟨some 28, (.index 9 (.tmp 26) (.tmp 27)), 5, some (25, false)⟩,
  ⟨some 29, (.binOp .neq 5 (.tmp 28) (.const (.int .u8 45)) 5), 4, some (25, false)⟩,
  ⟨some 30, (.pick (.tmp 25) (.const (.bool true)) (.tmp 29)), 4, none⟩]
def f27r2 : List AOp := f27r2p0 ++ f27r2p1
def f27r3 : List AOp := [
  ⟨some 31, (.load 36 (.tmp 4)), 36, none⟩,
  ⟨some 32, (.move (.tmp 5)), 3, none⟩,
  ⟨none, (.store 36 (.tmp 2) (.tmp 31)), 0, none⟩,
  ⟨some 3, (.assign (.tmp 32)), 3, none⟩]
def f27r4 : List AOp := [
  ⟨some 34, (.move (.tmp 0)), 9, none⟩,
  ⟨some 35, (.move (.tmp 5)), 3, none⟩,
  ⟨some 36, (.binOp .add 3 (.tmp 35) (.const (.int .i64 1)) 3), 3, none⟩,
  ⟨some 37, (.slice 9 (.tmp 34) (some (.tmp 36)) none none), 9, none⟩,
  ⟨some 38, (.call { callee := (.value (.func 46)), args := #[(.tmp 37)], argTypes := #[9] }), 63, none⟩,
  ⟨some 33, (.move (.tmp 38)), 63, none⟩,
  ⟨some 39, (.extract (.tmp 33) 0), 36, none⟩,
  ⟨some 40, (.extract (.tmp 33) 1), 3, none⟩,
  ⟨some 6, (.alloc 36), 0, none⟩,
  ⟨none, (.store 36 (.tmp 6) (.tmp 39)), 0, none⟩,
  ⟨some 7, (.assign (.tmp 40)), 3, none⟩]
def f27r5 : List AOp := [
  ⟨some 42, (.load 36 (.tmp 4)), 36, none⟩,
  ⟨some 43, (.call { callee := (.value (.func 47)), args := #[(.tmp 42)], argTypes := #[36] }), 71, none⟩,
  ⟨some 41, (.move (.tmp 43)), 71, none⟩,
  ⟨some 44, (.extract (.tmp 41) 0), 5, none⟩,
  ⟨some 45, (.extract (.tmp 41) 1), 4, none⟩,
  ⟨some 8, (.assign (.tmp 44)), 5, none⟩,
  ⟨some 9, (.assign (.tmp 45)), 4, none⟩]
def f27r6 : List AOp := [
  ⟨some 47, (.load 36 (.tmp 6)), 36, none⟩,
  ⟨some 48, (.call { callee := (.value (.func 47)), args := #[(.tmp 47)], argTypes := #[36] }), 71, none⟩,
  ⟨some 46, (.move (.tmp 48)), 71, none⟩,
  ⟨some 49, (.extract (.tmp 46) 0), 5, none⟩,
  ⟨some 50, (.extract (.tmp 46) 1), 4, none⟩,
  ⟨some 10, (.assign (.tmp 49)), 5, none⟩,
  ⟨some 11, (.assign (.tmp 50)), 4, none⟩]
def f27r7p0 : List AOp := [
  ⟨some 51, (.move (.tmp 7)), 3, none⟩,
  ⟨some 52, (.binOp .eql 3 (.tmp 51) (.const (.int .i64 0)) 3), 4, none⟩,
  ⟨some 53, (.move (.tmp 52)), 4, none⟩,
  ⟨some 54, (.load 36 (.tmp 4)), 36, some (53, false)⟩,
  ⟨some 55, (.call { callee := (.value (.func 48)), args := #[(.tmp 54)], argTypes := #[36] }), 3, some (53, false)⟩,
  ⟨some 56, (.binOp .neq 3 (.tmp 55) (.const (.int .i64 1)) 3), 4, some (53, false)⟩,
  ⟨some 57, (.pick (.tmp 53) (.const (.bool true)) (.tmp 56)), 4, none⟩]
def f27r7p1 : List AOp := [
  ⟨some 58, (.move (.tmp 57)), 4, none⟩,
  ⟨some 59, (.load 36 (.tmp 6)), 36, some (58, false)⟩,
  ⟨some 60, (.call { callee := (.value (.func 48)), args := #[(.tmp 59)], argTypes := #[36] }), 3, some (58, false)⟩,
  ⟨some 61, (.binOp .neq 3 (.tmp 60) (.const (.int .i64 1)) 3), 4, some (58, false)⟩,
  ⟨some 62, (.pick (.tmp 58) (.const (.bool true)) (.tmp 61)), 4, none⟩]
def f27r7p2 : List AOp := [
  ⟨some 63, (.move (.tmp 62)), 4, none⟩,
  ⟨some 64, (.move (.tmp 10)), 5, some (63, false)⟩,
  ⟨some 65, (.move (.tmp 8)), 5, some (63, false)⟩,
  ⟨some 66, (.binOp .lss 5 (.tmp 64) (.tmp 65) 5), 4, some (63, false)⟩,
  ⟨some 67, (.pick (.tmp 63) (.const (.bool true)) (.tmp 66)), 4, none⟩]
def f27r7 : List AOp := f27r7p0 ++ (f27r7p1 ++ f27r7p2)
def f27r8 : List AOp := [
  ⟨some 68, (.build 36 #[]), 36, none⟩,
  ⟨none, (.store 36 (.tmp 2) (.tmp 68)), 0, none⟩,
  ⟨some 3, (.assign (.const (.int .i64 0))), 3, none⟩]
def f27r9 : List AOp := [
  ⟨some 69, (.move (.tmp 8)), 5, none⟩,
  ⟨some 70, (.move (.tmp 10)), 5, none⟩,
  ⟨some 71, (.call { callee := (.value (.func 20)), args := #[(.tmp 69), (.tmp 70)], argTypes := #[5, 5] }), 36, none⟩,
  ⟨some 72, (.move (.tmp 5)), 3, none⟩,
  ⟨some 73, (.binOp .add 3 (.tmp 72) (.const (.int .i64 1)) 3), 3, none⟩,
  ⟨some 74, (.move (.tmp 7)), 3, none⟩,
  ⟨some 75, (.binOp .add 3 (.tmp 73) (.tmp 74) 3), 3, none⟩,
  ⟨none, (.store 36 (.tmp 2) (.tmp 71)), 0, none⟩,
  ⟨some 3, (.assign (.tmp 75)), 3, none⟩]
def f27 : AFun := ⟨76, [(.cell 2 36), (.tmp 3)], (.seq (.ops false f27r0) (.seq (.ops false f27r1) (.seq (.seq (.ops false f27r2) (.cond (.tmp 30) (.seq (.ops false f27r3) .ret) .skip)) (.seq (.ops false f27r4) (.seq (.ops false f27r5) (.seq (.ops false f27r6) (.seq (.seq (.ops false f27r7) (.cond (.tmp 67) (.seq (.ops false f27r8) .ret) .skip)) (.seq (.ops false f27r9) .ret))))))))⟩

-- clew/clewref06.starts
def f28r0 : List AOp := [
  ⟨some 6, (.assign (.const (.bool false))), 4, none⟩]
def f28r1p0 : List AOp := [
  ⟨some 7, (.move (.tmp 1)), 3, none⟩,
  ⟨some 8, (.binOp .geq 3 (.tmp 7) (.const (.int .i64 0)) 3), 4, none⟩,
  ⟨some 9, (.move (.tmp 8)), 4, none⟩,
  ⟨some 10, (.move (.tmp 1)), 3, some (9, true)⟩,
  ⟨some 11, (.move (.tmp 0)), 9, some (9, true)⟩,
  ⟨some 12, (.call { callee := (.builtin .len), args := #[(.tmp 11)], argTypes := #[9] }), 3, some (9, true)⟩,
  ⟨some 13, (.binOp .leq 3 (.tmp 10) (.tmp 12) 3), 4, some (9, true)⟩,
  ⟨some 14, (.pick (.tmp 9) (.tmp 13) (.const (.bool false))), 4, none⟩]
def f28r1p1 : List AOp := [
  ⟨some 15, (.move (.tmp 14)), 4, none⟩,
  ⟨some 16, (.move (.tmp 0)), 9, some (15, true)⟩,
  ⟨some 17, (.call { callee := (.builtin .len), args := #[(.tmp 16)], argTypes := #[9] }), 3, some (15, true)⟩,
  ⟨some 18, (.move (.tmp 1)), 3, some (15, true)⟩,
  ⟨some 19, (.binOp .sub 3 (.tmp 17) (.tmp 18) 3), 3, some (15, true)⟩,
  ⟨some 20, (.move (.tmp 2)), 9, some (15, true)⟩,
  ⟨some 21, (.call { callee := (.builtin .len), args := #[(.tmp 20)], argTypes := #[9] }), 3, some (15, true)⟩,
  ⟨some 22, (.binOp .geq 3 (.tmp 19) (.tmp 21) 3), 4, some (15, true)⟩,
  ⟨some 23, (.pick (.tmp 15) (.tmp 22) (.const (.bool false))), 4, none⟩]
def f28r1p2 : List AOp := [
  ⟨some 24, (.move (.tmp 23)), 4, none⟩,
  ⟨some 25, (.move (.tmp 0)), 9, some (24, true)⟩,
  ⟨some 26, (.move (.tmp 1)), 3, some (24, true)⟩,
  ⟨some 27, (.move (.tmp 1)), 3, some (24, true)⟩,
  ⟨some 28, (.move (.tmp 2)), 9, some (24, true)⟩,
  ⟨some 29, (.call { callee := (.builtin .len), args := #[(.tmp 28)], argTypes := #[9] }), 3, some (24, true)⟩,
  ⟨some 30, (.binOp .add 3 (.tmp 27) (.tmp 29) 3), 3, some (24, true)⟩,
  ⟨some 31, (.slice 9 (.tmp 25) (some (.tmp 26)) (some (.tmp 30)) none), 9, some (24, true)⟩,
  ⟨some 32, (.move (.tmp 2)), 9, some (24, true)⟩,
  ⟨some 33, (.binOp .eql 9 (.tmp 31) (.tmp 32) 9), 4, some (24, true)⟩,
  ⟨some 34, (.pick (.tmp 24) (.tmp 33) (.const (.bool false))), 4, none⟩]
def f28r1p3 : List AOp := [
  ⟨some 6, (.assign (.tmp 34)), 4, none⟩]
def f28r1 : List AOp := f28r1p0 ++ (f28r1p1 ++ (f28r1p2 ++ f28r1p3))
def f28 : AFun := ⟨35, [(.tmp 6)], (.seq (.ops false f28r0) (.seq (.ops false f28r1) .ret))⟩

-- clew/clewref06.item
def f29r0 : List AOp := [
  ⟨some 4, (.alloc 68), 0, none⟩,
  ⟨some 5, (.assign (.const (.int .i64 0))), 3, none⟩]
def f29r1p0 : List AOp := [
  ⟨some 6, (.move (.tmp 1)), 3, none⟩,
  ⟨some 7, (.move (.tmp 0)), 9, none⟩,
  ⟨some 8, (.call { callee := (.builtin .len), args := #[(.tmp 7)], argTypes := #[9] }), 3, none⟩,
  ⟨some 9, (.binOp .geq 3 (.tmp 6) (.tmp 8) 3), 4, none⟩,
  ⟨some 10, (.move (.tmp 9)), 4, none⟩,
  ⟨some 11, (.move (.tmp 0)), 9, some (10, false)⟩,
  ⟨some 12, (.move (.tmp 1)), 3, some (10, false)⟩,
  ⟨some 13, (.index 9 (.tmp 11) (.tmp 12)), 5, some (10, false)⟩,
  ⟨some 14, (.binOp .eql 5 (.tmp 13) (.const (.int .u8 91)) 5), 4, some (10, false)⟩,
  ⟨some 15, (.pick (.tmp 10) (.const (.bool true)) (.tmp 14)), 4, none⟩]
def f29r1p1 : List AOp := [
  ⟨some 16, (.move (.tmp 15)), 4, none⟩,
  ⟨some 17, (.move (.tmp 0)), 9, some (16, false)⟩,
  ⟨some 18, (.move (.tmp 1)), 3, some (16, false)⟩,
  ⟨some 19, (.index 9 (.tmp 17) (.tmp 18)), 5, some (16, false)⟩,
  ⟨some 20, (.binOp .eql 5 (.tmp 19) (.const (.int .u8 93)) 5), 4, some (16, false)⟩,
  ⟨some 21, (.pick (.tmp 16) (.const (.bool true)) (.tmp 20)), 4, none⟩]
def f29r1p2 : List AOp := [
  ⟨some 22, (.move (.tmp 21)), 4, none⟩,
  ⟨some 23, (.move (.tmp 0)), 9, some (22, false)⟩,
  ⟨some 24, (.move (.tmp 1)), 3, some (22, false)⟩,
  ⟨some 25, (.index 9 (.tmp 23) (.tmp 24)), 5, some (22, false)⟩,
  ⟨some 26, (.binOp .eql 5 (.tmp 25) (.const (.int .u8 45)) 5), 4, some (22, false)⟩,
  ⟨some 27, (.pick (.tmp 22) (.const (.bool true)) (.tmp 26)), 4, none⟩]
def f29r1 : List AOp := f29r1p0 ++ (f29r1p1 ++ f29r1p2)
def f29r2 : List AOp := [
  ⟨some 28, (.build 68 #[]), 68, none⟩,
  ⟨none, (.store 68 (.tmp 4) (.tmp 28)), 0, none⟩,
  ⟨some 5, (.assign (.const (.int .i64 0))), 3, none⟩]
def f29r3 : List AOp := [
  ⟨some 29, (.move (.tmp 0)), 9, none⟩,
  ⟨some 30, (.move (.tmp 1)), 3, none⟩,
  ⟨some 31, (.index 9 (.tmp 29) (.tmp 30)), 5, none⟩,
  ⟨some 32, (.binOp .eql 5 (.tmp 31) (.const (.int .u8 92)) 5), 4, none⟩]
def f29r4 : List AOp := [
  ⟨some 33, (.move (.tmp 0)), 9, none⟩,
  ⟨some 34, (.move (.tmp 1)), 3, none⟩,
  ⟨some 35, (.call { callee := (.value (.func 44)), args := #[(.tmp 33), (.tmp 34)], argTypes := #[9, 3] }), 69, none⟩,
  ⟨some 36, (.extract (.tmp 35) 0), 68, none⟩,
  ⟨some 37, (.extract (.tmp 35) 1), 3, none⟩,
  ⟨none, (.store 68 (.tmp 4) (.tmp 36)), 0, none⟩,
  ⟨some 5, (.assign (.tmp 37)), 3, none⟩]
def f29r5 : List AOp := [
  ⟨some 38, (.move (.tmp 0)), 9, none⟩,
  ⟨some 39, (.move (.tmp 1)), 3, none⟩,
  ⟨some 40, (.index 9 (.tmp 38) (.tmp 39)), 5, none⟩,
  ⟨some 41, (.call { callee := (.value (.func 43)), args := #[(.tmp 40)], argTypes := #[5] }), 68, none⟩,
  ⟨some 42, (.move (.tmp 1)), 3, none⟩,
  ⟨some 43, (.binOp .add 3 (.tmp 42) (.const (.int .i64 1)) 3), 3, none⟩,
  ⟨none, (.store 68 (.tmp 4) (.tmp 41)), 0, none⟩,
  ⟨some 5, (.assign (.tmp 43)), 3, none⟩]
def f29 : AFun := ⟨44, [(.cell 4 68), (.tmp 5)], (.seq (.ops false f29r0) (.seq (.seq (.ops false f29r1) (.cond (.tmp 27) (.seq (.ops false f29r2) .ret) .skip)) (.seq (.seq (.ops false f29r3) (.cond (.tmp 32) (.seq (.ops false f29r4) .ret) .skip)) (.seq (.ops false f29r5) .ret))))⟩

-- clew/clewref01.Min
def f30r0 : List AOp := [
  ⟨some 1, (.box 68 (.tmp 0)), 0, none⟩,
  ⟨some 2, (.assign (.const (.int .u8 0))), 5, none⟩,
  ⟨some 3, (.assign (.const (.bool false))), 4, none⟩]
def f30r1 : List AOp := [
  ⟨some 4, (.assign (.const (.int .i64 0))), 3, none⟩]
def f30r2 : List AOp := [
  ⟨some 5, (.move (.tmp 4)), 3, none⟩,
  ⟨some 6, (.binOp .lss 3 (.tmp 5) (.const (.int .i64 256)) 3), 4, none⟩]
def f30r4 : List AOp := [
  ⟨some 9, (.move (.tmp 4)), 3, none⟩,
  ⟨some 10, (.fieldAddr 68 (.tmp 1) 0), 0, none⟩,
  ⟨some 11, (.indexAddr 66 (.tmp 10) (.tmp 9)), 0, none⟩,
  ⟨some 12, (.load 4 (.tmp 11)), 4, none⟩]
def f30r5 : List AOp := [
  ⟨some 13, (.move (.tmp 4)), 3, none⟩,
  ⟨some 14, (.convert 3 5 (.tmp 13)), 5, none⟩,
  ⟨some 2, (.assign (.tmp 14)), 5, none⟩,
  ⟨some 3, (.assign (.const (.bool true))), 4, none⟩]
def f30r3 : List AOp := [
  ⟨some 7, (.move (.tmp 4)), 3, none⟩,
  ⟨some 8, (.binOp .add 3 (.tmp 7) (.const (.int .i64 1)) 3), 3, none⟩,
  ⟨some 4, (.assign (.tmp 8)), 3, none⟩]
def f30b0 : AC := (.seq (.seq (.ops false f30r2) (.cond (.tmp 6) .skip (.exit 0))) (.seq (.block 1 (.seq (.ops false f30r4) (.cond (.tmp 12) (.seq (.ops false f30r5) .ret) .skip))) (.ops false f30r3)))
def f30r6 : List AOp := [
  ⟨some 2, (.assign (.const (.int .u8 0))), 5, none⟩,
  ⟨some 3, (.assign (.const (.bool false))), 4, none⟩]
def f30 : AFun := ⟨15, [(.tmp 2), (.tmp 3)], (.seq (.ops false f30r0) (.seq (.seq (.ops false f30r1) (.block 0 (.loop [1, 4] f30b0))) (.seq (.ops false f30r6) .ret)))⟩

-- clew/clewref01.Len
def f31r0 : List AOp := [
  ⟨some 1, (.box 68 (.tmp 0)), 0, none⟩,
  ⟨some 2, (.assign (.const (.int .i64 0))), 3, none⟩]
def f31r1 : List AOp := [
  ⟨some 3, (.assign (.const (.int .i64 0))), 3, none⟩]
def f31r2 : List AOp := [
  ⟨some 4, (.assign (.const (.int .i64 0))), 3, none⟩]
def f31r3 : List AOp := [
  ⟨some 5, (.move (.tmp 4)), 3, none⟩,
  ⟨some 6, (.binOp .lss 3 (.tmp 5) (.const (.int .i64 256)) 3), 4, none⟩]
def f31r5 : List AOp := [
  ⟨some 9, (.move (.tmp 4)), 3, none⟩,
  ⟨some 10, (.fieldAddr 68 (.tmp 1) 0), 0, none⟩,
  ⟨some 11, (.indexAddr 66 (.tmp 10) (.tmp 9)), 0, none⟩,
  ⟨some 12, (.load 4 (.tmp 11)), 4, none⟩]
def f31r6 : List AOp := [
  ⟨some 13, (.move (.tmp 3)), 3, none⟩,
  ⟨some 14, (.binOp .add 3 (.tmp 13) (.const (.int .i64 1)) 3), 3, none⟩,
  ⟨some 3, (.assign (.tmp 14)), 3, none⟩]
def f31r4 : List AOp := [
  ⟨some 7, (.move (.tmp 4)), 3, none⟩,
  ⟨some 8, (.binOp .add 3 (.tmp 7) (.const (.int .i64 1)) 3), 3, none⟩,
  ⟨some 4, (.assign (.tmp 8)), 3, none⟩]
def f31b0 : AC := (.seq (.seq (.ops false f31r3) (.cond (.tmp 6) .skip (.exit 0))) (.seq (.block 1 (.seq (.ops false f31r5) (.cond (.tmp 12) (.ops false f31r6) .skip))) (.ops false f31r4)))
def f31r7 : List AOp := [
  ⟨some 15, (.move (.tmp 3)), 3, none⟩,
  ⟨some 2, (.assign (.tmp 15)), 3, none⟩]
def f31 : AFun := ⟨16, [(.tmp 2)], (.seq (.ops false f31r0) (.seq (.ops false f31r1) (.seq (.seq (.ops false f31r2) (.block 0 (.loop [1, 3, 4] f31b0))) (.seq (.ops false f31r7) .ret))))⟩

-- clew/clewref01.Range
def f32r0 : List AOp := [
  ⟨some 4, (.alloc 68), 0, none⟩]
def f32r1 : List AOp := [
  ⟨some 7, (.build 68 #[]), 68, none⟩,
  ⟨some 5, (.alloc 68), 0, none⟩,
  ⟨none, (.store 68 (.tmp 5) (.tmp 7)), 0, none⟩]
def f32r2 : List AOp := [
  ⟨some 6, (.assign (.const (.int .i64 0))), 3, none⟩]
def f32r3 : List AOp := [
  ⟨some 8, (.move (.tmp 6)), 3, none⟩,
  ⟨some 9, (.binOp .lss 3 (.tmp 8) (.const (.int .i64 256)) 3), 4, none⟩]
def f32r5p0 : List AOp := [
  ⟨some 12, (.move (.tmp 6)), 3, none⟩,
  ⟨some 13, (.move (.tmp 6)), 3, none⟩,
  ⟨some 14, (.move (.tmp 0)), 5, none⟩,
  ⟨some 15, (.convert 5 3 (.tmp 14)), 3, none⟩,
  ⟨some 16, (.binOp .geq 3 (.tmp 13) (.tmp 15) 3), 4, none⟩,
  ⟨some 17, (.move (.tmp 16)), 4, none⟩,
  ⟨some 18, (.move (.tmp 6)), 3, some (17, true)⟩,
  ⟨some 19, (.move (.tmp 1)), 5, some (17, true)⟩,
  ⟨some 20, (.convert 5 3 (.tmp 19)), 3, some (17, true)⟩,
  ⟨some 21, (.binOp .leq 3 (.tmp 18) (.tmp 20) 3), 4, some (17, true)⟩,
  ⟨some 22, (.pick (.tmp 17) (.tmp 21) (.const (.bool false))), 4, none⟩]
def f32r5p1 : List AOp := [
  ⟨some 23, (.fieldAddr 68 (.tmp 5) 0), 0, none⟩,
  ⟨some 24, (.indexAddr 66 (.tmp 23) (.tmp 12)), 0, none⟩,
  ⟨none, (.store 4 (.tmp 24) (.tmp 22)), 0, none⟩]
def f32r5 : List AOp := f32r5p0 ++ f32r5p1
def f32r4 : List AOp := [
  ⟨some 10, (.move (.tmp 6)), 3, none⟩,
  ⟨some 11, (.binOp .add 3 (.tmp 10) (.const (.int .i64 1)) 3), 3, none⟩,
  ⟨some 6, (.assign (.tmp 11)), 3, none⟩]
def f32b0 : AC := (.seq (.seq (.ops false f32r3) (.cond (.tmp 9) .skip (.exit 0))) (.seq (.block 1 (.ops false f32r5)) (.ops false f32r4)))
def f32r6 : List AOp := [
  ⟨some 25, (.load 68 (.tmp 5)), 68, none⟩,
  ⟨none, (.store 68 (.tmp 4) (.tmp 25)), 0, none⟩]
def f32 : AFun := ⟨26, [(.cell 4 68)], (.seq (.ops false f32r0) (.seq (.ops false f32r1) (.seq (.seq (.ops false f32r2) (.block 0 (.loop [0, 1, 4, 5, 6] f32b0))) (.seq (.ops false f32r6) .ret))))⟩

-- clew/clewref01.Or
def f33r0 : List AOp := [
  ⟨some 2, (.box 68 (.tmp 0)), 0, none⟩,
  ⟨some 3, (.box 68 (.tmp 1)), 0, none⟩,
  ⟨some 4, (.alloc 68), 0, none⟩]
def f33r1 : List AOp := [
  ⟨some 5, (.assign (.const (.int .i64 0))), 3, none⟩]
def f33r2 : List AOp := [
  ⟨some 6, (.move (.tmp 5)), 3, none⟩,
  ⟨some 7, (.binOp .lss 3 (.tmp 6) (.const (.int .i64 256)) 3), 4, none⟩]
def f33r4p0 : List AOp := [
  ⟨some 10, (.move (.tmp 5)), 3, none⟩,
  ⟨some 11, (.move (.tmp 5)), 3, none⟩,
  ⟨some 12, (.fieldAddr 68 (.tmp 2) 0), 0, none⟩,
  ⟨some 13, (.indexAddr 66 (.tmp 12) (.tmp 11)), 0, none⟩,
  ⟨some 14, (.load 4 (.tmp 13)), 4, none⟩,
  ⟨some 15, (.move (.tmp 14)), 4, none⟩,
  ⟨some 16, (.move (.tmp 5)), 3, some (15, false)⟩,
  ⟨some 17, (.fieldAddr 68 (.tmp 3) 0), 0, some (15, false)⟩,
  ⟨some 18, (.indexAddr 66 (.tmp 17) (.tmp 16)), 0, some (15, false)⟩,
  ⟨some 19, (.load 4 (.tmp 18)), 4, some (15, false)⟩,
  ⟨some 20, (.pick (.tmp 15) (.const (.bool true)) (.tmp 19)), 4, none⟩]
def f33r4p1 : List AOp := [
  ⟨some 21, (.fieldAddr 68 (.tmp 2) 0), 0, none⟩,
  ⟨some 22, (.indexAddr 66 (.tmp 21) (.tmp 10)), 0, none⟩,
  ⟨none, (.store 4 (.tmp 22) (.tmp 20)), 0, none⟩]
def f33r4 : List AOp := f33r4p0 ++ f33r4p1
def f33r3 : List AOp := [
  ⟨some 8, (.move (.tmp 5)), 3, none⟩,
  ⟨some 9, (.binOp .add 3 (.tmp 8) (.const (.int .i64 1)) 3), 3, none⟩,
  ⟨some 5, (.assign (.tmp 9)), 3, none⟩]
def f33b0 : AC := (.seq (.seq (.ops false f33r2) (.cond (.tmp 7) .skip (.exit 0))) (.seq (.block 1 (.ops false f33r4)) (.ops false f33r3)))
def f33r5 : List AOp := [
  ⟨some 23, (.load 68 (.tmp 2)), 68, none⟩,
  ⟨none, (.store 68 (.tmp 4) (.tmp 23)), 0, none⟩]
def f33 : AFun := ⟨24, [(.cell 4 68)], (.seq (.ops false f33r0) (.seq (.seq (.ops false f33r1) (.block 0 (.loop [2, 3, 4, 5] f33b0))) (.seq (.ops false f33r5) .ret)))⟩

-- clew/clewref01.Not
def f34r0 : List AOp := [
  ⟨some 1, (.box 68 (.tmp 0)), 0, none⟩,
  ⟨some 2, (.alloc 68), 0, none⟩]
def f34r1 : List AOp := [
  ⟨some 3, (.assign (.const (.int .i64 0))), 3, none⟩]
def f34r2 : List AOp := [
  ⟨some 4, (.move (.tmp 3)), 3, none⟩,
  ⟨some 5, (.binOp .lss 3 (.tmp 4) (.const (.int .i64 256)) 3), 4, none⟩]
def f34r4 : List AOp := [
  ⟨some 8, (.move (.tmp 3)), 3, none⟩,
  ⟨some 9, (.move (.tmp 3)), 3, none⟩,
  ⟨some 10, (.fieldAddr 68 (.tmp 1) 0), 0, none⟩,
  ⟨some 11, (.indexAddr 66 (.tmp 10) (.tmp 9)), 0, none⟩,
  ⟨some 12, (.load 4 (.tmp 11)), 4, none⟩,
  ⟨some 13, (.unOp .not 4 (.tmp 12)), 4, none⟩,
  ⟨some 14, (.fieldAddr 68 (.tmp 1) 0), 0, none⟩,
  ⟨some 15, (.indexAddr 66 (.tmp 14) (.tmp 8)), 0, none⟩,
  ⟨none, (.store 4 (.tmp 15) (.tmp 13)), 0, none⟩]
def f34r3 : List AOp := [
  ⟨some 6, (.move (.tmp 3)), 3, none⟩,
  ⟨some 7, (.binOp .add 3 (.tmp 6) (.const (.int .i64 1)) 3), 3, none⟩,
  ⟨some 3, (.assign (.tmp 7)), 3, none⟩]
def f34b0 : AC := (.seq (.seq (.ops false f34r2) (.cond (.tmp 5) .skip (.exit 0))) (.seq (.block 1 (.ops false f34r4)) (.ops false f34r3)))
def f34r5 : List AOp := [
  ⟨some 16, (.load 68 (.tmp 1)), 68, none⟩,
  ⟨none, (.store 68 (.tmp 2) (.tmp 16)), 0, none⟩]
def f34 : AFun := ⟨17, [(.cell 2 68)], (.seq (.ops false f34r0) (.seq (.seq (.ops false f34r1) (.block 0 (.loop [1, 2, 3] f34b0))) (.seq (.ops false f34r5) .ret)))⟩

-- clew/clewref01.Words
def f35r0 : List AOp := [
  ⟨some 1, (.box 68 (.tmp 0)), 0, none⟩,
  ⟨some 2, (.alloc 34), 0, none⟩]
def f35r1 : List AOp := [
  ⟨some 5, (.build 34 #[]), 34, none⟩,
  ⟨some 3, (.alloc 34), 0, none⟩,
  ⟨none, (.store 34 (.tmp 3) (.tmp 5)), 0, none⟩]
def f35r2 : List AOp := [
  ⟨some 4, (.assign (.const (.int .i64 255))), 3, none⟩]
def f35r3 : List AOp := [
  ⟨some 6, (.move (.tmp 4)), 3, none⟩,
  ⟨some 7, (.binOp .geq 3 (.tmp 6) (.const (.int .i64 0)) 3), 4, none⟩]
def f35r5 : List AOp := [
  ⟨some 10, (.move (.tmp 4)), 3, none⟩,
  ⟨some 11, (.binOp .quo 3 (.tmp 10) (.const (.int .i64 64)) 3), 3, none⟩,
  ⟨some 12, (.move (.tmp 4)), 3, none⟩,
  ⟨some 13, (.binOp .quo 3 (.tmp 12) (.const (.int .i64 64)) 3), 3, none⟩,
  ⟨some 14, (.indexAddr 34 (.tmp 3) (.tmp 13)), 0, none⟩,
  ⟨some 15, (.load 33 (.tmp 14)), 33, none⟩,
  ⟨some 16, (.binOp .mul 33 (.tmp 15) (.const (.int .u64 2)) 33), 33, none⟩,
  ⟨some 17, (.indexAddr 34 (.tmp 3) (.tmp 11)), 0, none⟩,
  ⟨none, (.store 33 (.tmp 17) (.tmp 16)), 0, none⟩]
def f35r6 : List AOp := [
  ⟨some 18, (.move (.tmp 4)), 3, none⟩,
  ⟨some 19, (.fieldAddr 68 (.tmp 1) 0), 0, none⟩,
  ⟨some 20, (.indexAddr 66 (.tmp 19) (.tmp 18)), 0, none⟩,
  ⟨some 21, (.load 4 (.tmp 20)), 4, none⟩]
def f35r7 : List AOp := [
  ⟨some 22, (.move (.tmp 4)), 3, none⟩,
  ⟨some 23, (.binOp .quo 3 (.tmp 22) (.const (.int .i64 64)) 3), 3, none⟩,
  ⟨some 24, (.move (.tmp 4)), 3, none⟩,
  ⟨some 25, (.binOp .quo 3 (.tmp 24) (.const (.int .i64 64)) 3), 3, none⟩,
  ⟨some 26, (.indexAddr 34 (.tmp 3) (.tmp 25)), 0, none⟩,
  ⟨some 27, (.load 33 (.tmp 26)), 33, none⟩,
  ⟨some 28, (.binOp .add 33 (.tmp 27) (.const (.int .u64 1)) 33), 33, none⟩,
  ⟨some 29, (.indexAddr 34 (.tmp 3) (.tmp 23)), 0, none⟩,
  ⟨none, (.store 33 (.tmp 29) (.tmp 28)), 0, none⟩]
def f35r4 : List AOp := [
  ⟨some 8, (.move (.tmp 4)), 3, none⟩,
  ⟨some 9, (.binOp .sub 3 (.tmp 8) (.const (.int .i64 1)) 3), 3, none⟩,
  ⟨some 4, (.assign (.tmp 9)), 3, none⟩]
def f35b0 : AC := (.seq (.seq (.ops false f35r3) (.cond (.tmp 7) .skip (.exit 0))) (.seq (.block 1 (.seq (.ops false f35r5) (.seq (.ops false f35r6) (.cond (.tmp 21) (.ops false f35r7) .skip)))) (.ops false f35r4)))
def f35r8 : List AOp := [
  ⟨some 30, (.load 34 (.tmp 3)), 34, none⟩,
  ⟨none, (.store 34 (.tmp 2) (.tmp 30)), 0, none⟩]
def f35 : AFun := ⟨31, [(.cell 2 34)], (.seq (.ops false f35r0) (.seq (.ops false f35r1) (.seq (.seq (.ops false f35r2) (.block 0 (.loop [1, 2, 3, 4] f35b0))) (.seq (.ops false f35r8) .ret))))⟩

-- (*clew/class.Set).add
def f36r0 : List AOp := [
  ⟨some 4, (.move (.tmp 0)), 85, none⟩,
  ⟨some 5, (.move (.tmp 1)), 5, none⟩,
  ⟨some 6, (.binOp .quo 5 (.tmp 5) (.const (.int .u8 64)) 5), 5, none⟩,
  ⟨some 7, (.nilCheck (.tmp 4)), 0, none⟩,
  ⟨some 8, (.fieldAddr 36 (.tmp 7) 0), 0, none⟩,
  ⟨some 9, (.indexAddr 34 (.tmp 8) (.tmp 6)), 0, none⟩,
  ⟨some 10, (.load 33 (.tmp 9)), 33, none⟩,
  ⟨some 11, (.move (.tmp 1)), 5, none⟩,
  ⟨some 12, (.binOp .rem 5 (.tmp 11) (.const (.int .u8 64)) 5), 5, none⟩,
  ⟨some 13, (.binOp .shl 33 (.const (.int .u64 1)) (.tmp 12) 5), 33, none⟩,
  ⟨some 14, (.binOp .or 33 (.tmp 10) (.tmp 13) 33), 33, none⟩,
  ⟨some 15, (.nilCheck (.tmp 4)), 0, none⟩,
  ⟨some 16, (.fieldAddr 36 (.tmp 15) 0), 0, none⟩,
  ⟨some 17, (.indexAddr 34 (.tmp 16) (.tmp 6)), 0, none⟩,
  ⟨none, (.store 33 (.tmp 17) (.tmp 14)), 0, none⟩]
def f36 : AFun := ⟨18, [], (.ops false f36r0)⟩

-- clew/lex.simple
def f37r0 : List AOp := [
  ⟨some 2, (.assign (.const (.int .i64 0))), 3, none⟩,
  ⟨some 3, (.assign (.const (.bool false))), 4, none⟩]
def f37r1 : List AOp := [
  ⟨some 6, (.move (.tmp 0)), 5, none⟩,
  ⟨some 7, (.call { callee := (.value (.func 49)), args := #[(.const (.string { data := #[46, 94, 36, 124, 41] })), (.tmp 6)], argTypes := #[9, 5] }), 3, none⟩,
  ⟨some 4, (.assign (.tmp 7)), 3, none⟩]
def f37r2 : List AOp := [
  ⟨some 8, (.build 87 #[(0, (.const (.int .i64 1))), (1, (.const (.int .i64 2))), (2, (.const (.int .i64 3))), (3, (.const (.int .i64 6))), (4, (.const (.int .i64 15)))]), 87, none⟩,
  ⟨some 5, (.alloc 87), 0, none⟩,
  ⟨none, (.store 87 (.tmp 5) (.tmp 8)), 0, none⟩]
def f37r3 : List AOp := [
  ⟨some 9, (.move (.tmp 4)), 3, none⟩,
  ⟨some 10, (.binOp .lss 3 (.tmp 9) (.const (.int .i64 0)) 3), 4, none⟩]
def f37r4 : List AOp := [
  ⟨some 2, (.assign (.const (.int .i64 0))), 3, none⟩,
  ⟨some 3, (.assign (.const (.bool false))), 4, none⟩]
def f37r5 : List AOp := [
  ⟨some 11, (.move (.tmp 4)), 3, none⟩,
  ⟨some 12, (.indexAddr 87 (.tmp 5) (.tmp 11)), 0, none⟩,
  ⟨some 13, (.load 3 (.tmp 12)), 3, none⟩,
  ⟨some 2, (.assign (.tmp 13)), 3, none⟩,
  ⟨some 3, (.assign (.const (.bool true))), 4, none⟩]
def f37 : AFun := ⟨14, [(.tmp 2), (.tmp 3)], (.seq (.ops false f37r0) (.seq (.ops false f37r1) (.seq (.ops false f37r2) (.seq (.seq (.ops false f37r3) (.cond (.tmp 10) (.seq (.ops false f37r4) .ret) .skip)) (.seq (.ops false f37r5) .ret)))))⟩

-- clew/lex.opening
def f38r0 : List AOp := [
  ⟨some 2, (.alloc 46), 0, none⟩,
  ⟨some 3, (.assign (.const (.int .i64 0))), 3, none⟩,
  ⟨some 4, (.assign (.const (.int .i64 0))), 23, none⟩]
def f38r1 : List AOp := [
  ⟨some 10, (.move (.tmp 0)), 9, none⟩,
  ⟨some 11, (.call { callee := (.value (.func 26)), args := #[(.tmp 10), (.const (.string { data := #[40, 63] }))], argTypes := #[9, 9] }), 4, none⟩,
  ⟨some 12, (.unOp .not 4 (.tmp 11)), 4, none⟩]
def f38r2 : List AOp := [
  ⟨some 13, (.build 46 #[(0, (.const (.int .i64 7)))]), 46, none⟩,
  ⟨none, (.store 46 (.tmp 2) (.tmp 13)), 0, none⟩,
  ⟨some 3, (.assign (.const (.int .i64 1))), 3, none⟩,
  ⟨some 4, (.assign (.const (.int .i64 0))), 23, none⟩]
def f38r3 : List AOp := [
  ⟨some 14, (.build 88 #[(0, (.const (.string { data := #[40, 63, 58] }))), (1, (.const (.string { data := #[40, 63, 61] }))), (2, (.const (.string { data := #[40, 63, 33] }))), (3, (.const (.string { data := #[40, 63, 60, 61] }))), (4, (.const (.string { data := #[40, 63, 60, 33] }))), (5, (.const (.string { data := #[40, 63, 62] })))]), 88, none⟩,
  ⟨some 15, (.move (.const (.int .i64 0))), 3, none⟩]
def f38r4 : List AOp := [
  ⟨some 16, (.binOp .lss 3 (.tmp 15) (.const (.int .i64 6)) 3), 0, none⟩]
def f38r5 : List AOp := [
  ⟨some 17, (.move (.tmp 15)), 3, none⟩,
  ⟨some 18, (.index 88 (.tmp 14) (.tmp 15)), 9, none⟩,
  ⟨some 5, (.assign (.tmp 17)), 3, none⟩,
  ⟨some 6, (.assign (.tmp 18)), 9, none⟩]
def f38r6 : List AOp := [
  ⟨some 19, (.move (.tmp 0)), 9, none⟩,
  ⟨some 20, (.move (.tmp 6)), 9, none⟩,
  ⟨some 21, (.call { callee := (.value (.func 26)), args := #[(.tmp 19), (.tmp 20)], argTypes := #[9, 9] }), 4, none⟩]
def f38r7 : List AOp := [
  ⟨some 22, (.move (.tmp 5)), 3, none⟩,
  ⟨some 23, (.binOp .add 3 (.const (.int .i64 8)) (.tmp 22) 3), 3, none⟩,
  ⟨some 24, (.build 46 #[(0, (.tmp 23))]), 46, none⟩,
  ⟨some 25, (.move (.tmp 6)), 9, none⟩,
  ⟨some 26, (.call { callee := (.builtin .len), args := #[(.tmp 25)], argTypes := #[9] }), 3, none⟩,
  ⟨none, (.store 46 (.tmp 2) (.tmp 24)), 0, none⟩,
  ⟨some 3, (.assign (.tmp 26)), 3, none⟩,
  ⟨some 4, (.assign (.const (.int .i64 0))), 23, none⟩]
def f38r8 : List AOp := [
  ⟨some 27, (.binOp .add 3 (.tmp 15) (.const (.int .i64 1)) 3), 3, none⟩,
  ⟨some 15, (.move (.tmp 27)), 3, none⟩]
def f38b0 : AC := (.seq (.ops false f38r4) (.seq (.cond (.tmp 16) .skip (.exit 0)) (.seq (.block 1 (.seq (.ops false f38r5) (.seq (.ops false f38r6) (.cond (.tmp 21) (.seq (.ops false f38r7) .ret) .skip)))) (.ops false f38r8))))
def f38r9 : List AOp := [
  ⟨some 7, (.assign (.const (.string { data := #[] }))), 9, none⟩]
def f38r10 : List AOp := [
  ⟨some 28, (.move (.tmp 0)), 9, none⟩,
  ⟨some 29, (.slice 9 (.tmp 28) (some (.const (.int .i64 2))) none none), 9, none⟩,
  ⟨some 30, (.range 9 (.tmp 29)), 0, none⟩]
def f38r11 : List AOp := [
  ⟨some 31, (.next (.tmp 30) true), 0, none⟩,
  ⟨some 32, (.extract (.tmp 31) 0), 4, none⟩]
def f38r12 : List AOp := [
  ⟨some 33, (.extract (.tmp 31) 2), 21, none⟩,
  ⟨some 9, (.assign (.tmp 33)), 21, none⟩]
def f38r13p0 : List AOp := [
  ⟨some 35, (.move (.tmp 9)), 21, none⟩,
  ⟨some 36, (.binOp .eql 21 (.tmp 35) (.const (.int .i32 58)) 21), 4, none⟩,
  ⟨some 37, (.move (.tmp 36)), 4, none⟩,
  ⟨some 38, (.move (.tmp 7)), 9, some (37, true)⟩,
  ⟨some 39, (.binOp .neq 9 (.tmp 38) (.const (.string { data := #[] })) 9), 4, some (37, true)⟩,
  ⟨some 40, (.pick (.tmp 37) (.tmp 39) (.const (.bool false))), 4, none⟩]
def f38r13p1 : List AOp := [
  ⟨some 34, (.assign (.tmp 40)), 4, none⟩]
def f38r13 : List AOp := f38r13p0 ++ f38r13p1
def f38r14 : List AOp := [
  ⟨some 41, (.move (.tmp 7)), 9, none⟩,
  ⟨some 42, (.build 46 #[(0, (.const (.int .i64 14))), (6, (.tmp 41))]), 46, none⟩,
  ⟨some 43, (.move (.tmp 7)), 9, none⟩,
  ⟨some 44, (.call { callee := (.builtin .len), args := #[(.tmp 43)], argTypes := #[9] }), 3, none⟩,
  ⟨some 45, (.binOp .add 3 (.const (.int .i64 3)) (.tmp 44) 3), 3, none⟩,
  ⟨none, (.store 46 (.tmp 2) (.tmp 42)), 0, none⟩,
  ⟨some 3, (.assign (.tmp 45)), 3, none⟩,
  ⟨some 4, (.assign (.const (.int .i64 0))), 23, none⟩]
def f38r15p0 : List AOp := [
  ⟨some 47, (.move (.tmp 9)), 21, none⟩,
  ⟨some 48, (.binOp .neq 21 (.tmp 47) (.const (.int .i32 105)) 21), 4, none⟩,
  ⟨some 49, (.move (.tmp 48)), 4, none⟩,
  ⟨some 50, (.move (.tmp 9)), 21, some (49, true)⟩,
  ⟨some 51, (.binOp .neq 21 (.tmp 50) (.const (.int .i32 109)) 21), 4, some (49, true)⟩,
  ⟨some 52, (.pick (.tmp 49) (.tmp 51) (.const (.bool false))), 4, none⟩]
def f38r15p1 : List AOp := [
  ⟨some 53, (.move (.tmp 52)), 4, none⟩,
  ⟨some 54, (.move (.tmp 9)), 21, some (53, true)⟩,
  ⟨some 55, (.binOp .neq 21 (.tmp 54) (.const (.int .i32 115)) 21), 4, some (53, true)⟩,
  ⟨some 56, (.pick (.tmp 53) (.tmp 55) (.const (.bool false))), 4, none⟩]
def f38r15p2 : List AOp := [
  ⟨some 57, (.move (.tmp 56)), 4, none⟩,
  ⟨some 58, (.move (.tmp 7)), 9, some (57, false)⟩,
  ⟨some 59, (.move (.tmp 9)), 21, some (57, false)⟩,
  ⟨some 60, (.call { callee := (.value (.func 50)), args := #[(.tmp 58), (.tmp 59)], argTypes := #[9, 21] }), 4, some (57, false)⟩,
  ⟨some 61, (.pick (.tmp 57) (.const (.bool true)) (.tmp 60)), 4, none⟩]
def f38r15p3 : List AOp := [
  ⟨some 46, (.assign (.tmp 61)), 4, none⟩]
def f38r15 : List AOp := f38r15p0 ++ (f38r15p1 ++ (f38r15p2 ++ f38r15p3))
def f38r16 : List AOp := [
  ⟨some 62, (.build 46 #[]), 46, none⟩,
  ⟨none, (.store 46 (.tmp 2) (.tmp 62)), 0, none⟩,
  ⟨some 3, (.assign (.const (.int .i64 0))), 3, none⟩,
  ⟨some 4, (.assign (.const (.int .i64 3))), 23, none⟩]
def f38r17 : List AOp := [
  ⟨some 63, (.move (.tmp 7)), 9, none⟩,
  ⟨some 64, (.move (.tmp 9)), 21, none⟩,
  ⟨some 65, (.convert 21 9 (.tmp 64)), 9, none⟩,
  ⟨some 66, (.binOp .add 9 (.tmp 63) (.tmp 65) 9), 9, none⟩,
  ⟨some 7, (.assign (.tmp 66)), 9, none⟩]
def f38b1 : AC := (.seq (.ops false f38r11) (.seq (.cond (.tmp 32) .skip (.exit 2)) (.block 3 (.seq (.ops false f38r12) (.seq (.block 4 (.seq (.ops false f38r13) (.cond (.tmp 34) (.seq (.ops false f38r14) .ret) (.seq (.ops false f38r15) (.cond (.tmp 46) (.seq (.ops false f38r16) .ret) .skip))))) (.ops false f38r17))))))
def f38r18 : List AOp := [
  ⟨some 67, (.build 46 #[]), 46, none⟩,
  ⟨none, (.store 46 (.tmp 2) (.tmp 67)), 0, none⟩,
  ⟨some 3, (.assign (.const (.int .i64 0))), 3, none⟩,
  ⟨some 4, (.assign (.const (.int .i64 3))), 23, none⟩]
def f38 : AFun := ⟨68, [(.cell 2 46), (.tmp 3), (.tmp 4)], (.seq (.ops false f38r0) (.seq (.seq (.ops false f38r1) (.cond (.tmp 12) (.seq (.ops false f38r2) .ret) .skip)) (.seq (.seq (.ops false f38r3) (.block 0 (.loop [0, 2, 14, 15] f38b0))) (.seq (.ops false f38r9) (.seq (.seq (.ops false f38r10) (.block 2 (.loop [2, 7, 30] f38b1))) (.seq (.ops false f38r18) .ret))))))⟩

-- clew/lex.quant
def f39r0 : List AOp := [
  ⟨some 2, (.alloc 46), 0, none⟩,
  ⟨some 3, (.assign (.const (.int .i64 0))), 3, none⟩,
  ⟨some 4, (.assign (.const (.int .i64 0))), 23, none⟩]
def f39r1 : List AOp := [
  ⟨some 7, (.build 46 #[(0, (.const (.int .i64 16))), (3, (.const (.int .i64 (-1))))]), 46, none⟩,
  ⟨some 5, (.alloc 46), 0, none⟩,
  ⟨none, (.store 46 (.tmp 5) (.tmp 7)), 0, none⟩,
  ⟨some 6, (.assign (.const (.int .i64 1))), 3, none⟩]
def f39r2 : List AOp := [
  ⟨some 8, (.move (.tmp 0)), 9, none⟩,
  ⟨some 9, (.index 9 (.tmp 8) (.const (.int .i64 0))), 5, none⟩]
def f39r3 : List AOp := [
  ⟨some 11, (.binOp .eql 5 (.tmp 9) (.const (.int .u8 43)) 5), 4, none⟩,
  ⟨some 10, (.assign (.tmp 11)), 4, none⟩]
def f39r4 : List AOp := [
  ⟨some 12, (.fieldAddr 46 (.tmp 5) 2), 0, none⟩,
  ⟨none, (.store 3 (.tmp 12) (.const (.int .i64 1))), 0, none⟩]
def f39r5 : List AOp := [
  ⟨some 14, (.binOp .eql 5 (.tmp 9) (.const (.int .u8 63)) 5), 4, none⟩,
  ⟨some 13, (.assign (.tmp 14)), 4, none⟩]
def f39r6 : List AOp := [
  ⟨some 15, (.fieldAddr 46 (.tmp 5) 3), 0, none⟩,
  ⟨none, (.store 3 (.tmp 15) (.const (.int .i64 1))), 0, none⟩]
def f39r7 : List AOp := [
  ⟨some 17, (.binOp .eql 5 (.tmp 9) (.const (.int .u8 123)) 5), 4, none⟩,
  ⟨some 16, (.assign (.tmp 17)), 4, none⟩]
def f39r8 : List AOp := [
  ⟨some 19, (.move (.tmp 0)), 9, none⟩,
  ⟨some 20, (.call { callee := (.value (.func 51)), args := #[(.tmp 19)], argTypes := #[9] }), 90, none⟩,
  ⟨some 18, (.move (.tmp 20)), 90, none⟩,
  ⟨some 21, (.extract (.tmp 18) 0), 3, none⟩,
  ⟨some 22, (.extract (.tmp 18) 1), 3, none⟩,
  ⟨some 23, (.extract (.tmp 18) 2), 3, none⟩,
  ⟨some 24, (.fieldAddr 46 (.tmp 5) 2), 0, none⟩,
  ⟨none, (.store 3 (.tmp 24) (.tmp 21)), 0, none⟩,
  ⟨some 25, (.fieldAddr 46 (.tmp 5) 3), 0, none⟩,
  ⟨none, (.store 3 (.tmp 25) (.tmp 22)), 0, none⟩,
  ⟨some 6, (.assign (.tmp 23)), 3, none⟩]
def f39r9 : List AOp := [
  ⟨some 27, (.move (.tmp 6)), 3, none⟩,
  ⟨some 28, (.binOp .eql 3 (.tmp 27) (.const (.int .i64 0)) 3), 4, none⟩,
  ⟨some 26, (.assign (.tmp 28)), 4, none⟩]
def f39r10 : List AOp := [
  ⟨some 29, (.build 46 #[]), 46, none⟩,
  ⟨none, (.store 46 (.tmp 2) (.tmp 29)), 0, none⟩,
  ⟨some 3, (.assign (.const (.int .i64 0))), 3, none⟩,
  ⟨some 4, (.assign (.const (.int .i64 3))), 23, none⟩]
def f39r11 : List AOp := [
  ⟨some 31, (.fieldAddr 46 (.tmp 5) 2), 0, none⟩,
  ⟨some 32, (.load 3 (.tmp 31)), 3, none⟩,
  ⟨some 33, (.fieldAddr 46 (.tmp 5) 3), 0, none⟩,
  ⟨some 34, (.load 3 (.tmp 33)), 3, none⟩,
  ⟨some 35, (.call { callee := (.builtin .max), args := #[(.tmp 32), (.tmp 34)], argTypes := #[3, 3] }), 3, none⟩,
  ⟨some 36, (.binOp .gtr 3 (.tmp 35) (.const (.int .i64 100)) 3), 4, none⟩,
  ⟨some 30, (.assign (.tmp 36)), 4, none⟩]
def f39r12 : List AOp := [
  ⟨some 37, (.build 46 #[]), 46, none⟩,
  ⟨none, (.store 46 (.tmp 2) (.tmp 37)), 0, none⟩,
  ⟨some 3, (.assign (.const (.int .i64 0))), 3, none⟩,
  ⟨some 4, (.assign (.const (.int .i64 4))), 23, none⟩]
def f39r13p0 : List AOp := [
  ⟨some 39, (.fieldAddr 46 (.tmp 5) 3), 0, none⟩,
  ⟨some 40, (.load 3 (.tmp 39)), 3, none⟩,
  ⟨some 41, (.binOp .neq 3 (.tmp 40) (.const (.int .i64 (-1))) 3), 4, none⟩,
  ⟨some 42, (.move (.tmp 41)), 4, none⟩,
  ⟨some 43, (.fieldAddr 46 (.tmp 5) 3), 0, some (42, true)⟩,
  ⟨some 44, (.load 3 (.tmp 43)), 3, some (42, true)⟩,
  ⟨some 45, (.fieldAddr 46 (.tmp 5) 2), 0, some (42, true)⟩,
  ⟨some 46, (.load 3 (.tmp 45)), 3, some (42, true)⟩,
  ⟨some 47, (.binOp .lss 3 (.tmp 44) (.tmp 46) 3), 4, some (42, true)⟩,
  ⟨some 48, (.pick (.tmp 42) (.tmp 47) (.const (.bool false))), 4, none⟩]
def f39r13p1 : List AOp := [
  ⟨some 38, (.assign (.tmp 48)), 4, none⟩]
def f39r13 : List AOp := f39r13p0 ++ f39r13p1
def f39r14 : List AOp := [
  ⟨some 49, (.build 46 #[]), 46, none⟩,
  ⟨none, (.store 46 (.tmp 2) (.tmp 49)), 0, none⟩,
  ⟨some 3, (.assign (.const (.int .i64 0))), 3, none⟩,
  ⟨some 4, (.assign (.const (.int .i64 3))), 23, none⟩]
def f39r15 : List AOp := [
  ⟨some 51, (.move (.tmp 0)), 9, none⟩,
  ⟨some 52, (.move (.tmp 6)), 3, none⟩,
  ⟨some 53, (.slice 9 (.tmp 51) (some (.tmp 52)) none none), 9, none⟩,
  ⟨some 54, (.call { callee := (.value (.func 26)), args := #[(.tmp 53), (.const (.string { data := #[63] }))], argTypes := #[9, 9] }), 4, none⟩,
  ⟨some 50, (.assign (.tmp 54)), 4, none⟩]
def f39r16 : List AOp := [
  ⟨some 55, (.fieldAddr 46 (.tmp 5) 4), 0, none⟩,
  ⟨none, (.store 3 (.tmp 55) (.const (.int .i64 1))), 0, none⟩]
def f39r17 : List AOp := [
  ⟨some 56, (.move (.tmp 6)), 3, none⟩,
  ⟨some 57, (.binOp .add 3 (.tmp 56) (.const (.int .i64 1)) 3), 3, none⟩,
  ⟨some 6, (.assign (.tmp 57)), 3, none⟩]
def f39r18 : List AOp := [
  ⟨some 59, (.move (.tmp 0)), 9, none⟩,
  ⟨some 60, (.move (.tmp 6)), 3, none⟩,
  ⟨some 61, (.slice 9 (.tmp 59) (some (.tmp 60)) none none), 9, none⟩,
  ⟨some 62, (.call { callee := (.value (.func 26)), args := #[(.tmp 61), (.const (.string { data := #[43] }))], argTypes := #[9, 9] }), 4, none⟩,
  ⟨some 58, (.assign (.tmp 62)), 4, none⟩]
def f39r19 : List AOp := [
  ⟨some 63, (.fieldAddr 46 (.tmp 5) 4), 0, none⟩,
  ⟨none, (.store 3 (.tmp 63) (.const (.int .i64 2))), 0, none⟩]
def f39r20 : List AOp := [
  ⟨some 64, (.move (.tmp 6)), 3, none⟩,
  ⟨some 65, (.binOp .add 3 (.tmp 64) (.const (.int .i64 1)) 3), 3, none⟩,
  ⟨some 6, (.assign (.tmp 65)), 3, none⟩]
def f39r21 : List AOp := [
  ⟨some 66, (.load 46 (.tmp 5)), 46, none⟩,
  ⟨some 67, (.move (.tmp 6)), 3, none⟩,
  ⟨none, (.store 46 (.tmp 2) (.tmp 66)), 0, none⟩,
  ⟨some 3, (.assign (.tmp 67)), 3, none⟩,
  ⟨some 4, (.assign (.const (.int .i64 0))), 23, none⟩]
def f39 : AFun := ⟨68, [(.cell 2 46), (.tmp 3), (.tmp 4)], (.seq (.ops false f39r0) (.seq (.ops false f39r1) (.seq (.seq (.ops false f39r2) (.block 0 (.seq (.ops false f39r3) (.cond (.tmp 10) (.ops false f39r4) (.seq (.ops false f39r5) (.cond (.tmp 13) (.ops false f39r6) (.seq (.ops false f39r7) (.cond (.tmp 16) (.seq (.ops false f39r8) (.block 1 (.seq (.ops false f39r9) (.cond (.tmp 26) (.seq (.ops false f39r10) .ret) (.seq (.ops false f39r11) (.cond (.tmp 30) (.seq (.ops false f39r12) .ret) (.seq (.ops false f39r13) (.cond (.tmp 38) (.seq (.ops false f39r14) .ret) .skip)))))))) .skip)))))))) (.seq (.block 2 (.seq (.ops false f39r15) (.cond (.tmp 50) (.seq (.ops false f39r16) (.ops false f39r17)) (.seq (.ops false f39r18) (.cond (.tmp 58) (.seq (.ops false f39r19) (.ops false f39r20)) .skip))))) (.seq (.ops false f39r21) .ret)))))⟩

-- clew/lex.escaped
def f40r0 : List AOp := [
  ⟨some 2, (.alloc 46), 0, none⟩,
  ⟨some 3, (.assign (.const (.int .i64 0))), 3, none⟩,
  ⟨some 4, (.assign (.const (.int .i64 0))), 23, none⟩]
def f40r1 : List AOp := [
  ⟨some 8, (.move (.tmp 0)), 9, none⟩,
  ⟨some 9, (.slice 9 (.tmp 8) (some (.const (.int .i64 1))) none none), 9, none⟩,
  ⟨some 5, (.assign (.tmp 9)), 9, none⟩]
def f40r2 : List AOp := [
  ⟨some 11, (.move (.tmp 5)), 9, none⟩,
  ⟨some 12, (.call { callee := (.value (.func 26)), args := #[(.tmp 11), (.const (.string { data := #[98] }))], argTypes := #[9, 9] }), 4, none⟩,
  ⟨some 10, (.assign (.tmp 12)), 4, none⟩]
def f40r3 : List AOp := [
  ⟨some 13, (.build 46 #[(0, (.const (.int .i64 4)))]), 46, none⟩,
  ⟨none, (.store 46 (.tmp 2) (.tmp 13)), 0, none⟩,
  ⟨some 3, (.assign (.const (.int .i64 2))), 3, none⟩,
  ⟨some 4, (.assign (.const (.int .i64 0))), 23, none⟩]
def f40r4 : List AOp := [
  ⟨some 15, (.move (.tmp 5)), 9, none⟩,
  ⟨some 16, (.call { callee := (.value (.func 26)), args := #[(.tmp 15), (.const (.string { data := #[66] }))], argTypes := #[9, 9] }), 4, none⟩,
  ⟨some 14, (.assign (.tmp 16)), 4, none⟩]
def f40r5 : List AOp := [
  ⟨some 17, (.build 46 #[(0, (.const (.int .i64 5)))]), 46, none⟩,
  ⟨none, (.store 46 (.tmp 2) (.tmp 17)), 0, none⟩,
  ⟨some 3, (.assign (.const (.int .i64 2))), 3, none⟩,
  ⟨some 4, (.assign (.const (.int .i64 0))), 23, none⟩]
def f40r6p0 : List AOp := [
  ⟨some 19, (.move (.tmp 5)), 9, none⟩,
  ⟨some 20, (.binOp .neq 9 (.tmp 19) (.const (.string { data := #[] })) 9), 4, none⟩,
  ⟨some 21, (.move (.tmp 20)), 4, none⟩,
  ⟨some 22, (.move (.tmp 5)), 9, some (21, true)⟩,
  ⟨some 23, (.index 9 (.tmp 22) (.const (.int .i64 0))), 5, some (21, true)⟩,
  ⟨some 24, (.call { callee := (.value (.func 52)), args := #[(.tmp 23), (.const (.int .i64 10))], argTypes := #[5, 3] }), 3, some (21, true)⟩,
  ⟨some 25, (.binOp .gtr 3 (.tmp 24) (.const (.int .i64 0)) 3), 4, some (21, true)⟩,
  ⟨some 26, (.pick (.tmp 21) (.tmp 25) (.const (.bool false))), 4, none⟩]
def f40r6p1 : List AOp := [
  ⟨some 18, (.assign (.tmp 26)), 4, none⟩]
def f40r6 : List AOp := f40r6p0 ++ f40r6p1
def f40r7 : List AOp := [
  ⟨some 27, (.move (.tmp 5)), 9, none⟩,
  ⟨some 28, (.index 9 (.tmp 27) (.const (.int .i64 0))), 5, none⟩,
  ⟨some 29, (.call { callee := (.value (.func 52)), args := #[(.tmp 28), (.const (.int .i64 10))], argTypes := #[5, 3] }), 3, none⟩,
  ⟨some 30, (.build 46 #[(0, (.const (.int .i64 17))), (5, (.tmp 29))]), 46, none⟩,
  ⟨none, (.store 46 (.tmp 2) (.tmp 30)), 0, none⟩,
  ⟨some 3, (.assign (.const (.int .i64 2))), 3, none⟩,
  ⟨some 4, (.assign (.const (.int .i64 0))), 23, none⟩]
def f40r8 : List AOp := [
  ⟨some 32, (.move (.tmp 5)), 9, none⟩,
  ⟨some 33, (.call { callee := (.value (.func 53)), args := #[(.tmp 32)], argTypes := #[9] }), 63, none⟩,
  ⟨some 31, (.move (.tmp 33)), 63, none⟩,
  ⟨some 34, (.extract (.tmp 31) 0), 36, none⟩,
  ⟨some 35, (.extract (.tmp 31) 1), 3, none⟩,
  ⟨some 6, (.alloc 36), 0, none⟩,
  ⟨none, (.store 36 (.tmp 6) (.tmp 34)), 0, none⟩,
  ⟨some 7, (.assign (.tmp 35)), 3, none⟩]
def f40r9 : List AOp := [
  ⟨some 36, (.move (.tmp 7)), 3, none⟩,
  ⟨some 37, (.binOp .eql 3 (.tmp 36) (.const (.int .i64 0)) 3), 4, none⟩]
def f40r10 : List AOp := [
  ⟨some 38, (.build 46 #[]), 46, none⟩,
  ⟨none, (.store 46 (.tmp 2) (.tmp 38)), 0, none⟩,
  ⟨some 3, (.assign (.const (.int .i64 0))), 3, none⟩,
  ⟨some 4, (.assign (.const (.int .i64 3))), 23, none⟩]
def f40r11 : List AOp := [
  ⟨some 39, (.load 36 (.tmp 6)), 36, none⟩,
  ⟨some 40, (.build 46 #[(1, (.tmp 39))]), 46, none⟩,
  ⟨some 41, (.move (.tmp 7)), 3, none⟩,
  ⟨some 42, (.binOp .add 3 (.tmp 41) (.const (.int .i64 1)) 3), 3, none⟩,
  ⟨none, (.store 46 (.tmp 2) (.tmp 40)), 0, none⟩,
  ⟨some 3, (.assign (.tmp 42)), 3, none⟩,
  ⟨some 4, (.assign (.const (.int .i64 0))), 23, none⟩]
def f40 : AFun := ⟨43, [(.cell 2 46), (.tmp 3), (.tmp 4)], (.seq (.ops false f40r0) (.seq (.ops false f40r1) (.seq (.block 0 (.seq (.ops false f40r2) (.cond (.tmp 10) (.seq (.ops false f40r3) .ret) (.seq (.ops false f40r4) (.cond (.tmp 14) (.seq (.ops false f40r5) .ret) (.seq (.ops false f40r6) (.cond (.tmp 18) (.seq (.ops false f40r7) .ret) .skip))))))) (.seq (.ops false f40r8) (.seq (.seq (.ops false f40r9) (.cond (.tmp 37) (.seq (.ops false f40r10) .ret) .skip)) (.seq (.ops false f40r11) .ret))))))⟩

-- clew/clewref06.one
def f43r0 : List AOp := [
  ⟨some 2, (.alloc 68), 0, none⟩]
def f43r1 : List AOp := [
  ⟨some 3, (.move (.tmp 0)), 5, none⟩,
  ⟨some 4, (.move (.tmp 0)), 5, none⟩,
  ⟨some 5, (.call { callee := (.value (.func 32)), args := #[(.tmp 3), (.tmp 4)], argTypes := #[5, 5] }), 68, none⟩,
  ⟨none, (.store 68 (.tmp 2) (.tmp 5)), 0, none⟩]
def f43 : AFun := ⟨6, [(.cell 2 68)], (.seq (.ops false f43r0) (.seq (.ops false f43r1) .ret))⟩

-- clew/clewref06.escape
def f44r0 : List AOp := [
  ⟨some 4, (.alloc 68), 0, none⟩,
  ⟨some 5, (.assign (.const (.int .i64 0))), 3, none⟩]
def f44r1 : List AOp := [
  ⟨some 13, (.build 68 #[]), 68, none⟩,
  ⟨some 6, (.alloc 68), 0, none⟩,
  ⟨none, (.store 68 (.tmp 6) (.tmp 13)), 0, none⟩]
def f44r2 : List AOp := [
  ⟨some 14, (.move (.tmp 1)), 3, none⟩,
  ⟨some 15, (.binOp .add 3 (.tmp 14) (.const (.int .i64 1)) 3), 3, none⟩,
  ⟨some 16, (.move (.tmp 0)), 9, none⟩,
  ⟨some 17, (.call { callee := (.builtin .len), args := #[(.tmp 16)], argTypes := #[9] }), 3, none⟩,
  ⟨some 18, (.binOp .geq 3 (.tmp 15) (.tmp 17) 3), 4, none⟩]
def f44r3 : List AOp := [
  ⟨some 19, (.load 68 (.tmp 6)), 68, none⟩,
  ⟨none, (.store 68 (.tmp 4) (.tmp 19)), 0, none⟩,
  ⟨some 5, (.assign (.const (.int .i64 0))), 3, none⟩]
def f44r4 : List AOp := [
  ⟨some 20, (.move (.tmp 0)), 9, none⟩,
  ⟨some 21, (.move (.tmp 1)), 3, none⟩,
  ⟨some 22, (.binOp .add 3 (.tmp 21) (.const (.int .i64 1)) 3), 3, none⟩,
  ⟨some 23, (.index 9 (.tmp 20) (.tmp 22)), 5, none⟩,
  ⟨some 24, (.move (.tmp 1)), 3, none⟩,
  ⟨some 25, (.binOp .add 3 (.tmp 24) (.const (.int .i64 2)) 3), 3, none⟩,
  ⟨some 7, (.assign (.tmp 23)), 5, none⟩,
  ⟨some 8, (.assign (.tmp 25)), 3, none⟩]
def f44r5 : List AOp := [
  ⟨some 26, (.call { callee := (.value (.func 32)), args := #[(.const (.int .u8 48)), (.const (.int .u8 57))], argTypes := #[5, 5] }), 68, none⟩,
  ⟨some 27, (.call { callee := (.value (.func 32)), args := #[(.const (.int .u8 48)), (.const (.int .u8 57))], argTypes := #[5, 5] }), 68, none⟩,
  ⟨some 28, (.call { callee := (.value (.func 34)), args := #[(.tmp 27)], argTypes := #[68] }), 68, none⟩,
  ⟨some 29, (.call { callee := (.value (.func 55)), args := #[], argTypes := #[] }), 68, none⟩,
  ⟨some 30, (.call { callee := (.value (.func 55)), args := #[], argTypes := #[] }), 68, none⟩,
  ⟨some 31, (.call { callee := (.value (.func 34)), args := #[(.tmp 30)], argTypes := #[68] }), 68, none⟩,
  ⟨some 32, (.call { callee := (.value (.func 56)), args := #[], argTypes := #[] }), 68, none⟩,
  ⟨some 33, (.call { callee := (.value (.func 56)), args := #[], argTypes := #[] }), 68, none⟩,
  ⟨some 34, (.call { callee := (.value (.func 34)), args := #[(.tmp 33)], argTypes := #[68] }), 68, none⟩,
  ⟨some 35, (.call { callee := (.value (.func 43)), args := #[(.const (.int .u8 10))], argTypes := #[5] }), 68, none⟩,
  ⟨some 36, (.call { callee := (.value (.func 43)), args := #[(.const (.int .u8 9))], argTypes := #[5] }), 68, none⟩,
  ⟨some 37, (.call { callee := (.value (.func 43)), args := #[(.const (.int .u8 13))], argTypes := #[5] }), 68, none⟩,
  ⟨some 38, (.call { callee := (.value (.func 43)), args := #[(.const (.int .u8 12))], argTypes := #[5] }), 68, none⟩,
  ⟨some 39, (.call { callee := (.value (.func 43)), args := #[(.const (.int .u8 11))], argTypes := #[5] }), 68, none⟩,
  ⟨some 40, (.buildSlice 94 11 #[(0, (.tmp 26)), (1, (.tmp 28)), (2, (.tmp 29)), (3, (.tmp 31)), (4, (.tmp 32)), (5, (.tmp 34)), (6, (.tmp 35)), (7, (.tmp 36)), (8, (.tmp 37)), (9, (.tmp 38)), (10, (.tmp 39))]), 94, none⟩,
  ⟨some 9, (.assign (.const (.string { data := #[100, 68, 119, 87, 115, 83, 110, 116, 114, 102, 118] }))), 9, none⟩,
  ⟨some 10, (.assign (.tmp 40)), 94, none⟩]
def f44r6 : List AOp := [
  ⟨some 11, (.assign (.const (.int .i64 0))), 3, none⟩]
def f44r7 : List AOp := [
  ⟨some 41, (.move (.tmp 11)), 3, none⟩,
  ⟨some 42, (.move (.tmp 9)), 9, none⟩,
  ⟨some 43, (.call { callee := (.builtin .len), args := #[(.tmp 42)], argTypes := #[9] }), 3, none⟩,
  ⟨some 44, (.binOp .lss 3 (.tmp 41) (.tmp 43) 3), 4, none⟩]
def f44r9 : List AOp := [
  ⟨some 47, (.move (.tmp 9)), 9, none⟩,
  ⟨some 48, (.move (.tmp 11)), 3, none⟩,
  ⟨some 49, (.index 9 (.tmp 47) (.tmp 48)), 5, none⟩,
  ⟨some 50, (.move (.tmp 7)), 5, none⟩,
  ⟨some 51, (.binOp .eql 5 (.tmp 49) (.tmp 50) 5), 4, none⟩]
def f44r10 : List AOp := [
  ⟨some 52, (.move (.tmp 10)), 94, none⟩,
  ⟨some 53, (.move (.tmp 11)), 3, none⟩,
  ⟨some 54, (.indexAddr 94 (.tmp 52) (.tmp 53)), 0, none⟩,
  ⟨some 55, (.load 68 (.tmp 54)), 68, none⟩,
  ⟨some 56, (.move (.tmp 8)), 3, none⟩,
  ⟨none, (.store 68 (.tmp 4) (.tmp 55)), 0, none⟩,
  ⟨some 5, (.assign (.tmp 56)), 3, none⟩]
def f44r8 : List AOp := [
  ⟨some 45, (.move (.tmp 11)), 3, none⟩,
  ⟨some 46, (.binOp .add 3 (.tmp 45) (.const (.int .i64 1)) 3), 3, none⟩,
  ⟨some 11, (.assign (.tmp 46)), 3, none⟩]
def f44b0 : AC := (.seq (.seq (.ops false f44r7) (.cond (.tmp 44) .skip (.exit 0))) (.seq (.block 1 (.seq (.ops false f44r9) (.cond (.tmp 51) (.seq (.ops false f44r10) .ret) .skip))) (.ops false f44r8)))
def f44r11p0 : List AOp := [
  ⟨some 57, (.move (.tmp 7)), 5, none⟩,
  ⟨some 58, (.binOp .eql 5 (.tmp 57) (.const (.int .u8 120)) 5), 4, none⟩,
  ⟨some 59, (.move (.tmp 58)), 4, none⟩,
  ⟨some 60, (.move (.tmp 1)), 3, some (59, true)⟩,
  ⟨some 61, (.binOp .add 3 (.tmp 60) (.const (.int .i64 3)) 3), 3, some (59, true)⟩,
  ⟨some 62, (.move (.tmp 0)), 9, some (59, true)⟩,
  ⟨some 63, (.call { callee := (.builtin .len), args := #[(.tmp 62)], argTypes := #[9] }), 3, some (59, true)⟩,
  ⟨some 64, (.binOp .lss 3 (.tmp 61) (.tmp 63) 3), 4, some (59, true)⟩,
  ⟨some 65, (.pick (.tmp 59) (.tmp 64) (.const (.bool false))), 4, none⟩]
def f44r11p1 : List AOp := [
  ⟨some 66, (.move (.tmp 65)), 4, none⟩,
  ⟨some 67, (.move (.tmp 0)), 9, some (66, true)⟩,
  ⟨some 68, (.move (.tmp 1)), 3, some (66, true)⟩,
  ⟨some 69, (.binOp .add 3 (.tmp 68) (.const (.int .i64 2)) 3), 3, some (66, true)⟩,
  ⟨some 70, (.index 9 (.tmp 67) (.tmp 69)), 5, some (66, true)⟩,
  ⟨some 71, (.call { callee := (.value (.func 57)), args := #[(.tmp 70)], argTypes := #[5] }), 3, some (66, true)⟩,
  ⟨some 72, (.binOp .geq 3 (.tmp 71) (.const (.int .i64 0)) 3), 4, some (66, true)⟩,
  ⟨some 73, (.pick (.tmp 66) (.tmp 72) (.const (.bool false))), 4, none⟩]
def f44r11p2 : List AOp := [
  ⟨some 74, (.move (.tmp 73)), 4, none⟩,
  ⟨some 75, (.move (.tmp 0)), 9, some (74, true)⟩,
  ⟨some 76, (.move (.tmp 1)), 3, some (74, true)⟩,
  ⟨some 77, (.binOp .add 3 (.tmp 76) (.const (.int .i64 3)) 3), 3, some (74, true)⟩,
  ⟨some 78, (.index 9 (.tmp 75) (.tmp 77)), 5, some (74, true)⟩,
  ⟨some 79, (.call { callee := (.value (.func 57)), args := #[(.tmp 78)], argTypes := #[5] }), 3, some (74, true)⟩,
  ⟨some 80, (.binOp .geq 3 (.tmp 79) (.const (.int .i64 0)) 3), 4, some (74, true)⟩,
  ⟨some 81, (.pick (.tmp 74) (.tmp 80) (.const (.bool false))), 4, none⟩]
def f44r11 : List AOp := f44r11p0 ++ (f44r11p1 ++ f44r11p2)
def f44r12 : List AOp := [
  ⟨some 82, (.move (.tmp 0)), 9, none⟩,
  ⟨some 83, (.move (.tmp 1)), 3, none⟩,
  ⟨some 84, (.binOp .add 3 (.tmp 83) (.const (.int .i64 2)) 3), 3, none⟩,
  ⟨some 85, (.index 9 (.tmp 82) (.tmp 84)), 5, none⟩,
  ⟨some 86, (.call { callee := (.value (.func 57)), args := #[(.tmp 85)], argTypes := #[5] }), 3, none⟩,
  ⟨some 87, (.binOp .mul 3 (.const (.int .i64 16)) (.tmp 86) 3), 3, none⟩,
  ⟨some 88, (.move (.tmp 0)), 9, none⟩,
  ⟨some 89, (.move (.tmp 1)), 3, none⟩,
  ⟨some 90, (.binOp .add 3 (.tmp 89) (.const (.int .i64 3)) 3), 3, none⟩,
  ⟨some 91, (.index 9 (.tmp 88) (.tmp 90)), 5, none⟩,
  ⟨some 92, (.call { callee := (.value (.func 57)), args := #[(.tmp 91)], argTypes := #[5] }), 3, none⟩,
  ⟨some 93, (.binOp .add 3 (.tmp 87) (.tmp 92) 3), 3, none⟩,
  ⟨some 94, (.convert 3 5 (.tmp 93)), 5, none⟩,
  ⟨some 95, (.call { callee := (.value (.func 43)), args := #[(.tmp 94)], argTypes := #[5] }), 68, none⟩,
  ⟨some 96, (.move (.tmp 1)), 3, none⟩,
  ⟨some 97, (.binOp .add 3 (.tmp 96) (.const (.int .i64 4)) 3), 3, none⟩,
  ⟨none, (.store 68 (.tmp 4) (.tmp 95)), 0, none⟩,
  ⟨some 5, (.assign (.tmp 97)), 3, none⟩]
def f44r13 : List AOp := [
  ⟨some 98, (.call { callee := (.value (.func 55)), args := #[], argTypes := #[] }), 68, none⟩,
  ⟨some 12, (.alloc 68), 0, none⟩,
  ⟨none, (.store 68 (.tmp 12) (.tmp 98)), 0, none⟩]
def f44r14 : List AOp := [
  ⟨some 99, (.move (.tmp 7)), 5, none⟩,
  ⟨some 100, (.binOp .eql 5 (.tmp 99) (.const (.int .u8 95)) 5), 4, none⟩,
  ⟨some 101, (.move (.tmp 100)), 4, none⟩,
  ⟨some 102, (.move (.tmp 7)), 5, some (101, false)⟩,
  ⟨some 103, (.convert 5 3 (.tmp 102)), 3, some (101, false)⟩,
  ⟨some 104, (.fieldAddr 68 (.tmp 12) 0), 0, some (101, false)⟩,
  ⟨some 105, (.indexAddr 66 (.tmp 104) (.tmp 103)), 0, some (101, false)⟩,
  ⟨some 106, (.load 4 (.tmp 105)), 4, some (101, false)⟩,
  ⟨some 107, (.unOp .not 4 (.tmp 106)), 4, some (101, false)⟩,
  ⟨some 108, (.pick (.tmp 101) (.const (.bool true)) (.tmp 107)), 4, none⟩]
def f44r15 : List AOp := [
  ⟨some 109, (.move (.tmp 7)), 5, none⟩,
  ⟨some 110, (.call { callee := (.value (.func 43)), args := #[(.tmp 109)], argTypes := #[5] }), 68, none⟩,
  ⟨some 111, (.move (.tmp 8)), 3, none⟩,
  ⟨none, (.store 68 (.tmp 4) (.tmp 110)), 0, none⟩,
  ⟨some 5, (.assign (.tmp 111)), 3, none⟩]
def f44r16 : List AOp := [
  ⟨some 112, (.load 68 (.tmp 6)), 68, none⟩,
  ⟨none, (.store 68 (.tmp 4) (.tmp 112)), 0, none⟩,
  ⟨some 5, (.assign (.const (.int .i64 0))), 3, none⟩]
def f44 : AFun := ⟨113, [(.cell 4 68), (.tmp 5)], (.seq (.ops false f44r0) (.seq (.ops false f44r1) (.seq (.seq (.ops false f44r2) (.cond (.tmp 18) (.seq (.ops false f44r3) .ret) .skip)) (.seq (.ops false f44r4) (.seq (.ops false f44r5) (.seq (.seq (.ops false f44r6) (.block 0 (.loop [0, 1, 4, 6, 7, 8, 9, 10, 11] f44b0))) (.seq (.seq (.ops false f44r11) (.cond (.tmp 81) (.seq (.ops false f44r12) .ret) .skip)) (.seq (.ops false f44r13) (.seq (.seq (.ops false f44r14) (.cond (.tmp 108) (.seq (.ops false f44r15) .ret) .skip)) (.seq (.ops false f44r16) .ret))))))))))⟩

-- internal/stringslite.HasPrefix
def f45r0 : List AOp := [
  ⟨some 4, (.assign (.const (.bool false))), 4, none⟩]
def f45r1p0 : List AOp := [
  ⟨some 5, (.move (.tmp 0)), 9, none⟩,
  ⟨some 6, (.call { callee := (.builtin .len), args := #[(.tmp 5)], argTypes := #[9] }), 3, none⟩,
  ⟨some 7, (.move (.tmp 1)), 9, none⟩,
  ⟨some 8, (.call { callee := (.builtin .len), args := #[(.tmp 7)], argTypes := #[9] }), 3, none⟩,
  ⟨some 9, (.binOp .geq 3 (.tmp 6) (.tmp 8) 3), 4, none⟩,
  ⟨some 10, (.move (.tmp 9)), 4, none⟩,
  ⟨some 11, (.move (.tmp 0)), 9, some (10, true)⟩,
  ⟨some 12, (.move (.tmp 1)), 9, some (10, true)⟩,
  ⟨some 13, (.call { callee := (.builtin .len), args := #[(.tmp 12)], argTypes := #[9] }), 3, some (10, true)⟩,
  ⟨some 14, (.slice 9 (.tmp 11) none (some (.tmp 13)) none), 9, some (10, true)⟩,
  ⟨some 15, (.move (.tmp 1)), 9, some (10, true)⟩,
  ⟨some 16, (.binOp .eql 9 (.tmp 14) (.tmp 15) 9), 4, some (10, true)⟩,
  ⟨some 17, (.pick (.tmp 10) (.tmp 16) (.const (.bool false))), 4, none⟩]
def f45r1p1 : List AOp := [
  ⟨some 4, (.assign (.tmp 17)), 4, none⟩]
def f45r1 : List AOp := f45r1p0 ++ f45r1p1
def f45 : AFun := ⟨18, [(.tmp 4)], (.seq (.ops false f45r0) (.seq (.ops false f45r1) .ret))⟩

-- clew/lex.item
def f46r0 : List AOp := [
  ⟨some 2, (.alloc 36), 0, none⟩,
  ⟨some 3, (.assign (.const (.int .i64 0))), 3, none⟩]
def f46r1p0 : List AOp := [
  ⟨some 7, (.move (.tmp 0)), 9, none⟩,
  ⟨some 8, (.binOp .eql 9 (.tmp 7) (.const (.string { data := #[] })) 9), 4, none⟩,
  ⟨some 9, (.move (.tmp 8)), 4, none⟩,
  ⟨some 10, (.move (.tmp 0)), 9, some (9, false)⟩,
  ⟨some 11, (.index 9 (.tmp 10) (.const (.int .i64 0))), 5, some (9, false)⟩,
  ⟨some 12, (.call { callee := (.value (.func 49)), args := #[(.const (.string { data := #[91, 93, 45] })), (.tmp 11)], argTypes := #[9, 5] }), 3, some (9, false)⟩,
  ⟨some 13, (.binOp .geq 3 (.tmp 12) (.const (.int .i64 0)) 3), 4, some (9, false)⟩,
  ⟨some 14, (.pick (.tmp 9) (.const (.bool true)) (.tmp 13)), 4, none⟩]
def f46r1p1 : List AOp := [
  ⟨some 6, (.assign (.tmp 14)), 4, none⟩]
def f46r1 : List AOp := f46r1p0 ++ f46r1p1
def f46r2 : List AOp := [
  ⟨some 15, (.build 36 #[]), 36, none⟩,
  ⟨none, (.store 36 (.tmp 2) (.tmp 15)), 0, none⟩,
  ⟨some 3, (.assign (.const (.int .i64 0))), 3, none⟩]
def f46r3 : List AOp := [
  ⟨some 17, (.move (.tmp 0)), 9, none⟩,
  ⟨some 18, (.index 9 (.tmp 17) (.const (.int .i64 0))), 5, none⟩,
  ⟨some 19, (.binOp .eql 5 (.tmp 18) (.const (.int .u8 92)) 5), 4, none⟩,
  ⟨some 16, (.assign (.tmp 19)), 4, none⟩]
def f46r4 : List AOp := [
  ⟨some 21, (.move (.tmp 0)), 9, none⟩,
  ⟨some 22, (.slice 9 (.tmp 21) (some (.const (.int .i64 1))) none none), 9, none⟩,
  ⟨some 23, (.call { callee := (.value (.func 53)), args := #[(.tmp 22)], argTypes := #[9] }), 63, none⟩,
  ⟨some 20, (.move (.tmp 23)), 63, none⟩,
  ⟨some 24, (.extract (.tmp 20) 0), 36, none⟩,
  ⟨some 25, (.extract (.tmp 20) 1), 3, none⟩,
  ⟨some 4, (.alloc 36), 0, none⟩,
  ⟨none, (.store 36 (.tmp 4) (.tmp 24)), 0, none⟩,
  ⟨some 5, (.assign (.tmp 25)), 3, none⟩]
def f46r5 : List AOp := [
  ⟨some 26, (.move (.tmp 5)), 3, none⟩,
  ⟨some 27, (.binOp .eql 3 (.tmp 26) (.const (.int .i64 0)) 3), 4, none⟩]
def f46r6 : List AOp := [
  ⟨some 28, (.build 36 #[]), 36, none⟩,
  ⟨none, (.store 36 (.tmp 2) (.tmp 28)), 0, none⟩,
  ⟨some 3, (.assign (.const (.int .i64 0))), 3, none⟩]
def f46r7 : List AOp := [
  ⟨some 29, (.load 36 (.tmp 4)), 36, none⟩,
  ⟨some 30, (.move (.tmp 5)), 3, none⟩,
  ⟨some 31, (.binOp .add 3 (.tmp 30) (.const (.int .i64 1)) 3), 3, none⟩,
  ⟨none, (.store 36 (.tmp 2) (.tmp 29)), 0, none⟩,
  ⟨some 3, (.assign (.tmp 31)), 3, none⟩]
def f46r8 : List AOp := [
  ⟨some 32, (.move (.tmp 0)), 9, none⟩,
  ⟨some 33, (.index 9 (.tmp 32) (.const (.int .i64 0))), 5, none⟩,
  ⟨some 34, (.call { callee := (.value (.func 17)), args := #[(.tmp 33)], argTypes := #[5] }), 36, none⟩,
  ⟨none, (.store 36 (.tmp 2) (.tmp 34)), 0, none⟩,
  ⟨some 3, (.assign (.const (.int .i64 1))), 3, none⟩]
def f46 : AFun := ⟨35, [(.cell 2 36), (.tmp 3)], (.seq (.ops false f46r0) (.seq (.block 0 (.seq (.ops false f46r1) (.cond (.tmp 6) (.seq (.ops false f46r2) .ret) (.seq (.ops false f46r3) (.cond (.tmp 16) (.seq (.ops false f46r4) (.seq (.seq (.ops false f46r5) (.cond (.tmp 27) (.seq (.ops false f46r6) .ret) .skip)) (.seq (.ops false f46r7) .ret))) .skip))))) (.seq (.ops false f46r8) .ret)))⟩

-- (clew/class.Set).Min
def f47r0 : List AOp := [
  ⟨some 1, (.box 36 (.tmp 0)), 0, none⟩,
  ⟨some 2, (.assign (.const (.int .u8 0))), 5, none⟩,
  ⟨some 3, (.assign (.const (.bool false))), 4, none⟩]
def f47r1 : List AOp := [
  ⟨some 6, (.fieldAddr 36 (.tmp 1) 0), 0, none⟩,
  ⟨some 7, (.load 34 (.tmp 6)), 34, none⟩,
  ⟨some 8, (.move (.const (.int .i64 0))), 3, none⟩]
def f47r2 : List AOp := [
  ⟨some 9, (.binOp .lss 3 (.tmp 8) (.const (.int .i64 4)) 3), 0, none⟩]
def f47r3 : List AOp := [
  ⟨some 10, (.move (.tmp 8)), 3, none⟩,
  ⟨some 11, (.index 34 (.tmp 7) (.tmp 8)), 33, none⟩,
  ⟨some 4, (.assign (.tmp 10)), 3, none⟩,
  ⟨some 5, (.assign (.tmp 11)), 33, none⟩]
def f47r4 : List AOp := [
  ⟨some 12, (.move (.tmp 5)), 33, none⟩,
  ⟨some 13, (.binOp .neq 33 (.tmp 12) (.const (.int .u64 0)) 33), 4, none⟩]
def f47r5 : List AOp := [
  ⟨some 14, (.move (.tmp 4)), 3, none⟩,
  ⟨some 15, (.binOp .mul 3 (.tmp 14) (.const (.int .i64 64)) 3), 3, none⟩,
  ⟨some 16, (.move (.tmp 5)), 33, none⟩,
  ⟨some 17, (.call { callee := (.value (.func 58)), args := #[(.tmp 16)], argTypes := #[33] }), 3, none⟩,
  ⟨some 18, (.binOp .add 3 (.tmp 15) (.tmp 17) 3), 3, none⟩,
  ⟨some 19, (.convert 3 5 (.tmp 18)), 5, none⟩,
  ⟨some 2, (.assign (.tmp 19)), 5, none⟩,
  ⟨some 3, (.assign (.const (.bool true))), 4, none⟩]
def f47r6 : List AOp := [
  ⟨some 20, (.binOp .add 3 (.tmp 8) (.const (.int .i64 1)) 3), 3, none⟩,
  ⟨some 8, (.move (.tmp 20)), 3, none⟩]
def f47b0 : AC := (.seq (.ops false f47r2) (.seq (.cond (.tmp 9) .skip (.exit 0)) (.seq (.block 1 (.seq (.ops false f47r3) (.seq (.ops false f47r4) (.cond (.tmp 13) (.seq (.ops false f47r5) .ret) .skip)))) (.ops false f47r6))))
def f47r7 : List AOp := [
  ⟨some 2, (.assign (.const (.int .u8 0))), 5, none⟩,
  ⟨some 3, (.assign (.const (.bool false))), 4, none⟩]
def f47 : AFun := ⟨21, [(.tmp 2), (.tmp 3)], (.seq (.ops false f47r0) (.seq (.seq (.ops false f47r1) (.block 0 (.loop [7, 8] f47b0))) (.seq (.ops false f47r7) .ret)))⟩

-- (clew/class.Set).Len
def f48r0 : List AOp := [
  ⟨some 1, (.box 36 (.tmp 0)), 0, none⟩,
  ⟨some 2, (.assign (.const (.int .i64 0))), 3, none⟩]
def f48r1 : List AOp := [
  ⟨some 3, (.assign (.const (.int .i64 0))), 3, none⟩]
def f48r2 : List AOp := [
  ⟨some 6, (.fieldAddr 36 (.tmp 1) 0), 0, none⟩,
  ⟨some 7, (.load 34 (.tmp 6)), 34, none⟩,
  ⟨some 8, (.move (.const (.int .i64 0))), 3, none⟩]
def f48r3 : List AOp := [
  ⟨some 9, (.binOp .lss 3 (.tmp 8) (.const (.int .i64 4)) 3), 0, none⟩]
def f48r4 : List AOp := [
  ⟨some 10, (.index 34 (.tmp 7) (.tmp 8)), 33, none⟩,
  ⟨some 5, (.assign (.tmp 10)), 33, none⟩]
def f48r5 : List AOp := [
  ⟨some 11, (.move (.tmp 3)), 3, none⟩,
  ⟨some 12, (.move (.tmp 5)), 33, none⟩,
  ⟨some 13, (.call { callee := (.value (.func 59)), args := #[(.tmp 12)], argTypes := #[33] }), 3, none⟩,
  ⟨some 14, (.binOp .add 3 (.tmp 11) (.tmp 13) 3), 3, none⟩,
  ⟨some 3, (.assign (.tmp 14)), 3, none⟩]
def f48r6 : List AOp := [
  ⟨some 15, (.binOp .add 3 (.tmp 8) (.const (.int .i64 1)) 3), 3, none⟩,
  ⟨some 8, (.move (.tmp 15)), 3, none⟩]
def f48b0 : AC := (.seq (.ops false f48r3) (.seq (.cond (.tmp 9) .skip (.exit 0)) (.seq (.block 1 (.seq (.ops false f48r4) (.ops false f48r5))) (.ops false f48r6))))
def f48r7 : List AOp := [
  ⟨some 16, (.move (.tmp 3)), 3, none⟩,
  ⟨some 2, (.assign (.tmp 16)), 3, none⟩]
def f48 : AFun := ⟨17, [(.tmp 2)], (.seq (.ops false f48r0) (.seq (.ops false f48r1) (.seq (.seq (.ops false f48r2) (.block 0 (.loop [3, 7, 8] f48b0))) (.seq (.ops false f48r7) .ret))))⟩

-- strings.IndexByte
def f49r0 : List AOp := [
  ⟨some 4, (.assign (.const (.int .i64 0))), 3, none⟩]
def f49r1 : List AOp := [
  ⟨some 5, (.move (.tmp 0)), 9, none⟩,
  ⟨some 6, (.move (.tmp 1)), 5, none⟩,
  ⟨some 7, (.call { callee := (.value (.func 60)), args := #[(.tmp 5), (.tmp 6)], argTypes := #[9, 5] }), 3, none⟩,
  ⟨some 4, (.assign (.tmp 7)), 3, none⟩]
def f49 : AFun := ⟨8, [(.tmp 4)], (.seq (.ops false f49r0) (.seq (.ops false f49r1) .ret))⟩

-- clew/lex.hasRune
def f50r0 : List AOp := [
  ⟨some 4, (.assign (.const (.bool false))), 4, none⟩]
def f50r1 : List AOp := [
  ⟨some 7, (.move (.tmp 0)), 9, none⟩,
  ⟨some 8, (.range 9 (.tmp 7)), 0, none⟩]
def f50r2 : List AOp := [
  ⟨some 9, (.next (.tmp 8) true), 0, none⟩,
  ⟨some 10, (.extract (.tmp 9) 0), 4, none⟩]
def f50r3 : List AOp := [
  ⟨some 11, (.extract (.tmp 9) 2), 21, none⟩,
  ⟨some 6, (.assign (.tmp 11)), 21, none⟩]
def f50r4 : List AOp := [
  ⟨some 12, (.move (.tmp 6)), 21, none⟩,
  ⟨some 13, (.move (.tmp 1)), 21, none⟩,
  ⟨some 14, (.binOp .eql 21 (.tmp 12) (.tmp 13) 21), 4, none⟩]
def f50r5 : List AOp := [
  ⟨some 4, (.assign (.const (.bool true))), 4, none⟩]
def f50b0 : AC := (.seq (.ops false f50r2) (.seq (.cond (.tmp 10) .skip (.exit 0)) (.block 1 (.seq (.ops false f50r3) (.seq (.ops false f50r4) (.cond (.tmp 14) (.seq (.ops false f50r5) .ret) .skip))))))
def f50r6 : List AOp := [
  ⟨some 4, (.assign (.const (.bool false))), 4, none⟩]
def f50 : AFun := ⟨15, [(.tmp 4)], (.seq (.ops false f50r0) (.seq (.seq (.ops false f50r1) (.block 0 (.loop [1, 8] f50b0))) (.seq (.ops false f50r6) .ret)))⟩

-- clew/lex.counted
def f51r0 : List AOp := [
  ⟨some 2, (.assign (.const (.int .i64 0))), 3, none⟩,
  ⟨some 3, (.assign (.const (.int .i64 0))), 3, none⟩,
  ⟨some 4, (.assign (.const (.int .i64 0))), 3, none⟩]
def f51r1 : List AOp := [
  ⟨some 11, (.move (.tmp 0)), 9, none⟩,
  ⟨some 12, (.slice 9 (.tmp 11) (some (.const (.int .i64 1))) none none), 9, none⟩,
  ⟨some 13, (.call { callee := (.value (.func 61)), args := #[(.tmp 12)], argTypes := #[9] }), 97, none⟩,
  ⟨some 10, (.move (.tmp 13)), 97, none⟩,
  ⟨some 14, (.extract (.tmp 10) 0), 3, none⟩,
  ⟨some 15, (.extract (.tmp 10) 1), 3, none⟩,
  ⟨some 5, (.assign (.tmp 14)), 3, none⟩,
  ⟨some 6, (.assign (.tmp 15)), 3, none⟩]
def f51r2 : List AOp := [
  ⟨some 16, (.move (.tmp 6)), 3, none⟩,
  ⟨some 17, (.binOp .add 3 (.const (.int .i64 1)) (.tmp 16) 3), 3, none⟩,
  ⟨some 7, (.assign (.tmp 17)), 3, none⟩]
def f51r3 : List AOp := [
  ⟨some 18, (.move (.tmp 5)), 3, none⟩,
  ⟨some 8, (.assign (.tmp 18)), 3, none⟩]
def f51r4p0 : List AOp := [
  ⟨some 19, (.move (.tmp 6)), 3, none⟩,
  ⟨some 20, (.binOp .gtr 3 (.tmp 19) (.const (.int .i64 0)) 3), 4, none⟩,
  ⟨some 21, (.move (.tmp 20)), 4, none⟩,
  ⟨some 22, (.move (.tmp 7)), 3, some (21, true)⟩,
  ⟨some 23, (.move (.tmp 0)), 9, some (21, true)⟩,
  ⟨some 24, (.call { callee := (.builtin .len), args := #[(.tmp 23)], argTypes := #[9] }), 3, some (21, true)⟩,
  ⟨some 25, (.binOp .lss 3 (.tmp 22) (.tmp 24) 3), 4, some (21, true)⟩,
  ⟨some 26, (.pick (.tmp 21) (.tmp 25) (.const (.bool false))), 4, none⟩]
def f51r4p1 : List AOp := [
  ⟨some 27, (.move (.tmp 26)), 4, none⟩,
  ⟨some 28, (.move (.tmp 0)), 9, some (27, true)⟩,
  ⟨some 29, (.move (.tmp 7)), 3, some (27, true)⟩,
  ⟨some 30, (.index 9 (.tmp 28) (.tmp 29)), 5, some (27, true)⟩,
  ⟨some 31, (.binOp .eql 5 (.tmp 30) (.const (.int .u8 44)) 5), 4, some (27, true)⟩,
  ⟨some 32, (.pick (.tmp 27) (.tmp 31) (.const (.bool false))), 4, none⟩]
def f51r4 : List AOp := f51r4p0 ++ f51r4p1
def f51r5 : List AOp := [
  ⟨some 33, (.move (.tmp 7)), 3, none⟩,
  ⟨some 34, (.binOp .add 3 (.tmp 33) (.const (.int .i64 1)) 3), 3, none⟩,
  ⟨some 7, (.assign (.tmp 34)), 3, none⟩]
def f51r6 : List AOp := [
  ⟨some 9, (.assign (.const (.int .i64 0))), 3, none⟩]
def f51r7 : List AOp := [
  ⟨some 36, (.move (.tmp 0)), 9, none⟩,
  ⟨some 37, (.move (.tmp 7)), 3, none⟩,
  ⟨some 38, (.slice 9 (.tmp 36) (some (.tmp 37)) none none), 9, none⟩,
  ⟨some 39, (.call { callee := (.value (.func 61)), args := #[(.tmp 38)], argTypes := #[9] }), 97, none⟩,
  ⟨some 35, (.move (.tmp 39)), 97, none⟩,
  ⟨some 40, (.extract (.tmp 35) 0), 3, none⟩,
  ⟨some 41, (.extract (.tmp 35) 1), 3, none⟩,
  ⟨some 8, (.assign (.tmp 40)), 3, none⟩,
  ⟨some 9, (.assign (.tmp 41)), 3, none⟩]
def f51r8 : List AOp := [
  ⟨some 42, (.move (.tmp 7)), 3, none⟩,
  ⟨some 43, (.move (.tmp 9)), 3, none⟩,
  ⟨some 44, (.binOp .add 3 (.tmp 42) (.tmp 43) 3), 3, none⟩,
  ⟨some 7, (.assign (.tmp 44)), 3, none⟩]
def f51r9 : List AOp := [
  ⟨some 45, (.move (.tmp 9)), 3, none⟩,
  ⟨some 46, (.binOp .eql 3 (.tmp 45) (.const (.int .i64 0)) 3), 4, none⟩]
def f51r10 : List AOp := [
  ⟨some 8, (.assign (.const (.int .i64 (-1)))), 3, none⟩]
def f51r11p0 : List AOp := [
  ⟨some 47, (.move (.tmp 6)), 3, none⟩,
  ⟨some 48, (.binOp .eql 3 (.tmp 47) (.const (.int .i64 0)) 3), 4, none⟩,
  ⟨some 49, (.move (.tmp 48)), 4, none⟩,
  ⟨some 50, (.move (.tmp 7)), 3, some (49, false)⟩,
  ⟨some 51, (.move (.tmp 0)), 9, some (49, false)⟩,
  ⟨some 52, (.call { callee := (.builtin .len), args := #[(.tmp 51)], argTypes := #[9] }), 3, some (49, false)⟩,
  ⟨some 53, (.binOp .geq 3 (.tmp 50) (.tmp 52) 3), 4, some (49, false)⟩,
  ⟨some 54, (.pick (.tmp 49) (.const (.bool true)) (.tmp 53)), 4, none⟩]
def f51r11p1 : List AOp := [
  ⟨some 55, (.move (.tmp 54)), 4, none⟩,
  ⟨some 56, (.move (.tmp 0)), 9, some (55, false)⟩,
  ⟨some 57, (.move (.tmp 7)), 3, some (55, false)⟩,
  ⟨some 58, (.index 9 (.tmp 56) (.tmp 57)), 5, some (55, false)⟩,
  ⟨some 59, (.binOp .neq 5 (.tmp 58) (.const (.int .u8 125)) 5), 4, some (55, false)⟩,
  ⟨some 60, (.pick (.tmp 55) (.const (.bool true)) (.tmp 59)), 4, none⟩]
def f51r11 : List AOp := f51r11p0 ++ f51r11p1
def f51r12 : List AOp := [
  ⟨some 2, (.assign (.const (.int .i64 0))), 3, none⟩,
  ⟨some 3, (.assign (.const (.int .i64 0))), 3, none⟩,
  ⟨some 4, (.assign (.const (.int .i64 0))), 3, none⟩]
def f51r13 : List AOp := [
  ⟨some 61, (.move (.tmp 5)), 3, none⟩,
  ⟨some 62, (.move (.tmp 8)), 3, none⟩,
  ⟨some 63, (.move (.tmp 7)), 3, none⟩,
  ⟨some 64, (.binOp .add 3 (.tmp 63) (.const (.int .i64 1)) 3), 3, none⟩,
  ⟨some 2, (.assign (.tmp 61)), 3, none⟩,
  ⟨some 3, (.assign (.tmp 62)), 3, none⟩,
  ⟨some 4, (.assign (.tmp 64)), 3, none⟩]
def f51 : AFun := ⟨65, [(.tmp 2), (.tmp 3), (.tmp 4)], (.seq (.ops false f51r0) (.seq (.ops false f51r1) (.seq (.ops false f51r2) (.seq (.ops false f51r3) (.seq (.seq (.ops false f51r4) (.cond (.tmp 32) (.seq (.ops false f51r5) (.seq (.ops false f51r6) (.seq (.ops false f51r7) (.seq (.ops false f51r8) (.seq (.ops false f51r9) (.cond (.tmp 46) (.ops false f51r10) .skip)))))) .skip)) (.seq (.seq (.ops false f51r11) (.cond (.tmp 60) (.seq (.ops false f51r12) .ret) .skip)) (.seq (.ops false f51r13) .ret)))))))⟩

-- clew/lex.digit
def f52r0 : List AOp := [
  ⟨some 4, (.assign (.const (.int .i64 0))), 3, none⟩]
def f52r1 : List AOp := [
  ⟨some 5, (.assign (.const (.int .i64 (-1)))), 3, none⟩]
def f52r2p0 : List AOp := [
  ⟨some 7, (.move (.tmp 0)), 5, none⟩,
  ⟨some 8, (.binOp .geq 5 (.tmp 7) (.const (.int .u8 48)) 5), 4, none⟩,
  ⟨some 9, (.move (.tmp 8)), 4, none⟩,
  ⟨some 10, (.move (.tmp 0)), 5, some (9, true)⟩,
  ⟨some 11, (.binOp .leq 5 (.tmp 10) (.const (.int .u8 57)) 5), 4, some (9, true)⟩,
  ⟨some 12, (.pick (.tmp 9) (.tmp 11) (.const (.bool false))), 4, none⟩]
def f52r2p1 : List AOp := [
  ⟨some 6, (.assign (.tmp 12)), 4, none⟩]
def f52r2 : List AOp := f52r2p0 ++ f52r2p1
def f52r3 : List AOp := [
  ⟨some 13, (.move (.tmp 0)), 5, none⟩,
  ⟨some 14, (.binOp .sub 5 (.tmp 13) (.const (.int .u8 48)) 5), 5, none⟩,
  ⟨some 15, (.convert 5 3 (.tmp 14)), 3, none⟩,
  ⟨some 5, (.assign (.tmp 15)), 3, none⟩]
def f52r4p0 : List AOp := [
  ⟨some 17, (.move (.tmp 0)), 5, none⟩,
  ⟨some 18, (.binOp .geq 5 (.tmp 17) (.const (.int .u8 97)) 5), 4, none⟩,
  ⟨some 19, (.move (.tmp 18)), 4, none⟩,
  ⟨some 20, (.move (.tmp 0)), 5, some (19, true)⟩,
  ⟨some 21, (.binOp .leq 5 (.tmp 20) (.const (.int .u8 102)) 5), 4, some (19, true)⟩,
  ⟨some 22, (.pick (.tmp 19) (.tmp 21) (.const (.bool false))), 4, none⟩]
def f52r4p1 : List AOp := [
  ⟨some 16, (.assign (.tmp 22)), 4, none⟩]
def f52r4 : List AOp := f52r4p0 ++ f52r4p1
def f52r5 : List AOp := [
  ⟨some 23, (.move (.tmp 0)), 5, none⟩,
  ⟨some 24, (.binOp .sub 5 (.tmp 23) (.const (.int .u8 97)) 5), 5, none⟩,
  ⟨some 25, (.convert 5 3 (.tmp 24)), 3, none⟩,
  ⟨some 26, (.binOp .add 3 (.tmp 25) (.const (.int .i64 10)) 3), 3, none⟩,
  ⟨some 5, (.assign (.tmp 26)), 3, none⟩]
def f52r6p0 : List AOp := [
  ⟨some 28, (.move (.tmp 0)), 5, none⟩,
  ⟨some 29, (.binOp .geq 5 (.tmp 28) (.const (.int .u8 65)) 5), 4, none⟩,
  ⟨some 30, (.move (.tmp 29)), 4, none⟩,
  ⟨some 31, (.move (.tmp 0)), 5, some (30, true)⟩,
  ⟨some 32, (.binOp .leq 5 (.tmp 31) (.const (.int .u8 70)) 5), 4, some (30, true)⟩,
  ⟨some 33, (.pick (.tmp 30) (.tmp 32) (.const (.bool false))), 4, none⟩]
def f52r6p1 : List AOp := [
  ⟨some 27, (.assign (.tmp 33)), 4, none⟩]
def f52r6 : List AOp := f52r6p0 ++ f52r6p1
def f52r7 : List AOp := [
  ⟨some 34, (.move (.tmp 0)), 5, none⟩,
  ⟨some 35, (.binOp .sub 5 (.tmp 34) (.const (.int .u8 65)) 5), 5, none⟩,
  ⟨some 36, (.convert 5 3 (.tmp 35)), 3, none⟩,
  ⟨some 37, (.binOp .add 3 (.tmp 36) (.const (.int .i64 10)) 3), 3, none⟩,
  ⟨some 5, (.assign (.tmp 37)), 3, none⟩]
def f52r8 : List AOp := [
  ⟨some 38, (.move (.tmp 5)), 3, none⟩,
  ⟨some 39, (.move (.tmp 1)), 3, none⟩,
  ⟨some 40, (.binOp .geq 3 (.tmp 38) (.tmp 39) 3), 4, none⟩]
def f52r9 : List AOp := [
  ⟨some 4, (.assign (.const (.int .i64 (-1)))), 3, none⟩]
def f52r10 : List AOp := [
  ⟨some 41, (.move (.tmp 5)), 3, none⟩,
  ⟨some 4, (.assign (.tmp 41)), 3, none⟩]
def f52 : AFun := ⟨42, [(.tmp 4)], (.seq (.ops false f52r0) (.seq (.ops false f52r1) (.seq (.block 0 (.seq (.ops false f52r2) (.cond (.tmp 6) (.ops false f52r3) (.seq (.ops false f52r4) (.cond (.tmp 16) (.ops false f52r5) (.seq (.ops false f52r6) (.cond (.tmp 27) (.ops false f52r7) .skip))))))) (.seq (.seq (.ops false f52r8) (.cond (.tmp 40) (.seq (.ops false f52r9) .ret) .skip)) (.seq (.ops false f52r10) .ret)))))⟩

-- clew/lex.escape
def f53r0 : List AOp := [
  ⟨some 2, (.alloc 36), 0, none⟩,
  ⟨some 3, (.assign (.const (.int .i64 0))), 3, none⟩]
def f53r1 : List AOp := [
  ⟨some 6, (.move (.tmp 0)), 9, none⟩,
  ⟨some 7, (.binOp .eql 9 (.tmp 6) (.const (.string { data := #[] })) 9), 4, none⟩]
def f53r2 : List AOp := [
  ⟨some 8, (.build 36 #[]), 36, none⟩,
  ⟨none, (.store 36 (.tmp 2) (.tmp 8)), 0, none⟩,
  ⟨some 3, (.assign (.const (.int .i64 0))), 3, none⟩]
def f53r3 : List AOp := [
  ⟨some 9, (.move (.tmp 0)), 9, none⟩,
  ⟨some 10, (.index 9 (.tmp 9) (.const (.int .i64 0))), 5, none⟩,
  ⟨some 4, (.assign (.tmp 10)), 5, none⟩]
def f53r4 : List AOp := [
  ⟨some 11, (.move (.tmp 4)), 5, none⟩]
def f53r11 : List AOp := [
  ⟨some 25, (.binOp .eql 5 (.tmp 11) (.const (.int .u8 100)) 5), 4, none⟩,
  ⟨some 24, (.assign (.tmp 25)), 4, none⟩]
def f53r12 : List AOp := [
  ⟨some 26, (.call { callee := (.value (.func 62)), args := #[], argTypes := #[] }), 36, none⟩,
  ⟨none, (.store 36 (.tmp 2) (.tmp 26)), 0, none⟩,
  ⟨some 3, (.assign (.const (.int .i64 1))), 3, none⟩]
def f53r13 : List AOp := [
  ⟨some 28, (.binOp .eql 5 (.tmp 11) (.const (.int .u8 68)) 5), 4, none⟩,
  ⟨some 27, (.assign (.tmp 28)), 4, none⟩]
def f53r14 : List AOp := [
  ⟨some 29, (.call { callee := (.value (.func 62)), args := #[], argTypes := #[] }), 36, none⟩,
  ⟨some 30, (.call { callee := (.value (.func 25)), args := #[(.tmp 29)], argTypes := #[36] }), 36, none⟩,
  ⟨none, (.store 36 (.tmp 2) (.tmp 30)), 0, none⟩,
  ⟨some 3, (.assign (.const (.int .i64 1))), 3, none⟩]
def f53r15 : List AOp := [
  ⟨some 32, (.binOp .eql 5 (.tmp 11) (.const (.int .u8 119)) 5), 4, none⟩,
  ⟨some 31, (.assign (.tmp 32)), 4, none⟩]
def f53r16 : List AOp := [
  ⟨some 33, (.call { callee := (.value (.func 63)), args := #[], argTypes := #[] }), 36, none⟩,
  ⟨none, (.store 36 (.tmp 2) (.tmp 33)), 0, none⟩,
  ⟨some 3, (.assign (.const (.int .i64 1))), 3, none⟩]
def f53r17 : List AOp := [
  ⟨some 35, (.binOp .eql 5 (.tmp 11) (.const (.int .u8 87)) 5), 4, none⟩,
  ⟨some 34, (.assign (.tmp 35)), 4, none⟩]
def f53r18 : List AOp := [
  ⟨some 36, (.call { callee := (.value (.func 63)), args := #[], argTypes := #[] }), 36, none⟩,
  ⟨some 37, (.call { callee := (.value (.func 25)), args := #[(.tmp 36)], argTypes := #[36] }), 36, none⟩,
  ⟨none, (.store 36 (.tmp 2) (.tmp 37)), 0, none⟩,
  ⟨some 3, (.assign (.const (.int .i64 1))), 3, none⟩]
def f53r19 : List AOp := [
  ⟨some 39, (.binOp .eql 5 (.tmp 11) (.const (.int .u8 115)) 5), 4, none⟩,
  ⟨some 38, (.assign (.tmp 39)), 4, none⟩]
def f53r20 : List AOp := [
  ⟨some 40, (.call { callee := (.value (.func 64)), args := #[], argTypes := #[] }), 36, none⟩,
  ⟨none, (.store 36 (.tmp 2) (.tmp 40)), 0, none⟩,
  ⟨some 3, (.assign (.const (.int .i64 1))), 3, none⟩]
def f53r21 : List AOp := [
  ⟨some 42, (.binOp .eql 5 (.tmp 11) (.const (.int .u8 83)) 5), 4, none⟩,
  ⟨some 41, (.assign (.tmp 42)), 4, none⟩]
def f53r22 : List AOp := [
  ⟨some 43, (.call { callee := (.value (.func 64)), args := #[], argTypes := #[] }), 36, none⟩,
  ⟨some 44, (.call { callee := (.value (.func 25)), args := #[(.tmp 43)], argTypes := #[36] }), 36, none⟩,
  ⟨none, (.store 36 (.tmp 2) (.tmp 44)), 0, none⟩,
  ⟨some 3, (.assign (.const (.int .i64 1))), 3, none⟩]
def f53r23 : List AOp := [
  ⟨some 46, (.binOp .eql 5 (.tmp 11) (.const (.int .u8 120)) 5), 4, none⟩,
  ⟨some 45, (.assign (.tmp 46)), 4, none⟩]
def f53r24p0 : List AOp := [
  ⟨some 47, (.move (.tmp 0)), 9, none⟩,
  ⟨some 48, (.call { callee := (.builtin .len), args := #[(.tmp 47)], argTypes := #[9] }), 3, none⟩,
  ⟨some 49, (.binOp .lss 3 (.tmp 48) (.const (.int .i64 3)) 3), 4, none⟩,
  ⟨some 50, (.move (.tmp 49)), 4, none⟩,
  ⟨some 51, (.move (.tmp 0)), 9, some (50, false)⟩,
  ⟨some 52, (.index 9 (.tmp 51) (.const (.int .i64 1))), 5, some (50, false)⟩,
  ⟨some 53, (.call { callee := (.value (.func 52)), args := #[(.tmp 52), (.const (.int .i64 16))], argTypes := #[5, 3] }), 3, some (50, false)⟩,
  ⟨some 54, (.binOp .lss 3 (.tmp 53) (.const (.int .i64 0)) 3), 4, some (50, false)⟩,
  ⟨some 55, (.pick (.tmp 50) (.const (.bool true)) (.tmp 54)), 4, none⟩]
def f53r24p1 : List AOp := [
  ⟨some 56, (.move (.tmp 55)), 4, none⟩,
  ⟨some 57, (.move (.tmp 0)), 9, some (56, false)⟩,
  ⟨some 58, (.index 9 (.tmp 57) (.const (.int .i64 2))), 5, some (56, false)⟩,
  ⟨some 59, (.call { callee := (.value (.func 52)), args := #[(.tmp 58), (.const (.int .i64 16))], argTypes := #[5, 3] }), 3, some (56, false)⟩,
  ⟨some 60, (.binOp .lss 3 (.tmp 59) (.const (.int .i64 0)) 3), 4, some (56, false)⟩,
  ⟨some 61, (.pick (.tmp 56) (.const (.bool true)) (.tmp 60)), 4, none⟩]
def f53r24 : List AOp := f53r24p0 ++ f53r24p1
def f53r25 : List AOp := [
  ⟨some 62, (.build 36 #[]), 36, none⟩,
  ⟨none, (.store 36 (.tmp 2) (.tmp 62)), 0, none⟩,
  ⟨some 3, (.assign (.const (.int .i64 0))), 3, none⟩]
def f53r26 : List AOp := [
  ⟨some 63, (.move (.tmp 0)), 9, none⟩,
  ⟨some 64, (.index 9 (.tmp 63) (.const (.int .i64 1))), 5, none⟩,
  ⟨some 65, (.call { callee := (.value (.func 52)), args := #[(.tmp 64), (.const (.int .i64 16))], argTypes := #[5, 3] }), 3, none⟩,
  ⟨some 66, (.binOp .mul 3 (.tmp 65) (.const (.int .i64 16)) 3), 3, none⟩,
  ⟨some 67, (.move (.tmp 0)), 9, none⟩,
  ⟨some 68, (.index 9 (.tmp 67) (.const (.int .i64 2))), 5, none⟩,
  ⟨some 69, (.call { callee := (.value (.func 52)), args := #[(.tmp 68), (.const (.int .i64 16))], argTypes := #[5, 3] }), 3, none⟩,
  ⟨some 70, (.binOp .add 3 (.tmp 66) (.tmp 69) 3), 3, none⟩,
  ⟨some 71, (.convert 3 5 (.tmp 70)), 5, none⟩,
  ⟨some 72, (.call { callee := (.value (.func 17)), args := #[(.tmp 71)], argTypes := #[5] }), 36, none⟩,
  ⟨none, (.store 36 (.tmp 2) (.tmp 72)), 0, none⟩,
  ⟨some 3, (.assign (.const (.int .i64 3))), 3, none⟩]
def f53r5 : List AOp := [
  ⟨some 12, (.move (.tmp 4)), 5, none⟩,
  ⟨some 13, (.call { callee := (.value (.func 49)), args := #[(.const (.string { data := #[110, 116, 114, 102, 118] })), (.tmp 12)], argTypes := #[9, 5] }), 3, none⟩,
  ⟨some 5, (.assign (.tmp 13)), 3, none⟩]
def f53r6 : List AOp := [
  ⟨some 14, (.move (.tmp 5)), 3, none⟩,
  ⟨some 15, (.binOp .geq 3 (.tmp 14) (.const (.int .i64 0)) 3), 4, none⟩]
def f53r7 : List AOp := [
  ⟨some 16, (.move (.tmp 5)), 3, none⟩,
  ⟨some 17, (.index 9 (.const (.string { data := #[10, 9, 13, 12, 11] })) (.tmp 16)), 5, none⟩,
  ⟨some 18, (.call { callee := (.value (.func 17)), args := #[(.tmp 17)], argTypes := #[5] }), 36, none⟩,
  ⟨none, (.store 36 (.tmp 2) (.tmp 18)), 0, none⟩,
  ⟨some 3, (.assign (.const (.int .i64 1))), 3, none⟩]
def f53r8 : List AOp := [
  ⟨some 19, (.move (.tmp 4)), 5, none⟩,
  ⟨some 20, (.call { callee := (.value (.func 65)), args := #[(.tmp 19)], argTypes := #[5] }), 4, none⟩]
def f53r9 : List AOp := [
  ⟨some 21, (.build 36 #[]), 36, none⟩,
  ⟨none, (.store 36 (.tmp 2) (.tmp 21)), 0, none⟩,
  ⟨some 3, (.assign (.const (.int .i64 0))), 3, none⟩]
def f53r10 : List AOp := [
  ⟨some 22, (.move (.tmp 4)), 5, none⟩,
  ⟨some 23, (.call { callee := (.value (.func 17)), args := #[(.tmp 22)], argTypes := #[5] }), 36, none⟩,
  ⟨none, (.store 36 (.tmp 2) (.tmp 23)), 0, none⟩,
  ⟨some 3, (.assign (.const (.int .i64 1))), 3, none⟩]
def f53 : AFun := ⟨73, [(.cell 2 36), (.tmp 3)], (.seq (.ops false f53r0) (.seq (.seq (.ops false f53r1) (.cond (.tmp 7) (.seq (.ops false f53r2) .ret) .skip)) (.seq (.ops false f53r3) (.seq (.ops false f53r4) (.block 0 (.seq (.ops false f53r11) (.cond (.tmp 24) (.seq (.ops false f53r12) .ret) (.seq (.ops false f53r13) (.cond (.tmp 27) (.seq (.ops false f53r14) .ret) (.seq (.ops false f53r15) (.cond (.tmp 31) (.seq (.ops false f53r16) .ret) (.seq (.ops false f53r17) (.cond (.tmp 34) (.seq (.ops false f53r18) .ret) (.seq (.ops false f53r19) (.cond (.tmp 38) (.seq (.ops false f53r20) .ret) (.seq (.ops false f53r21) (.cond (.tmp 41) (.seq (.ops false f53r22) .ret) (.seq (.ops false f53r23) (.cond (.tmp 45) (.seq (.seq (.ops false f53r24) (.cond (.tmp 61) (.seq (.ops false f53r25) .ret) .skip)) (.seq (.ops false f53r26) .ret)) (.seq (.seq (.ops false f53r5) (.seq (.ops false f53r6) (.cond (.tmp 15) (.seq (.ops false f53r7) .ret) .skip))) (.seq (.seq (.ops false f53r8) (.cond (.tmp 20) (.seq (.ops false f53r9) .ret) .skip)) (.seq (.ops false f53r10) .ret))))))))))))))))))))))⟩

-- clew/clewref06.word
def f55r0 : List AOp := [
  ⟨some 0, (.alloc 68), 0, none⟩]
def f55r1 : List AOp := [
  ⟨some 1, (.call { callee := (.value (.func 32)), args := #[(.const (.int .u8 48)), (.const (.int .u8 57))], argTypes := #[5, 5] }), 68, none⟩,
  ⟨some 2, (.call { callee := (.value (.func 32)), args := #[(.const (.int .u8 97)), (.const (.int .u8 122))], argTypes := #[5, 5] }), 68, none⟩,
  ⟨some 3, (.call { callee := (.value (.func 33)), args := #[(.tmp 1), (.tmp 2)], argTypes := #[68, 68] }), 68, none⟩,
  ⟨some 4, (.call { callee := (.value (.func 32)), args := #[(.const (.int .u8 65)), (.const (.int .u8 90))], argTypes := #[5, 5] }), 68, none⟩,
  ⟨some 5, (.call { callee := (.value (.func 43)), args := #[(.const (.int .u8 95))], argTypes := #[5] }), 68, none⟩,
  ⟨some 6, (.call { callee := (.value (.func 33)), args := #[(.tmp 4), (.tmp 5)], argTypes := #[68, 68] }), 68, none⟩,
  ⟨some 7, (.call { callee := (.value (.func 33)), args := #[(.tmp 3), (.tmp 6)], argTypes := #[68, 68] }), 68, none⟩,
  ⟨none, (.store 68 (.tmp 0) (.tmp 7)), 0, none⟩]
def f55 : AFun := ⟨8, [(.cell 0 68)], (.seq (.ops false f55r0) (.seq (.ops false f55r1) .ret))⟩

-- clew/clewref06.space
def f56r0 : List AOp := [
  ⟨some 0, (.alloc 68), 0, none⟩]
def f56r1 : List AOp := [
  ⟨some 1, (.call { callee := (.value (.func 32)), args := #[(.const (.int .u8 9)), (.const (.int .u8 13))], argTypes := #[5, 5] }), 68, none⟩,
  ⟨some 2, (.call { callee := (.value (.func 43)), args := #[(.const (.int .u8 32))], argTypes := #[5] }), 68, none⟩,
  ⟨some 3, (.call { callee := (.value (.func 33)), args := #[(.tmp 1), (.tmp 2)], argTypes := #[68, 68] }), 68, none⟩,
  ⟨none, (.store 68 (.tmp 0) (.tmp 3)), 0, none⟩]
def f56 : AFun := ⟨4, [(.cell 0 68)], (.seq (.ops false f56r0) (.seq (.ops false f56r1) .ret))⟩

-- clew/clewref06.Digit
def f57r0 : List AOp := [
  ⟨some 2, (.assign (.const (.int .i64 0))), 3, none⟩]
def f57r1 : List AOp := [
  ⟨some 3, (.assign (.const (.int .i64 0))), 3, none⟩]
def f57r2 : List AOp := [
  ⟨some 4, (.move (.tmp 3)), 3, none⟩,
  ⟨some 5, (.binOp .lss 3 (.tmp 4) (.const (.int .i64 16)) 3), 4, none⟩]
def f57r4 : List AOp := [
  ⟨some 8, (.move (.tmp 0)), 5, none⟩,
  ⟨some 9, (.move (.tmp 3)), 3, none⟩,
  ⟨some 10, (.index 9 (.const (.string { data := #[48, 49, 50, 51, 52, 53, 54, 55, 56, 57, 97, 98, 99, 100, 101, 102] })) (.tmp 9)), 5, none⟩,
  ⟨some 11, (.binOp .eql 5 (.tmp 8) (.tmp 10) 5), 4, none⟩,
  ⟨some 12, (.move (.tmp 11)), 4, none⟩,
  ⟨some 13, (.move (.tmp 0)), 5, some (12, false)⟩,
  ⟨some 14, (.move (.tmp 3)), 3, some (12, false)⟩,
  ⟨some 15, (.index 9 (.const (.string { data := #[48, 49, 50, 51, 52, 53, 54, 55, 56, 57, 65, 66, 67, 68, 69, 70] })) (.tmp 14)), 5, some (12, false)⟩,
  ⟨some 16, (.binOp .eql 5 (.tmp 13) (.tmp 15) 5), 4, some (12, false)⟩,
  ⟨some 17, (.pick (.tmp 12) (.const (.bool true)) (.tmp 16)), 4, none⟩]
def f57r5 : List AOp := [
  ⟨some 18, (.move (.tmp 3)), 3, none⟩,
  ⟨some 2, (.assign (.tmp 18)), 3, none⟩]
def f57r3 : List AOp := [
  ⟨some 6, (.move (.tmp 3)), 3, none⟩,
  ⟨some 7, (.binOp .add 3 (.tmp 6) (.const (.int .i64 1)) 3), 3, none⟩,
  ⟨some 3, (.assign (.tmp 7)), 3, none⟩]
def f57b0 : AC := (.seq (.seq (.ops false f57r2) (.cond (.tmp 5) .skip (.exit 0))) (.seq (.block 1 (.seq (.ops false f57r4) (.cond (.tmp 17) (.seq (.ops false f57r5) .ret) .skip))) (.ops false f57r3)))
def f57r6 : List AOp := [
  ⟨some 2, (.assign (.const (.int .i64 (-1)))), 3, none⟩]
def f57 : AFun := ⟨19, [(.tmp 2)], (.seq (.ops false f57r0) (.seq (.seq (.ops false f57r1) (.block 0 (.loop [0, 3] f57b0))) (.seq (.ops false f57r6) .ret)))⟩

-- math/bits.TrailingZeros64
def f58r0 : List AOp := [
  ⟨some 2, (.assign (.const (.int .i64 0))), 3, none⟩]
def f58r1 : List AOp := [
  ⟨some 3, (.move (.tmp 0)), 33, none⟩,
  ⟨some 4, (.binOp .eql 33 (.tmp 3) (.const (.int .u64 0)) 33), 4, none⟩]
def f58r2 : List AOp := [
  ⟨some 2, (.assign (.const (.int .i64 64))), 3, none⟩]
def f58r3 : List AOp := [
  ⟨some 5, (.move (.tmp 0)), 33, none⟩,
  ⟨some 6, (.move (.tmp 0)), 33, none⟩,
  ⟨some 7, (.unOp .neg 33 (.tmp 6)), 33, none⟩,
  ⟨some 8, (.binOp .and 33 (.tmp 5) (.tmp 7) 33), 33, none⟩,
  ⟨some 9, (.binOp .mul 33 (.tmp 8) (.const (.int .u64 285870213051353865)) 33), 33, none⟩,
  ⟨some 10, (.binOp .shr 33 (.tmp 9) (.const (.int .u64 58)) 101), 33, none⟩,
  ⟨some 11, (.indexAddr 100 (.global 0) (.tmp 10)), 0, none⟩,
  ⟨some 12, (.load 5 (.tmp 11)), 5, none⟩,
  ⟨some 13, (.convert 5 3 (.tmp 12)), 3, none⟩,
  ⟨some 2, (.assign (.tmp 13)), 3, none⟩]
def f58 : AFun := ⟨14, [(.tmp 2)], (.seq (.ops false f58r0) (.seq (.seq (.ops false f58r1) (.cond (.tmp 4) (.seq (.ops false f58r2) .ret) .skip)) (.seq (.ops false f58r3) .ret)))⟩

-- math/bits.OnesCount64
def f59r0 : List AOp := [
  ⟨some 2, (.assign (.const (.int .i64 0))), 3, none⟩]
def f59r1 : List AOp := [
  ⟨some 3, (.move (.tmp 0)), 33, none⟩,
  ⟨some 4, (.binOp .shr 33 (.tmp 3) (.const (.int .u64 1)) 101), 33, none⟩,
  ⟨some 5, (.binOp .and 33 (.tmp 4) (.const (.int .u64 6148914691236517205)) 33), 33, none⟩,
  ⟨some 6, (.move (.tmp 0)), 33, none⟩,
  ⟨some 7, (.binOp .and 33 (.tmp 6) (.const (.int .u64 6148914691236517205)) 33), 33, none⟩,
  ⟨some 8, (.binOp .add 33 (.tmp 5) (.tmp 7) 33), 33, none⟩,
  ⟨some 0, (.assign (.tmp 8)), 33, none⟩]
def f59r2 : List AOp := [
  ⟨some 9, (.move (.tmp 0)), 33, none⟩,
  ⟨some 10, (.binOp .shr 33 (.tmp 9) (.const (.int .u64 2)) 101), 33, none⟩,
  ⟨some 11, (.binOp .and 33 (.tmp 10) (.const (.int .u64 3689348814741910323)) 33), 33, none⟩,
  ⟨some 12, (.move (.tmp 0)), 33, none⟩,
  ⟨some 13, (.binOp .and 33 (.tmp 12) (.const (.int .u64 3689348814741910323)) 33), 33, none⟩,
  ⟨some 14, (.binOp .add 33 (.tmp 11) (.tmp 13) 33), 33, none⟩,
  ⟨some 0, (.assign (.tmp 14)), 33, none⟩]
def f59r3 : List AOp := [
  ⟨some 15, (.move (.tmp 0)), 33, none⟩,
  ⟨some 16, (.binOp .shr 33 (.tmp 15) (.const (.int .u64 4)) 101), 33, none⟩,
  ⟨some 17, (.move (.tmp 0)), 33, none⟩,
  ⟨some 18, (.binOp .add 33 (.tmp 16) (.tmp 17) 33), 33, none⟩,
  ⟨some 19, (.binOp .and 33 (.tmp 18) (.const (.int .u64 1085102592571150095)) 33), 33, none⟩,
  ⟨some 0, (.assign (.tmp 19)), 33, none⟩]
def f59r4 : List AOp := [
  ⟨some 20, (.move (.tmp 0)), 33, none⟩,
  ⟨some 21, (.move (.tmp 0)), 33, none⟩,
  ⟨some 22, (.binOp .shr 33 (.tmp 21) (.const (.int .u64 8)) 101), 33, none⟩,
  ⟨some 23, (.binOp .add 33 (.tmp 20) (.tmp 22) 33), 33, none⟩,
  ⟨some 0, (.assign (.tmp 23)), 33, none⟩]
def f59r5 : List AOp := [
  ⟨some 24, (.move (.tmp 0)), 33, none⟩,
  ⟨some 25, (.move (.tmp 0)), 33, none⟩,
  ⟨some 26, (.binOp .shr 33 (.tmp 25) (.const (.int .u64 16)) 101), 33, none⟩,
  ⟨some 27, (.binOp .add 33 (.tmp 24) (.tmp 26) 33), 33, none⟩,
  ⟨some 0, (.assign (.tmp 27)), 33, none⟩]
def f59r6 : List AOp := [
  ⟨some 28, (.move (.tmp 0)), 33, none⟩,
  ⟨some 29, (.move (.tmp 0)), 33, none⟩,
  ⟨some 30, (.binOp .shr 33 (.tmp 29) (.const (.int .u64 32)) 101), 33, none⟩,
  ⟨some 31, (.binOp .add 33 (.tmp 28) (.tmp 30) 33), 33, none⟩,
  ⟨some 0, (.assign (.tmp 31)), 33, none⟩]
def f59r7 : List AOp := [
  ⟨some 32, (.move (.tmp 0)), 33, none⟩,
  ⟨some 33, (.convert 33 3 (.tmp 32)), 3, none⟩,
  ⟨some 34, (.binOp .and 3 (.tmp 33) (.const (.int .i64 127)) 3), 3, none⟩,
  ⟨some 2, (.assign (.tmp 34)), 3, none⟩]
def f59 : AFun := ⟨35, [(.tmp 2)], (.seq (.ops false f59r0) (.seq (.ops false f59r1) (.seq (.ops false f59r2) (.seq (.ops false f59r3) (.seq (.ops false f59r4) (.seq (.ops false f59r5) (.seq (.ops false f59r6) (.seq (.ops false f59r7) .ret))))))))⟩

-- internal/stringslite.IndexByte
def f60r0 : List AOp := [
  ⟨some 4, (.assign (.const (.int .i64 0))), 3, none⟩]
def f60r1 : List AOp := [
  ⟨some 5, (.move (.tmp 0)), 9, none⟩,
  ⟨some 6, (.move (.tmp 1)), 5, none⟩,
  ⟨some 7, (.call { callee := (.value (.func 67)), args := #[(.tmp 5), (.tmp 6)], argTypes := #[9, 5] }), 3, none⟩,
  ⟨some 4, (.assign (.tmp 7)), 3, none⟩]
def f60 : AFun := ⟨8, [(.tmp 4)], (.seq (.ops false f60r0) (.seq (.ops false f60r1) .ret))⟩

-- clew/lex.count
def f61r0 : List AOp := [
  ⟨some 2, (.assign (.const (.int .i64 0))), 3, none⟩,
  ⟨some 3, (.assign (.const (.int .i64 0))), 3, none⟩]
def f61r1 : List AOp := [
  ⟨some 4, (.assign (.const (.int .i64 0))), 3, none⟩,
  ⟨some 5, (.assign (.const (.int .i64 0))), 3, none⟩]
def f61r2p0 : List AOp := [
  ⟨some 6, (.move (.tmp 5)), 3, none⟩,
  ⟨some 7, (.move (.tmp 0)), 9, none⟩,
  ⟨some 8, (.call { callee := (.builtin .len), args := #[(.tmp 7)], argTypes := #[9] }), 3, none⟩,
  ⟨some 9, (.binOp .lss 3 (.tmp 6) (.tmp 8) 3), 4, none⟩,
  ⟨some 10, (.move (.tmp 9)), 4, none⟩,
  ⟨some 11, (.move (.tmp 5)), 3, some (10, true)⟩,
  ⟨some 12, (.binOp .lss 3 (.tmp 11) (.const (.int .i64 3)) 3), 4, some (10, true)⟩,
  ⟨some 13, (.pick (.tmp 10) (.tmp 12) (.const (.bool false))), 4, none⟩]
def f61r2p1 : List AOp := [
  ⟨some 14, (.move (.tmp 13)), 4, none⟩,
  ⟨some 15, (.move (.tmp 0)), 9, some (14, true)⟩,
  ⟨some 16, (.move (.tmp 5)), 3, some (14, true)⟩,
  ⟨some 17, (.index 9 (.tmp 15) (.tmp 16)), 5, some (14, true)⟩,
  ⟨some 18, (.call { callee := (.value (.func 52)), args := #[(.tmp 17), (.const (.int .i64 10))], argTypes := #[5, 3] }), 3, some (14, true)⟩,
  ⟨some 19, (.binOp .geq 3 (.tmp 18) (.const (.int .i64 0)) 3), 4, some (14, true)⟩,
  ⟨some 20, (.pick (.tmp 14) (.tmp 19) (.const (.bool false))), 4, none⟩]
def f61r2 : List AOp := f61r2p0 ++ f61r2p1
def f61r3 : List AOp := [
  ⟨some 21, (.move (.tmp 4)), 3, none⟩,
  ⟨some 22, (.binOp .mul 3 (.tmp 21) (.const (.int .i64 10)) 3), 3, none⟩,
  ⟨some 23, (.move (.tmp 0)), 9, none⟩,
  ⟨some 24, (.move (.tmp 5)), 3, none⟩,
  ⟨some 25, (.index 9 (.tmp 23) (.tmp 24)), 5, none⟩,
  ⟨some 26, (.call { callee := (.value (.func 52)), args := #[(.tmp 25), (.const (.int .i64 10))], argTypes := #[5, 3] }), 3, none⟩,
  ⟨some 27, (.binOp .add 3 (.tmp 22) (.tmp 26) 3), 3, none⟩,
  ⟨some 4, (.assign (.tmp 27)), 3, none⟩]
def f61r4 : List AOp := [
  ⟨some 28, (.move (.tmp 5)), 3, none⟩,
  ⟨some 29, (.binOp .add 3 (.tmp 28) (.const (.int .i64 1)) 3), 3, none⟩,
  ⟨some 5, (.assign (.tmp 29)), 3, none⟩]
def f61b0 : AC := (.seq (.seq (.ops false f61r2) (.cond (.tmp 20) .skip (.exit 0))) (.block 1 (.seq (.ops false f61r3) (.ops false f61r4))))
def f61r5 : List AOp := [
  ⟨some 30, (.move (.tmp 4)), 3, none⟩,
  ⟨some 31, (.move (.tmp 5)), 3, none⟩,
  ⟨some 2, (.assign (.tmp 30)), 3, none⟩,
  ⟨some 3, (.assign (.tmp 31)), 3, none⟩]
def f61 : AFun := ⟨32, [(.tmp 2), (.tmp 3)], (.seq (.ops false f61r0) (.seq (.ops false f61r1) (.seq (.block 0 (.loop [0, 4, 5] f61b0)) (.seq (.ops false f61r5) .ret))))⟩

-- clew/lex.digits
def f62r0 : List AOp := [
  ⟨some 0, (.alloc 36), 0, none⟩]
def f62r1 : List AOp := [
  ⟨some 1, (.call { callee := (.value (.func 20)), args := #[(.const (.int .u8 48)), (.const (.int .u8 57))], argTypes := #[5, 5] }), 36, none⟩,
  ⟨none, (.store 36 (.tmp 0) (.tmp 1)), 0, none⟩]
def f62 : AFun := ⟨2, [(.cell 0 36)], (.seq (.ops false f62r0) (.seq (.ops false f62r1) .ret))⟩

-- clew/lex.words
def f63r0 : List AOp := [
  ⟨some 0, (.alloc 36), 0, none⟩]
def f63r1 : List AOp := [
  ⟨some 1, (.call { callee := (.value (.func 62)), args := #[], argTypes := #[] }), 36, none⟩,
  ⟨some 2, (.call { callee := (.value (.func 20)), args := #[(.const (.int .u8 97)), (.const (.int .u8 122))], argTypes := #[5, 5] }), 36, none⟩,
  ⟨some 3, (.call { callee := (.value (.func 21)), args := #[(.tmp 1), (.tmp 2)], argTypes := #[36, 36] }), 36, none⟩,
  ⟨some 4, (.call { callee := (.value (.func 20)), args := #[(.const (.int .u8 65)), (.const (.int .u8 90))], argTypes := #[5, 5] }), 36, none⟩,
  ⟨some 5, (.call { callee := (.value (.func 21)), args := #[(.tmp 3), (.tmp 4)], argTypes := #[36, 36] }), 36, none⟩,
  ⟨some 6, (.call { callee := (.value (.func 17)), args := #[(.const (.int .u8 95))], argTypes := #[5] }), 36, none⟩,
  ⟨some 7, (.call { callee := (.value (.func 21)), args := #[(.tmp 5), (.tmp 6)], argTypes := #[36, 36] }), 36, none⟩,
  ⟨none, (.store 36 (.tmp 0) (.tmp 7)), 0, none⟩]
def f63 : AFun := ⟨8, [(.cell 0 36)], (.seq (.ops false f63r0) (.seq (.ops false f63r1) .ret))⟩

-- clew/lex.spaces
def f64r0 : List AOp := [
  ⟨some 0, (.alloc 36), 0, none⟩]
def f64r1 : List AOp := [
  ⟨some 1, (.call { callee := (.value (.func 20)), args := #[(.const (.int .u8 9)), (.const (.int .u8 13))], argTypes := #[5, 5] }), 36, none⟩,
  ⟨some 2, (.call { callee := (.value (.func 17)), args := #[(.const (.int .u8 32))], argTypes := #[5] }), 36, none⟩,
  ⟨some 3, (.call { callee := (.value (.func 21)), args := #[(.tmp 1), (.tmp 2)], argTypes := #[36, 36] }), 36, none⟩,
  ⟨none, (.store 36 (.tmp 0) (.tmp 3)), 0, none⟩]
def f64 : AFun := ⟨4, [(.cell 0 36)], (.seq (.ops false f64r0) (.seq (.ops false f64r1) .ret))⟩

-- clew/lex.letter
def f65r0 : List AOp := [
  ⟨some 2, (.assign (.const (.bool false))), 4, none⟩]
def f65r1p0 : List AOp := [
  ⟨some 3, (.move (.tmp 0)), 5, none⟩,
  ⟨some 4, (.binOp .neq 5 (.tmp 3) (.const (.int .u8 95)) 5), 4, none⟩,
  ⟨some 5, (.move (.tmp 4)), 4, none⟩,
  ⟨some 6, (.call { callee := (.value (.func 63)), args := #[], argTypes := #[] }), 36, some (5, true)⟩,
  ⟨some 7, (.move (.tmp 0)), 5, some (5, true)⟩,
  ⟨some 8, (.call { callee := (.value (.func 19)), args := #[(.tmp 6), (.tmp 7)], argTypes := #[36, 5] }), 4, some (5, true)⟩,
  ⟨some 9, (.pick (.tmp 5) (.tmp 8) (.const (.bool false))), 4, none⟩]
def f65r1p1 : List AOp := [
  ⟨some 2, (.assign (.tmp 9)), 4, none⟩]
def f65r1 : List AOp := f65r1p0 ++ f65r1p1
def f65 : AFun := ⟨10, [(.tmp 2)], (.seq (.ops false f65r0) (.seq (.ops false f65r1) .ret))⟩

def F : FuncId → Option AFun
  | 4 => some f4
  | 10 => some f10
  | 14 => some f14
  | 15 => some f15
  | 16 => some f16
  | 17 => some f17
  | 18 => some f18
  | 19 => some f19
  | 20 => some f20
  | 21 => some f21
  | 23 => some f23
  | 25 => some f25
  | 26 => some f26
  | 27 => some f27
  | 28 => some f28
  | 29 => some f29
  | 30 => some f30
  | 31 => some f31
  | 32 => some f32
  | 33 => some f33
  | 34 => some f34
  | 35 => some f35
  | 36 => some f36
  | 37 => some f37
  | 38 => some f38
  | 39 => some f39
  | 40 => some f40
  | 43 => some f43
  | 44 => some f44
  | 45 => some f45
  | 46 => some f46
  | 47 => some f47
  | 48 => some f48
  | 49 => some f49
  | 50 => some f50
  | 51 => some f51
  | 52 => some f52
  | 53 => some f53
  | 55 => some f55
  | 56 => some f56
  | 57 => some f57
  | 58 => some f58
  | 59 => some f59
  | 60 => some f60
  | 61 => some f61
  | 62 => some f62
  | 63 => some f63
  | 64 => some f64
  | 65 => some f65
  | _ => none

end Go.Proofs.YtcjnmmeibppblaaDoor.C
