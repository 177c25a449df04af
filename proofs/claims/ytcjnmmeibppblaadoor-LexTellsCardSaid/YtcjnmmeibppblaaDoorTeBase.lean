import Derived.Test.YtcjnmmeibppblaaDoorTeTy
import Derived.Test.YtcjnmmeibppblaaDoorTeAm22
set_option maxRecDepth 100000
set_option linter.unusedVariables false
set_option linter.unusedSimpArgs false
namespace Go.Proofs.YtcjnmmeibppblaaDoor
open Go Go.AM
theorem F3d:Mt.F 3 = some C.f3:=rfl
theorem F10d:Mt.F 10 = some C.f10:=rfl
theorem F10:(Mt.F 10).isSome = true:=rfl
theorem F11d:Mt.F 11 = some C.f11:=rfl
theorem F11:(Mt.F 11).isSome = true:=rfl
theorem F12d:Mt.F 12 = some C.f12:=rfl
theorem F12:(Mt.F 12).isSome = true:=rfl
theorem F13d:Mt.F 13 = some C.f13:=rfl
theorem F13:(Mt.F 13).isSome = true:=rfl
theorem F14d:Mt.F 14 = some C.f14:=rfl
theorem F14:(Mt.F 14).isSome = true:=rfl
theorem F15d:Mt.F 15 = some C.f15:=rfl
theorem F15:(Mt.F 15).isSome = true:=rfl
theorem F16d:Mt.F 16 = some C.f16:=rfl
theorem F16:(Mt.F 16).isSome = true:=rfl
theorem F17d:Mt.F 17 = some C.f17:=rfl
theorem F17:(Mt.F 17).isSome = true:=rfl
theorem F18d:Mt.F 18 = some C.f18:=rfl
theorem F18:(Mt.F 18).isSome = true:=rfl
theorem F19d:Mt.F 19 = some C.f19:=rfl
theorem F19:(Mt.F 19).isSome = true:=rfl
theorem F20d:Mt.F 20 = some C.f20:=rfl
theorem F20:(Mt.F 20).isSome = true:=rfl
theorem F21d:Mt.F 21 = some C.f21:=rfl
theorem F21:(Mt.F 21).isSome = true:=rfl
theorem F23d:Mt.F 23 = some C.f23:=rfl
theorem F23:(Mt.F 23).isSome = true:=rfl
theorem F24d:Mt.F 24 = some C.f24:=rfl
theorem F24:(Mt.F 24).isSome = true:=rfl
theorem F25d:Mt.F 25 = some C.f25:=rfl
theorem F25:(Mt.F 25).isSome = true:=rfl
theorem F26d:Mt.F 26 = some C.f26:=rfl
theorem F26:(Mt.F 26).isSome = true:=rfl
theorem F27d:Mt.F 27 = some C.f27:=rfl
theorem F27:(Mt.F 27).isSome = true:=rfl
theorem F28d:Mt.F 28 = some C.f28:=rfl
theorem F28:(Mt.F 28).isSome = true:=rfl
theorem F29d:Mt.F 29 = some C.f29:=rfl
theorem F29:(Mt.F 29).isSome = true:=rfl
theorem F30d:Mt.F 30 = some C.f30:=rfl
theorem F30:(Mt.F 30).isSome = true:=rfl
theorem F31d:Mt.F 31 = some C.f31:=rfl
theorem F31:(Mt.F 31).isSome = true:=rfl
theorem F32d:Mt.F 32 = some C.f32:=rfl
theorem F32:(Mt.F 32).isSome = true:=rfl
theorem F33d:Mt.F 33 = some C.f33:=rfl
theorem F33:(Mt.F 33).isSome = true:=rfl
theorem F34d:Mt.F 34 = some C.f34:=rfl
theorem F34:(Mt.F 34).isSome = true:=rfl
theorem F35d:Mt.F 35 = some C.f35:=rfl
theorem F35:(Mt.F 35).isSome = true:=rfl
theorem F36d:Mt.F 36 = some C.f36:=rfl
theorem F36:(Mt.F 36).isSome = true:=rfl
theorem F37d:Mt.F 37 = some C.f37:=rfl
theorem F37:(Mt.F 37).isSome = true:=rfl
theorem F38d:Mt.F 38 = some C.f38:=rfl
theorem F38:(Mt.F 38).isSome = true:=rfl
theorem F39d:Mt.F 39 = some C.f39:=rfl
theorem F39:(Mt.F 39).isSome = true:=rfl
theorem F40d:Mt.F 40 = some C.f40:=rfl
theorem F40:(Mt.F 40).isSome = true:=rfl
theorem F41d:Mt.F 41 = some C.f41:=rfl
theorem F41:(Mt.F 41).isSome = true:=rfl
theorem F42d:Mt.F 42 = some C.f42:=rfl
theorem F42:(Mt.F 42).isSome = true:=rfl
theorem F43d:Mt.F 43 = some C.f43:=rfl
theorem F43:(Mt.F 43).isSome = true:=rfl
theorem F44d:Mt.F 44 = some C.f44:=rfl
theorem F44:(Mt.F 44).isSome = true:=rfl
theorem F45d:Mt.F 45 = some C.f45:=rfl
theorem F45:(Mt.F 45).isSome = true:=rfl
theorem F46d:Mt.F 46 = some C.f46:=rfl
theorem F46:(Mt.F 46).isSome = true:=rfl
theorem F47d:Mt.F 47 = some C.f47:=rfl
theorem F47:(Mt.F 47).isSome = true:=rfl
theorem F48d:Mt.F 48 = some C.f48:=rfl
theorem F48:(Mt.F 48).isSome = true:=rfl
theorem F49d:Mt.F 49 = some C.f49:=rfl
theorem F49:(Mt.F 49).isSome = true:=rfl
theorem F50d:Mt.F 50 = some C.f50:=rfl
theorem F50:(Mt.F 50).isSome = true:=rfl
theorem F51d:Mt.F 51 = some C.f51:=rfl
theorem F51:(Mt.F 51).isSome = true:=rfl
theorem F52d:Mt.F 52 = some C.f52:=rfl
theorem F52:(Mt.F 52).isSome = true:=rfl
theorem F53d:Mt.F 53 = some C.f53:=rfl
theorem F53:(Mt.F 53).isSome = true:=rfl
theorem F54d:Mt.F 54 = some C.f54:=rfl
theorem F54:(Mt.F 54).isSome = true:=rfl
theorem F55d:Mt.F 55 = some C.f55:=rfl
theorem F55:(Mt.F 55).isSome = true:=rfl
theorem F56d:Mt.F 56 = some C.f56:=rfl
theorem F56:(Mt.F 56).isSome = true:=rfl
theorem F57d:Mt.F 57 = some C.f57:=rfl
theorem F57:(Mt.F 57).isSome = true:=rfl
theorem F58d:Mt.F 58 = some C.f58:=rfl
theorem F58:(Mt.F 58).isSome = true:=rfl
theorem F59d:Mt.F 59 = some C.f59:=rfl
theorem F59:(Mt.F 59).isSome = true:=rfl
theorem F60d:Mt.F 60 = some C.f60:=rfl
theorem F60:(Mt.F 60).isSome = true:=rfl
theorem F61d:Mt.F 61 = some C.f61:=rfl
theorem F61:(Mt.F 61).isSome = true:=rfl
theorem F62d:Mt.F 62 = some C.f62:=rfl
theorem F62:(Mt.F 62).isSome = true:=rfl
theorem F63d:Mt.F 63 = some C.f63:=rfl
theorem F63:(Mt.F 63).isSome = true:=rfl
theorem F64d:Mt.F 64 = some C.f64:=rfl
theorem F64:(Mt.F 64).isSome = true:=rfl
theorem F65d:Mt.F 65 = some C.f65:=rfl
theorem F65:(Mt.F 65).isSome = true:=rfl
theorem F66d:Mt.F 66 = some C.f66:=rfl
theorem F66:(Mt.F 66).isSome = true:=rfl
theorem bd36_ {H:Hp} :bdP Mt H 36 [] = some (.val (vAgg (class_Set.c class_Set.zero)),H):=bd_struct zs36 pl36 fill_nil
theorem bd46_ {H:Hp} :bdP Mt H 46 [] = some (.val (vAgg (lex_Token.c lex_Token.zero)),H):=bd_struct zs46 pl46 fill_nil
theorem bd46_0 {H:Hp} {y0:Int}:bdP Mt H 46 [(0,.int .i64 y0)] = some (.val (vAgg (lex_Token.c ({ lex_Token.zero with f_Kind:=y0 }:lex_Token))),H):=bd_struct zs46 pl46 ((fill_cons (v:=.int .i64 y0) (c:=(cInt .i64) y0) rfl rfl (enc_int.len _) (by rw [lex_Token.enc.len]; decide) (lex_Token.wr0 lex_Token.zero y0)).trans fill_nil)
theorem bd46_0_1 {H:Hp} {y0:Int} {y1:class_Set}:bdP Mt H 46 [(0,.int .i64 y0),(1,vAgg (class_Set.c y1))] = some (.val (vAgg (lex_Token.c ({ lex_Token.zero with f_Kind:=y0,f_Set:=y1 }:lex_Token))),H):=bd_struct zs46 pl46 ((fill_cons (v:=.int .i64 y0) (c:=(cInt .i64) y0) rfl rfl (enc_int.len _) (by rw [lex_Token.enc.len]; decide) (lex_Token.wr0 lex_Token.zero y0)).trans ((fill_cons (v:=vAgg (class_Set.c y1)) (c:=class_Set.c y1) rfl vAgg_cells (class_Set.enc.len _) (by rw [lex_Token.enc.len]; decide) (lex_Token.wr1 ({ lex_Token.zero with f_Kind:=y0 }) y1)).trans fill_nil))
theorem bd46_0_2_3_4 {H:Hp} {y0:Int} {y2:Int} {y3:Int} {y4:Int}:bdP Mt H 46 [(0,.int .i64 y0),(2,.int .i64 y2),(3,.int .i64 y3),(4,.int .i64 y4)] = some (.val (vAgg (lex_Token.c ({ lex_Token.zero with f_Kind:=y0,f_Min:=y2,f_Max:=y3,f_Mode:=y4 }:lex_Token))),H):=bd_struct zs46 pl46 ((fill_cons (v:=.int .i64 y0) (c:=(cInt .i64) y0) rfl rfl (enc_int.len _) (by rw [lex_Token.enc.len]; decide) (lex_Token.wr0 lex_Token.zero y0)).trans ((fill_cons (v:=.int .i64 y2) (c:=(cInt .i64) y2) rfl rfl (enc_int.len _) (by rw [lex_Token.enc.len]; decide) (lex_Token.wr2 ({ lex_Token.zero with f_Kind:=y0 }) y2)).trans ((fill_cons (v:=.int .i64 y3) (c:=(cInt .i64) y3) rfl rfl (enc_int.len _) (by rw [lex_Token.enc.len]; decide) (lex_Token.wr3 ({ { lex_Token.zero with f_Kind:=y0 } with f_Min:=y2 }) y3)).trans ((fill_cons (v:=.int .i64 y4) (c:=(cInt .i64) y4) rfl rfl (enc_int.len _) (by rw [lex_Token.enc.len]; decide) (lex_Token.wr4 ({ { { lex_Token.zero with f_Kind:=y0 } with f_Min:=y2 } with f_Max:=y3 }) y4)).trans fill_nil))))
theorem bd46_0_3 {H:Hp} {y0:Int} {y3:Int}:bdP Mt H 46 [(0,.int .i64 y0),(3,.int .i64 y3)] = some (.val (vAgg (lex_Token.c ({ lex_Token.zero with f_Kind:=y0,f_Max:=y3 }:lex_Token))),H):=bd_struct zs46 pl46 ((fill_cons (v:=.int .i64 y0) (c:=(cInt .i64) y0) rfl rfl (enc_int.len _) (by rw [lex_Token.enc.len]; decide) (lex_Token.wr0 lex_Token.zero y0)).trans ((fill_cons (v:=.int .i64 y3) (c:=(cInt .i64) y3) rfl rfl (enc_int.len _) (by rw [lex_Token.enc.len]; decide) (lex_Token.wr3 ({ lex_Token.zero with f_Kind:=y0 }) y3)).trans fill_nil))
theorem bd46_0_5 {H:Hp} {y0:Int} {y5:Int}:bdP Mt H 46 [(0,.int .i64 y0),(5,.int .i64 y5)] = some (.val (vAgg (lex_Token.c ({ lex_Token.zero with f_Kind:=y0,f_N:=y5 }:lex_Token))),H):=bd_struct zs46 pl46 ((fill_cons (v:=.int .i64 y0) (c:=(cInt .i64) y0) rfl rfl (enc_int.len _) (by rw [lex_Token.enc.len]; decide) (lex_Token.wr0 lex_Token.zero y0)).trans ((fill_cons (v:=.int .i64 y5) (c:=(cInt .i64) y5) rfl rfl (enc_int.len _) (by rw [lex_Token.enc.len]; decide) (lex_Token.wr5 ({ lex_Token.zero with f_Kind:=y0 }) y5)).trans fill_nil))
theorem bd46_0_6 {H:Hp} {y0:Int} {y6:ByteArray}:bdP Mt H 46 [(0,.int .i64 y0),(6,.string y6)] = some (.val (vAgg (lex_Token.c ({ lex_Token.zero with f_Kind:=y0,f_Flags:=y6 }:lex_Token))),H):=bd_struct zs46 pl46 ((fill_cons (v:=.int .i64 y0) (c:=(cInt .i64) y0) rfl rfl (enc_int.len _) (by rw [lex_Token.enc.len]; decide) (lex_Token.wr0 lex_Token.zero y0)).trans ((fill_cons (v:=.string y6) (c:=cStr y6) rfl rfl (enc_str.len _) (by rw [lex_Token.enc.len]; decide) (lex_Token.wr6 ({ lex_Token.zero with f_Kind:=y0 }) y6)).trans fill_nil))
theorem bd46_1 {H:Hp} {y1:class_Set}:bdP Mt H 46 [(1,vAgg (class_Set.c y1))] = some (.val (vAgg (lex_Token.c ({ lex_Token.zero with f_Set:=y1 }:lex_Token))),H):=bd_struct zs46 pl46 ((fill_cons (v:=vAgg (class_Set.c y1)) (c:=class_Set.c y1) rfl vAgg_cells (class_Set.enc.len _) (by rw [lex_Token.enc.len]; decide) (lex_Token.wr1 lex_Token.zero y1)).trans fill_nil)
theorem bd59_ {H:Hp} :bdP Mt H 59 [] = some (.val (vAgg (ref06_Token.c ref06_Token.zero)),H):=bd_struct zs59 pl59 fill_nil
theorem bd59_0 {H:Hp} {y0:Int}:bdP Mt H 59 [(0,.int .i64 y0)] = some (.val (vAgg (ref06_Token.c ({ ref06_Token.zero with f_Kind:=y0 }:ref06_Token))),H):=bd_struct zs59 pl59 ((fill_cons (v:=.int .i64 y0) (c:=(cInt .i64) y0) rfl rfl (enc_int.len _) (by rw [ref06_Token.enc.len]; decide) (ref06_Token.wr0 ref06_Token.zero y0)).trans fill_nil)
theorem bd59_0_1_2_3_4_5_6 {H:Hp} {y0:Int} {y1:(Arr Int 4)} {y2:Int} {y3:Int} {y4:Int} {y5:Int} {y6:ByteArray}:bdP Mt H 59 [(0,.int .i64 y0),(1,vAgg ((cArr (n:=4) (cInt .u64)) y1)),(2,.int .i64 y2),(3,.int .i64 y3),(4,.int .i64 y4),(5,.int .i64 y5),(6,.string y6)] = some (.val (vAgg (ref06_Token.c ({ ref06_Token.zero with f_Kind:=y0,f_Set:=y1,f_Min:=y2,f_Max:=y3,f_Mode:=y4,f_N:=y5,f_Flags:=y6 }:ref06_Token))),H):=bd_struct zs59 pl59 ((fill_cons (v:=.int .i64 y0) (c:=(cInt .i64) y0) rfl rfl (enc_int.len _) (by rw [ref06_Token.enc.len]; decide) (ref06_Token.wr0 ref06_Token.zero y0)).trans ((fill_cons (v:=vAgg ((cArr (n:=4) (cInt .u64)) y1)) (c:=(cArr (n:=4) (cInt .u64)) y1) rfl vAgg_cells ((enc_arr (n:=4) enc_int).len _) (by rw [ref06_Token.enc.len]; decide) (ref06_Token.wr1 ({ ref06_Token.zero with f_Kind:=y0 }) y1)).trans ((fill_cons (v:=.int .i64 y2) (c:=(cInt .i64) y2) rfl rfl (enc_int.len _) (by rw [ref06_Token.enc.len]; decide) (ref06_Token.wr2 ({ { ref06_Token.zero with f_Kind:=y0 } with f_Set:=y1 }) y2)).trans ((fill_cons (v:=.int .i64 y3) (c:=(cInt .i64) y3) rfl rfl (enc_int.len _) (by rw [ref06_Token.enc.len]; decide) (ref06_Token.wr3 ({ { { ref06_Token.zero with f_Kind:=y0 } with f_Set:=y1 } with f_Min:=y2 }) y3)).trans ((fill_cons (v:=.int .i64 y4) (c:=(cInt .i64) y4) rfl rfl (enc_int.len _) (by rw [ref06_Token.enc.len]; decide) (ref06_Token.wr4 ({ { { { ref06_Token.zero with f_Kind:=y0 } with f_Set:=y1 } with f_Min:=y2 } with f_Max:=y3 }) y4)).trans ((fill_cons (v:=.int .i64 y5) (c:=(cInt .i64) y5) rfl rfl (enc_int.len _) (by rw [ref06_Token.enc.len]; decide) (ref06_Token.wr5 ({ { { { { ref06_Token.zero with f_Kind:=y0 } with f_Set:=y1 } with f_Min:=y2 } with f_Max:=y3 } with f_Mode:=y4 }) y5)).trans ((fill_cons (v:=.string y6) (c:=cStr y6) rfl rfl (enc_str.len _) (by rw [ref06_Token.enc.len]; decide) (ref06_Token.wr6 ({ { { { { { ref06_Token.zero with f_Kind:=y0 } with f_Set:=y1 } with f_Min:=y2 } with f_Max:=y3 } with f_Mode:=y4 } with f_N:=y5 }) y6)).trans fill_nil)))))))
theorem bd59_0_2_3 {H:Hp} {y0:Int} {y2:Int} {y3:Int}:bdP Mt H 59 [(0,.int .i64 y0),(2,.int .i64 y2),(3,.int .i64 y3)] = some (.val (vAgg (ref06_Token.c ({ ref06_Token.zero with f_Kind:=y0,f_Min:=y2,f_Max:=y3 }:ref06_Token))),H):=bd_struct zs59 pl59 ((fill_cons (v:=.int .i64 y0) (c:=(cInt .i64) y0) rfl rfl (enc_int.len _) (by rw [ref06_Token.enc.len]; decide) (ref06_Token.wr0 ref06_Token.zero y0)).trans ((fill_cons (v:=.int .i64 y2) (c:=(cInt .i64) y2) rfl rfl (enc_int.len _) (by rw [ref06_Token.enc.len]; decide) (ref06_Token.wr2 ({ ref06_Token.zero with f_Kind:=y0 }) y2)).trans ((fill_cons (v:=.int .i64 y3) (c:=(cInt .i64) y3) rfl rfl (enc_int.len _) (by rw [ref06_Token.enc.len]; decide) (ref06_Token.wr3 ({ { ref06_Token.zero with f_Kind:=y0 } with f_Min:=y2 }) y3)).trans fill_nil)))
theorem bd59_0_3 {H:Hp} {y0:Int} {y3:Int}:bdP Mt H 59 [(0,.int .i64 y0),(3,.int .i64 y3)] = some (.val (vAgg (ref06_Token.c ({ ref06_Token.zero with f_Kind:=y0,f_Max:=y3 }:ref06_Token))),H):=bd_struct zs59 pl59 ((fill_cons (v:=.int .i64 y0) (c:=(cInt .i64) y0) rfl rfl (enc_int.len _) (by rw [ref06_Token.enc.len]; decide) (ref06_Token.wr0 ref06_Token.zero y0)).trans ((fill_cons (v:=.int .i64 y3) (c:=(cInt .i64) y3) rfl rfl (enc_int.len _) (by rw [ref06_Token.enc.len]; decide) (ref06_Token.wr3 ({ ref06_Token.zero with f_Kind:=y0 }) y3)).trans fill_nil))
theorem bd59_0_5 {H:Hp} {y0:Int} {y5:Int}:bdP Mt H 59 [(0,.int .i64 y0),(5,.int .i64 y5)] = some (.val (vAgg (ref06_Token.c ({ ref06_Token.zero with f_Kind:=y0,f_N:=y5 }:ref06_Token))),H):=bd_struct zs59 pl59 ((fill_cons (v:=.int .i64 y0) (c:=(cInt .i64) y0) rfl rfl (enc_int.len _) (by rw [ref06_Token.enc.len]; decide) (ref06_Token.wr0 ref06_Token.zero y0)).trans ((fill_cons (v:=.int .i64 y5) (c:=(cInt .i64) y5) rfl rfl (enc_int.len _) (by rw [ref06_Token.enc.len]; decide) (ref06_Token.wr5 ({ ref06_Token.zero with f_Kind:=y0 }) y5)).trans fill_nil))
theorem bd59_0_6 {H:Hp} {y0:Int} {y6:ByteArray}:bdP Mt H 59 [(0,.int .i64 y0),(6,.string y6)] = some (.val (vAgg (ref06_Token.c ({ ref06_Token.zero with f_Kind:=y0,f_Flags:=y6 }:ref06_Token))),H):=bd_struct zs59 pl59 ((fill_cons (v:=.int .i64 y0) (c:=(cInt .i64) y0) rfl rfl (enc_int.len _) (by rw [ref06_Token.enc.len]; decide) (ref06_Token.wr0 ref06_Token.zero y0)).trans ((fill_cons (v:=.string y6) (c:=cStr y6) rfl rfl (enc_str.len _) (by rw [ref06_Token.enc.len]; decide) (ref06_Token.wr6 ({ ref06_Token.zero with f_Kind:=y0 }) y6)).trans fill_nil))
theorem bd59_1 {H:Hp} {y1:(Arr Int 4)}:bdP Mt H 59 [(1,vAgg ((cArr (n:=4) (cInt .u64)) y1))] = some (.val (vAgg (ref06_Token.c ({ ref06_Token.zero with f_Set:=y1 }:ref06_Token))),H):=bd_struct zs59 pl59 ((fill_cons (v:=vAgg ((cArr (n:=4) (cInt .u64)) y1)) (c:=(cArr (n:=4) (cInt .u64)) y1) rfl vAgg_cells ((enc_arr (n:=4) enc_int).len _) (by rw [ref06_Token.enc.len]; decide) (ref06_Token.wr1 ref06_Token.zero y1)).trans fill_nil)
theorem bd68_ {H:Hp} :bdP Mt H 68 [] = some (.val (vAgg (ref01_Set.c ref01_Set.zero)),H):=bd_struct zs68 pl68 fill_nil
def ixByte (s:ByteArray) (c:Int):Int:=Lib.indexByte s.data.toList c.toNat.toUInt8
theorem x67 {H:Hp} {s:ByteArray} {c:Int}:xP Mt H 67 [.string s,.int .u8 c] = some (.val (.int .i64 (ixByte s c)),H):=rfl
def TabH0 (H:Hp):Prop:=H[0]? = some (.tab (tabInts.map (Value.int .u8)))
theorem tabIv0 {r:Nat} {X:List Nat} {H0 H:Hp} (h:Iv r X H0 H) (hr:r = H0.length) (hG:TabH0 H0) (hX:0 ∉ X:=by simp):TabH0 H:=(h.old 0 (by rw [hr]; exact get_lt hG) hX).trans hG
def tabN0 (j:Nat):Int:=tabInts.getD j 0
theorem tabG0 {j:Nat} (h:j < 64):(tabInts.map (Value.int .u8))[0 + j * 1]? = some (.int .u8 (tabN0 j)):=by
 rw [Nat.zero_add,Nat.mul_one,List.getElem?_map]
 have:j < tabInts.length:=h
 simp [tabN0,List.getD_eq_getElem?_getD,List.getElem?_eq_getElem this]
abbrev T_lex_Lex:=ByteArray → Option ((Sl lex_Token) × Int)
def A_lex_Lex (call:CallF) (c:T_lex_Lex):Prop:=∀ (ro:Nat) (H:Hp) (x0:ByteArray) (r:(Sl lex_Token) × Int),TabH0 H → c x0 = some r → call ro 10 [(.string x0)] H = some ((.tuple [(slV r.1 H.length),(.int .i64 (r.2))].toArray),(H ++ slB lex_Token.c 46 r.1),[])
abbrev T_ref06_Lex:=ByteArray → Option ((Sl ref06_Token) × Int)
def A_ref06_Lex (call:CallF) (c:T_ref06_Lex):Prop:=∀ (ro:Nat) (H:Hp) (x0:ByteArray) (r:(Sl ref06_Token) × Int),c x0 = some r → call ro 11 [(.string x0)] H = some ((.tuple [(slV r.1 H.length),(.int .i64 (r.2))].toArray),(H ++ slB ref06_Token.c 59 r.1),[])
abbrev T_ref06_Same:=(Sl ref06_Token) → (Sl ref06_Token) → Option (Bool)
def A_ref06_Same (call:CallF) (c:T_ref06_Same):Prop:=∀ (ro:Nat) (H:Hp) (x0:(Sl ref06_Token)) (b0:Nat) (x1:(Sl ref06_Token)) (b1:Nat) (r:Bool),SlH H ref06_Token.c 59 x0 b0 → SlH H ref06_Token.c 59 x1 b1 → c x0 x1 = some r → call ro 12 [(slV x0 b0),(slV x1 b1)] H = some ((.bool (r)),H,[])
abbrev T_law06_Ref:=(Sl lex_Token) → Option ((Sl ref06_Token))
def A_law06_Ref (call:CallF) (c:T_law06_Ref):Prop:=∀ (ro:Nat) (H:Hp) (x0:(Sl lex_Token)) (b0:Nat) (r:(Sl ref06_Token)),SlH H lex_Token.c 46 x0 b0 → c x0 = some r → call ro 13 [(slV x0 b0)] H = some ((slV r H.length),(H ++ slB ref06_Token.c 59 r),[])
abbrev T_law06_fixed:=Option (Bool)
def A_law06_fixed (call:CallF) (c:T_law06_fixed):Prop:=∀ (ro:Nat) (H:Hp) (r:Bool),TabH0 H → c = some r → call ro 14 [] H = some ((.bool (r)),H,[])
abbrev T_lex_Class:=ByteArray → Int → Option (class_Set × Int × Int)
def A_lex_Class (call:CallF) (c:T_lex_Class):Prop:=∀ (ro:Nat) (H:Hp) (x0:ByteArray) (x1:Int) (r:class_Set × Int × Int),TabH0 H → c x0 x1 = some r → call ro 15 [(.string x0),(.int .i64 x1)] H = some ((.tuple [(vAgg (class_Set.c (r.1))),(.int .i64 (r.2.1)),(.int .i64 (r.2.2))].toArray),H,[])
abbrev T_ref06_Class:=ByteArray → Int → Option ((Arr Int 4) × Int × Int)
def A_ref06_Class (call:CallF) (c:T_ref06_Class):Prop:=∀ (ro:Nat) (H:Hp) (x0:ByteArray) (x1:Int) (r:(Arr Int 4) × Int × Int),c x0 x1 = some r → call ro 16 [(.string x0),(.int .i64 x1)] H = some ((.tuple [(vAgg ((cArr (n:=4) (cInt .u64)) (r.1))),(.int .i64 (r.2.1)),(.int .i64 (r.2.2))].toArray),H,[])
abbrev T_class_One:=Int → Option (class_Set)
def A_class_One (call:CallF) (c:T_class_One):Prop:=∀ (ro:Nat) (H:Hp) (x0:Int) (r:class_Set),c x0 = some r → call ro 17 [(.int .u8 x0)] H = some ((vAgg (class_Set.c (r))),H,[])
abbrev T_class_Of:=ByteArray → Option (class_Set)
def A_class_Of (call:CallF) (c:T_class_Of):Prop:=∀ (ro:Nat) (H:Hp) (x0:ByteArray) (r:class_Set),c x0 = some r → call ro 18 [(.string x0)] H = some ((vAgg (class_Set.c (r))),H,[])
abbrev T_class_Set_Has:=class_Set → Int → Option (Bool)
def A_class_Set_Has (call:CallF) (c:T_class_Set_Has):Prop:=∀ (ro:Nat) (H:Hp) (x0:class_Set) (x1:Int) (r:Bool),c x0 x1 = some r → call ro 19 [(vAgg (class_Set.c x0)),(.int .u8 x1)] H = some ((.bool (r)),H,[])
abbrev T_class_Range:=Int → Int → Option (class_Set)
def A_class_Range (call:CallF) (c:T_class_Range):Prop:=∀ (ro:Nat) (H:Hp) (x0:Int) (x1:Int) (r:class_Set),c x0 x1 = some r → call ro 20 [(.int .u8 x0),(.int .u8 x1)] H = some ((vAgg (class_Set.c (r))),H,[])
abbrev T_class_Set_Or:=class_Set → class_Set → Option (class_Set)
def A_class_Set_Or (call:CallF) (c:T_class_Set_Or):Prop:=∀ (ro:Nat) (H:Hp) (x0:class_Set) (x1:class_Set) (r:class_Set),c x0 x1 = some r → call ro 21 [(vAgg (class_Set.c x0)),(vAgg (class_Set.c x1))] H = some ((vAgg (class_Set.c (r))),H,[])
abbrev T_lex_token:=ByteArray → Option (lex_Token × Int × Int)
def A_lex_token (call:CallF) (c:T_lex_token):Prop:=∀ (ro:Nat) (H:Hp) (x0:ByteArray) (r:lex_Token × Int × Int),TabH0 H → c x0 = some r → call ro 23 [(.string x0)] H = some ((.tuple [(vAgg (lex_Token.c (r.1))),(.int .i64 (r.2.1)),(.int .i64 (r.2.2))].toArray),H,[])
abbrev T_ref06_token:=ByteArray → Int → Option (ref06_Token × Int × Int)
def A_ref06_token (call:CallF) (c:T_ref06_token):Prop:=∀ (ro:Nat) (H:Hp) (x0:ByteArray) (x1:Int) (r:ref06_Token × Int × Int),c x0 x1 = some r → call ro 24 [(.string x0),(.int .i64 x1)] H = some ((.tuple [(vAgg (ref06_Token.c (r.1))),(.int .i64 (r.2.1)),(.int .i64 (r.2.2))].toArray),H,[])
abbrev T_class_Set_Not:=class_Set → Option (class_Set)
def A_class_Set_Not (call:CallF) (c:T_class_Set_Not):Prop:=∀ (ro:Nat) (H:Hp) (x0:class_Set) (r:class_Set),c x0 = some r → call ro 25 [(vAgg (class_Set.c x0))] H = some ((vAgg (class_Set.c (r))),H,[])
abbrev T_strings_HasPrefix:=ByteArray → ByteArray → Option (Bool)
def A_strings_HasPrefix (call:CallF) (c:T_strings_HasPrefix):Prop:=∀ (ro:Nat) (H:Hp) (x0:ByteArray) (x1:ByteArray) (r:Bool),c x0 x1 = some r → call ro 26 [(.string x0),(.string x1)] H = some ((.bool (r)),H,[])
abbrev T_lex_span:=ByteArray → Option (class_Set × Int)
def A_lex_span (call:CallF) (c:T_lex_span):Prop:=∀ (ro:Nat) (H:Hp) (x0:ByteArray) (r:class_Set × Int),TabH0 H → c x0 = some r → call ro 27 [(.string x0)] H = some ((.tuple [(vAgg (class_Set.c (r.1))),(.int .i64 (r.2))].toArray),H,[])
abbrev T_ref06_starts:=ByteArray → Int → ByteArray → Option (Bool)
def A_ref06_starts (call:CallF) (c:T_ref06_starts):Prop:=∀ (ro:Nat) (H:Hp) (x0:ByteArray) (x1:Int) (x2:ByteArray) (r:Bool),c x0 x1 x2 = some r → call ro 28 [(.string x0),(.int .i64 x1),(.string x2)] H = some ((.bool (r)),H,[])
abbrev T_ref06_item:=ByteArray → Int → Option (ref01_Set × Int)
def A_ref06_item (call:CallF) (c:T_ref06_item):Prop:=∀ (ro:Nat) (H:Hp) (x0:ByteArray) (x1:Int) (r:ref01_Set × Int),c x0 x1 = some r → call ro 29 [(.string x0),(.int .i64 x1)] H = some ((.tuple [(vAgg (ref01_Set.c (r.1))),(.int .i64 (r.2))].toArray),H,[])
abbrev T_ref01_Min:=ref01_Set → Option (Int × Bool)
def A_ref01_Min (call:CallF) (c:T_ref01_Min):Prop:=∀ (ro:Nat) (H:Hp) (x0:ref01_Set) (r:Int × Bool),c x0 = some r → call ro 30 [(vAgg (ref01_Set.c x0))] H = some ((.tuple [(.int .u8 (r.1)),(.bool (r.2))].toArray),H,[])
abbrev T_ref01_Len:=ref01_Set → Option (Int)
def A_ref01_Len (call:CallF) (c:T_ref01_Len):Prop:=∀ (ro:Nat) (H:Hp) (x0:ref01_Set) (r:Int),c x0 = some r → call ro 31 [(vAgg (ref01_Set.c x0))] H = some ((.int .i64 (r)),H,[])
abbrev T_ref01_Range:=Int → Int → Option (ref01_Set)
def A_ref01_Range (call:CallF) (c:T_ref01_Range):Prop:=∀ (ro:Nat) (H:Hp) (x0:Int) (x1:Int) (r:ref01_Set),c x0 x1 = some r → call ro 32 [(.int .u8 x0),(.int .u8 x1)] H = some ((vAgg (ref01_Set.c (r))),H,[])
abbrev T_ref01_Or:=ref01_Set → ref01_Set → Option (ref01_Set)
def A_ref01_Or (call:CallF) (c:T_ref01_Or):Prop:=∀ (ro:Nat) (H:Hp) (x0:ref01_Set) (x1:ref01_Set) (r:ref01_Set),c x0 x1 = some r → call ro 33 [(vAgg (ref01_Set.c x0)),(vAgg (ref01_Set.c x1))] H = some ((vAgg (ref01_Set.c (r))),H,[])
abbrev T_ref01_Not:=ref01_Set → Option (ref01_Set)
def A_ref01_Not (call:CallF) (c:T_ref01_Not):Prop:=∀ (ro:Nat) (H:Hp) (x0:ref01_Set) (r:ref01_Set),c x0 = some r → call ro 34 [(vAgg (ref01_Set.c x0))] H = some ((vAgg (ref01_Set.c (r))),H,[])
abbrev T_ref01_Words:=ref01_Set → Option ((Arr Int 4))
def A_ref01_Words (call:CallF) (c:T_ref01_Words):Prop:=∀ (ro:Nat) (H:Hp) (x0:ref01_Set) (r:(Arr Int 4)),c x0 = some r → call ro 35 [(vAgg (ref01_Set.c x0))] H = some ((vAgg ((cArr (n:=4) (cInt .u64)) (r))),H,[])
abbrev T_class_Set_add:=class_Set → Int → Option (class_Set)
def A_class_Set_add (call:CallF) (c:T_class_Set_add):Prop:=∀ (ro:Nat) (H:Hp) (x0:class_Set) (b0:Nat) (x1:Int) (r:class_Set),H[b0]? = some (.cells (class_Set.c x0) 36) → ro ≤ b0 → c x0 x1 = some r → call ro 36 [(.pointer (some ⟨b0,0,none⟩)),(.int .u8 x1)] H = some ((.tuple [].toArray),(H.set b0 (.cells (class_Set.c r) 36)),[])
abbrev T_lex_simple:=Int → Option (Int × Bool)
def A_lex_simple (call:CallF) (c:T_lex_simple):Prop:=∀ (ro:Nat) (H:Hp) (x0:Int) (r:Int × Bool),c x0 = some r → call ro 37 [(.int .u8 x0)] H = some ((.tuple [(.int .i64 (r.1)),(.bool (r.2))].toArray),H,[])
abbrev T_lex_opening:=ByteArray → Option (lex_Token × Int × Int)
def A_lex_opening (call:CallF) (c:T_lex_opening):Prop:=∀ (ro:Nat) (H:Hp) (x0:ByteArray) (r:lex_Token × Int × Int),c x0 = some r → call ro 38 [(.string x0)] H = some ((.tuple [(vAgg (lex_Token.c (r.1))),(.int .i64 (r.2.1)),(.int .i64 (r.2.2))].toArray),H,[])
abbrev T_lex_quant:=ByteArray → Option (lex_Token × Int × Int)
def A_lex_quant (call:CallF) (c:T_lex_quant):Prop:=∀ (ro:Nat) (H:Hp) (x0:ByteArray) (r:lex_Token × Int × Int),c x0 = some r → call ro 39 [(.string x0)] H = some ((.tuple [(vAgg (lex_Token.c (r.1))),(.int .i64 (r.2.1)),(.int .i64 (r.2.2))].toArray),H,[])
abbrev T_lex_escaped:=ByteArray → Option (lex_Token × Int × Int)
def A_lex_escaped (call:CallF) (c:T_lex_escaped):Prop:=∀ (ro:Nat) (H:Hp) (x0:ByteArray) (r:lex_Token × Int × Int),c x0 = some r → call ro 40 [(.string x0)] H = some ((.tuple [(vAgg (lex_Token.c (r.1))),(.int .i64 (r.2.1)),(.int .i64 (r.2.2))].toArray),H,[])
abbrev T_ref06_flags:=ByteArray → Int → Option (ref06_Token × Int × Int)
def A_ref06_flags (call:CallF) (c:T_ref06_flags):Prop:=∀ (ro:Nat) (H:Hp) (x0:ByteArray) (x1:Int) (r:ref06_Token × Int × Int),c x0 x1 = some r → call ro 41 [(.string x0),(.int .i64 x1)] H = some ((.tuple [(vAgg (ref06_Token.c (r.1))),(.int .i64 (r.2.1)),(.int .i64 (r.2.2))].toArray),H,[])
abbrev T_ref06_quant:=ByteArray → Int → Option (ref06_Token × Int × Int)
def A_ref06_quant (call:CallF) (c:T_ref06_quant):Prop:=∀ (ro:Nat) (H:Hp) (x0:ByteArray) (x1:Int) (r:ref06_Token × Int × Int),c x0 x1 = some r → call ro 42 [(.string x0),(.int .i64 x1)] H = some ((.tuple [(vAgg (ref06_Token.c (r.1))),(.int .i64 (r.2.1)),(.int .i64 (r.2.2))].toArray),H,[])
abbrev T_ref06_one:=Int → Option (ref01_Set)
def A_ref06_one (call:CallF) (c:T_ref06_one):Prop:=∀ (ro:Nat) (H:Hp) (x0:Int) (r:ref01_Set),c x0 = some r → call ro 43 [(.int .u8 x0)] H = some ((vAgg (ref01_Set.c (r))),H,[])
abbrev T_ref06_escape:=ByteArray → Int → Option (ref01_Set × Int)
def A_ref06_escape (call:CallF) (c:T_ref06_escape):Prop:=∀ (ro:Nat) (H:Hp) (x0:ByteArray) (x1:Int) (r:ref01_Set × Int),c x0 x1 = some r → call ro 44 [(.string x0),(.int .i64 x1)] H = some ((.tuple [(vAgg (ref01_Set.c (r.1))),(.int .i64 (r.2))].toArray),H,[])
abbrev T_stringslite_HasPrefix:=ByteArray → ByteArray → Option (Bool)
def A_stringslite_HasPrefix (call:CallF) (c:T_stringslite_HasPrefix):Prop:=∀ (ro:Nat) (H:Hp) (x0:ByteArray) (x1:ByteArray) (r:Bool),c x0 x1 = some r → call ro 45 [(.string x0),(.string x1)] H = some ((.bool (r)),H,[])
abbrev T_lex_item:=ByteArray → Option (class_Set × Int)
def A_lex_item (call:CallF) (c:T_lex_item):Prop:=∀ (ro:Nat) (H:Hp) (x0:ByteArray) (r:class_Set × Int),c x0 = some r → call ro 46 [(.string x0)] H = some ((.tuple [(vAgg (class_Set.c (r.1))),(.int .i64 (r.2))].toArray),H,[])
abbrev T_class_Set_Min:=class_Set → Option (Int × Bool)
def A_class_Set_Min (call:CallF) (c:T_class_Set_Min):Prop:=∀ (ro:Nat) (H:Hp) (x0:class_Set) (r:Int × Bool),TabH0 H → c x0 = some r → call ro 47 [(vAgg (class_Set.c x0))] H = some ((.tuple [(.int .u8 (r.1)),(.bool (r.2))].toArray),H,[])
abbrev T_class_Set_Len:=class_Set → Option (Int)
def A_class_Set_Len (call:CallF) (c:T_class_Set_Len):Prop:=∀ (ro:Nat) (H:Hp) (x0:class_Set) (r:Int),c x0 = some r → call ro 48 [(vAgg (class_Set.c x0))] H = some ((.int .i64 (r)),H,[])
abbrev T_strings_IndexByte:=ByteArray → Int → Option (Int)
def A_strings_IndexByte (call:CallF) (c:T_strings_IndexByte):Prop:=∀ (ro:Nat) (H:Hp) (x0:ByteArray) (x1:Int) (r:Int),c x0 x1 = some r → call ro 49 [(.string x0),(.int .u8 x1)] H = some ((.int .i64 (r)),H,[])
abbrev T_lex_hasRune:=ByteArray → Int → Option (Bool)
def A_lex_hasRune (call:CallF) (c:T_lex_hasRune):Prop:=∀ (ro:Nat) (H:Hp) (x0:ByteArray) (x1:Int) (r:Bool),c x0 x1 = some r → call ro 50 [(.string x0),(.int .i32 x1)] H = some ((.bool (r)),H,[])
abbrev T_lex_counted:=ByteArray → Option (Int × Int × Int)
def A_lex_counted (call:CallF) (c:T_lex_counted):Prop:=∀ (ro:Nat) (H:Hp) (x0:ByteArray) (r:Int × Int × Int),c x0 = some r → call ro 51 [(.string x0)] H = some ((.tuple [(.int .i64 (r.1)),(.int .i64 (r.2.1)),(.int .i64 (r.2.2))].toArray),H,[])
abbrev T_lex_digit:=Int → Int → Option (Int)
def A_lex_digit (call:CallF) (c:T_lex_digit):Prop:=∀ (ro:Nat) (H:Hp) (x0:Int) (x1:Int) (r:Int),c x0 x1 = some r → call ro 52 [(.int .u8 x0),(.int .i64 x1)] H = some ((.int .i64 (r)),H,[])
abbrev T_lex_escape:=ByteArray → Option (class_Set × Int)
def A_lex_escape (call:CallF) (c:T_lex_escape):Prop:=∀ (ro:Nat) (H:Hp) (x0:ByteArray) (r:class_Set × Int),c x0 = some r → call ro 53 [(.string x0)] H = some ((.tuple [(vAgg (class_Set.c (r.1))),(.int .i64 (r.2))].toArray),H,[])
abbrev T_ref06_braces:=ByteArray → Int → Option (ref06_Token × Int × Int)
def A_ref06_braces (call:CallF) (c:T_ref06_braces):Prop:=∀ (ro:Nat) (H:Hp) (x0:ByteArray) (x1:Int) (r:ref06_Token × Int × Int),c x0 x1 = some r → call ro 54 [(.string x0),(.int .i64 x1)] H = some ((.tuple [(vAgg (ref06_Token.c (r.1))),(.int .i64 (r.2.1)),(.int .i64 (r.2.2))].toArray),H,[])
abbrev T_ref06_word:=Option (ref01_Set)
def A_ref06_word (call:CallF) (c:T_ref06_word):Prop:=∀ (ro:Nat) (H:Hp) (r:ref01_Set),c = some r → call ro 55 [] H = some ((vAgg (ref01_Set.c (r))),H,[])
abbrev T_ref06_space:=Option (ref01_Set)
def A_ref06_space (call:CallF) (c:T_ref06_space):Prop:=∀ (ro:Nat) (H:Hp) (r:ref01_Set),c = some r → call ro 56 [] H = some ((vAgg (ref01_Set.c (r))),H,[])
abbrev T_ref06_Digit:=Int → Option (Int)
def A_ref06_Digit (call:CallF) (c:T_ref06_Digit):Prop:=∀ (ro:Nat) (H:Hp) (x0:Int) (r:Int),c x0 = some r → call ro 57 [(.int .u8 x0)] H = some ((.int .i64 (r)),H,[])
abbrev T_bits_TrailingZeros64:=Int → Option (Int)
def A_bits_TrailingZeros64 (call:CallF) (c:T_bits_TrailingZeros64):Prop:=∀ (ro:Nat) (H:Hp) (x0:Int) (r:Int),TabH0 H → c x0 = some r → call ro 58 [(.int .u64 x0)] H = some ((.int .i64 (r)),H,[])
abbrev T_bits_OnesCount64:=Int → Option (Int)
def A_bits_OnesCount64 (call:CallF) (c:T_bits_OnesCount64):Prop:=∀ (ro:Nat) (H:Hp) (x0:Int) (r:Int),c x0 = some r → call ro 59 [(.int .u64 x0)] H = some ((.int .i64 (r)),H,[])
abbrev T_stringslite_IndexByte:=ByteArray → Int → Option (Int)
def A_stringslite_IndexByte (call:CallF) (c:T_stringslite_IndexByte):Prop:=∀ (ro:Nat) (H:Hp) (x0:ByteArray) (x1:Int) (r:Int),c x0 x1 = some r → call ro 60 [(.string x0),(.int .u8 x1)] H = some ((.int .i64 (r)),H,[])
abbrev T_lex_count:=ByteArray → Option (Int × Int)
def A_lex_count (call:CallF) (c:T_lex_count):Prop:=∀ (ro:Nat) (H:Hp) (x0:ByteArray) (r:Int × Int),c x0 = some r → call ro 61 [(.string x0)] H = some ((.tuple [(.int .i64 (r.1)),(.int .i64 (r.2))].toArray),H,[])
abbrev T_lex_digits:=Option (class_Set)
def A_lex_digits (call:CallF) (c:T_lex_digits):Prop:=∀ (ro:Nat) (H:Hp) (r:class_Set),c = some r → call ro 62 [] H = some ((vAgg (class_Set.c (r))),H,[])
abbrev T_lex_words:=Option (class_Set)
def A_lex_words (call:CallF) (c:T_lex_words):Prop:=∀ (ro:Nat) (H:Hp) (r:class_Set),c = some r → call ro 63 [] H = some ((vAgg (class_Set.c (r))),H,[])
abbrev T_lex_spaces:=Option (class_Set)
def A_lex_spaces (call:CallF) (c:T_lex_spaces):Prop:=∀ (ro:Nat) (H:Hp) (r:class_Set),c = some r → call ro 64 [] H = some ((vAgg (class_Set.c (r))),H,[])
abbrev T_lex_letter:=Int → Option (Bool)
def A_lex_letter (call:CallF) (c:T_lex_letter):Prop:=∀ (ro:Nat) (H:Hp) (x0:Int) (r:Bool),c x0 = some r → call ro 65 [(.int .u8 x0)] H = some ((.bool (r)),H,[])
abbrev T_ref06_count:=ByteArray → Int → Option (Int × Int)
def A_ref06_count (call:CallF) (c:T_ref06_count):Prop:=∀ (ro:Nat) (H:Hp) (x0:ByteArray) (x1:Int) (r:Int × Int),c x0 x1 = some r → call ro 66 [(.string x0),(.int .i64 x1)] H = some ((.tuple [(.int .i64 (r.1)),(.int .i64 (r.2))].toArray),H,[])
end Go.Proofs.YtcjnmmeibppblaaDoor
