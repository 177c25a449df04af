import Derived.Test.YtcjnmmeibppblaaDoorF8Ty
import Derived.Test.YtcjnmmeibppblaaDoorAm22
set_option maxRecDepth 100000
set_option linter.unusedVariables false
set_option linter.unusedSimpArgs false
namespace Go.Proofs.YtcjnmmeibppblaaDoor
open Go Go.AM
theorem F8d : Mt.F 8 = some C.f8 := rfl
theorem F8 : (Mt.F 8).isSome = true := rfl
theorem F10d : Mt.F 10 = some C.f10 := rfl
theorem F10 : (Mt.F 10).isSome = true := rfl
theorem F14d : Mt.F 14 = some C.f14 := rfl
theorem F14 : (Mt.F 14).isSome = true := rfl
theorem F15d : Mt.F 15 = some C.f15 := rfl
theorem F15 : (Mt.F 15).isSome = true := rfl
theorem F17d : Mt.F 17 = some C.f17 := rfl
theorem F17 : (Mt.F 17).isSome = true := rfl
theorem F18d : Mt.F 18 = some C.f18 := rfl
theorem F18 : (Mt.F 18).isSome = true := rfl
theorem F19d : Mt.F 19 = some C.f19 := rfl
theorem F19 : (Mt.F 19).isSome = true := rfl
theorem F20d : Mt.F 20 = some C.f20 := rfl
theorem F20 : (Mt.F 20).isSome = true := rfl
theorem F21d : Mt.F 21 = some C.f21 := rfl
theorem F21 : (Mt.F 21).isSome = true := rfl
theorem F23d : Mt.F 23 = some C.f23 := rfl
theorem F23 : (Mt.F 23).isSome = true := rfl
theorem F25d : Mt.F 25 = some C.f25 := rfl
theorem F25 : (Mt.F 25).isSome = true := rfl
theorem F26d : Mt.F 26 = some C.f26 := rfl
theorem F26 : (Mt.F 26).isSome = true := rfl
theorem F27d : Mt.F 27 = some C.f27 := rfl
theorem F27 : (Mt.F 27).isSome = true := rfl
theorem F36d : Mt.F 36 = some C.f36 := rfl
theorem F36 : (Mt.F 36).isSome = true := rfl
theorem F37d : Mt.F 37 = some C.f37 := rfl
theorem F37 : (Mt.F 37).isSome = true := rfl
theorem F38d : Mt.F 38 = some C.f38 := rfl
theorem F38 : (Mt.F 38).isSome = true := rfl
theorem F39d : Mt.F 39 = some C.f39 := rfl
theorem F39 : (Mt.F 39).isSome = true := rfl
theorem F40d : Mt.F 40 = some C.f40 := rfl
theorem F40 : (Mt.F 40).isSome = true := rfl
theorem F45d : Mt.F 45 = some C.f45 := rfl
theorem F45 : (Mt.F 45).isSome = true := rfl
theorem F46d : Mt.F 46 = some C.f46 := rfl
theorem F46 : (Mt.F 46).isSome = true := rfl
theorem F47d : Mt.F 47 = some C.f47 := rfl
theorem F47 : (Mt.F 47).isSome = true := rfl
theorem F48d : Mt.F 48 = some C.f48 := rfl
theorem F48 : (Mt.F 48).isSome = true := rfl
theorem F49d : Mt.F 49 = some C.f49 := rfl
theorem F49 : (Mt.F 49).isSome = true := rfl
theorem F50d : Mt.F 50 = some C.f50 := rfl
theorem F50 : (Mt.F 50).isSome = true := rfl
theorem F51d : Mt.F 51 = some C.f51 := rfl
theorem F51 : (Mt.F 51).isSome = true := rfl
theorem F52d : Mt.F 52 = some C.f52 := rfl
theorem F52 : (Mt.F 52).isSome = true := rfl
theorem F53d : Mt.F 53 = some C.f53 := rfl
theorem F53 : (Mt.F 53).isSome = true := rfl
theorem F58d : Mt.F 58 = some C.f58 := rfl
theorem F58 : (Mt.F 58).isSome = true := rfl
theorem F59d : Mt.F 59 = some C.f59 := rfl
theorem F59 : (Mt.F 59).isSome = true := rfl
theorem F60d : Mt.F 60 = some C.f60 := rfl
theorem F60 : (Mt.F 60).isSome = true := rfl
theorem F61d : Mt.F 61 = some C.f61 := rfl
theorem F61 : (Mt.F 61).isSome = true := rfl
theorem F62d : Mt.F 62 = some C.f62 := rfl
theorem F62 : (Mt.F 62).isSome = true := rfl
theorem F63d : Mt.F 63 = some C.f63 := rfl
theorem F63 : (Mt.F 63).isSome = true := rfl
theorem F64d : Mt.F 64 = some C.f64 := rfl
theorem F64 : (Mt.F 64).isSome = true := rfl
theorem F65d : Mt.F 65 = some C.f65 := rfl
theorem F65 : (Mt.F 65).isSome = true := rfl
theorem bd36_ {H : Hp}  : bdP Mt H 36 [] = some (.val (vAgg (S35.c S35.zero)), H) := bd_struct zs36 pl36 fill_nil
theorem bd46_ {H : Hp}  : bdP Mt H 46 [] = some (.val (vAgg (S45.c S45.zero)), H) := bd_struct zs46 pl46 fill_nil
theorem bd46_0 {H : Hp} {y0 : Int} : bdP Mt H 46 [(0, .int .i64 y0)] = some (.val (vAgg (S45.c ({ S45.zero with f_Kind := y0 } : S45))), H) := bd_struct zs46 pl46 ((fill_cons (v := .int .i64 y0) (c := (cInt .i64) y0) rfl rfl (enc_int.len _) (by rw [S45.enc.len]; decide) (S45.wr0 S45.zero y0)).trans fill_nil)
theorem bd46_0_1 {H : Hp} {y0 : Int} {y1 : S35} : bdP Mt H 46 [(0, .int .i64 y0), (1, vAgg (S35.c y1))] = some (.val (vAgg (S45.c ({ S45.zero with f_Kind := y0, f_Set := y1 } : S45))), H) := bd_struct zs46 pl46 ((fill_cons (v := .int .i64 y0) (c := (cInt .i64) y0) rfl rfl (enc_int.len _) (by rw [S45.enc.len]; decide) (S45.wr0 S45.zero y0)).trans ((fill_cons (v := vAgg (S35.c y1)) (c := S35.c y1) rfl vAgg_cells (S35.enc.len _) (by rw [S45.enc.len]; decide) (S45.wr1 ({ S45.zero with f_Kind := y0 }) y1)).trans fill_nil))
theorem bd46_0_2_3_4 {H : Hp} {y0 : Int} {y2 : Int} {y3 : Int} {y4 : Int} : bdP Mt H 46 [(0, .int .i64 y0), (2, .int .i64 y2), (3, .int .i64 y3), (4, .int .i64 y4)] = some (.val (vAgg (S45.c ({ S45.zero with f_Kind := y0, f_Min := y2, f_Max := y3, f_Mode := y4 } : S45))), H) := bd_struct zs46 pl46 ((fill_cons (v := .int .i64 y0) (c := (cInt .i64) y0) rfl rfl (enc_int.len _) (by rw [S45.enc.len]; decide) (S45.wr0 S45.zero y0)).trans ((fill_cons (v := .int .i64 y2) (c := (cInt .i64) y2) rfl rfl (enc_int.len _) (by rw [S45.enc.len]; decide) (S45.wr2 ({ S45.zero with f_Kind := y0 }) y2)).trans ((fill_cons (v := .int .i64 y3) (c := (cInt .i64) y3) rfl rfl (enc_int.len _) (by rw [S45.enc.len]; decide) (S45.wr3 ({ { S45.zero with f_Kind := y0 } with f_Min := y2 }) y3)).trans ((fill_cons (v := .int .i64 y4) (c := (cInt .i64) y4) rfl rfl (enc_int.len _) (by rw [S45.enc.len]; decide) (S45.wr4 ({ { { S45.zero with f_Kind := y0 } with f_Min := y2 } with f_Max := y3 }) y4)).trans fill_nil))))
theorem bd46_0_3 {H : Hp} {y0 : Int} {y3 : Int} : bdP Mt H 46 [(0, .int .i64 y0), (3, .int .i64 y3)] = some (.val (vAgg (S45.c ({ S45.zero with f_Kind := y0, f_Max := y3 } : S45))), H) := bd_struct zs46 pl46 ((fill_cons (v := .int .i64 y0) (c := (cInt .i64) y0) rfl rfl (enc_int.len _) (by rw [S45.enc.len]; decide) (S45.wr0 S45.zero y0)).trans ((fill_cons (v := .int .i64 y3) (c := (cInt .i64) y3) rfl rfl (enc_int.len _) (by rw [S45.enc.len]; decide) (S45.wr3 ({ S45.zero with f_Kind := y0 }) y3)).trans fill_nil))
theorem bd46_0_5 {H : Hp} {y0 : Int} {y5 : Int} : bdP Mt H 46 [(0, .int .i64 y0), (5, .int .i64 y5)] = some (.val (vAgg (S45.c ({ S45.zero with f_Kind := y0, f_N := y5 } : S45))), H) := bd_struct zs46 pl46 ((fill_cons (v := .int .i64 y0) (c := (cInt .i64) y0) rfl rfl (enc_int.len _) (by rw [S45.enc.len]; decide) (S45.wr0 S45.zero y0)).trans ((fill_cons (v := .int .i64 y5) (c := (cInt .i64) y5) rfl rfl (enc_int.len _) (by rw [S45.enc.len]; decide) (S45.wr5 ({ S45.zero with f_Kind := y0 }) y5)).trans fill_nil))
theorem bd46_0_6 {H : Hp} {y0 : Int} {y6 : ByteArray} : bdP Mt H 46 [(0, .int .i64 y0), (6, .string y6)] = some (.val (vAgg (S45.c ({ S45.zero with f_Kind := y0, f_Flags := y6 } : S45))), H) := bd_struct zs46 pl46 ((fill_cons (v := .int .i64 y0) (c := (cInt .i64) y0) rfl rfl (enc_int.len _) (by rw [S45.enc.len]; decide) (S45.wr0 S45.zero y0)).trans ((fill_cons (v := .string y6) (c := cStr y6) rfl rfl (enc_str.len _) (by rw [S45.enc.len]; decide) (S45.wr6 ({ S45.zero with f_Kind := y0 }) y6)).trans fill_nil))
theorem bd46_1 {H : Hp} {y1 : S35} : bdP Mt H 46 [(1, vAgg (S35.c y1))] = some (.val (vAgg (S45.c ({ S45.zero with f_Set := y1 } : S45))), H) := bd_struct zs46 pl46 ((fill_cons (v := vAgg (S35.c y1)) (c := S35.c y1) rfl vAgg_cells (S35.enc.len _) (by rw [S45.enc.len]; decide) (S45.wr1 S45.zero y1)).trans fill_nil)
def ixByte (s : ByteArray) (c : Int) : Int := Lib.indexByte s.data.toList c.toNat.toUInt8
theorem x67 {H : Hp} {s : ByteArray} {c : Int} : xP Mt H 67 [.string s, .int .u8 c] = some (.val (.int .i64 (ixByte s c)), H) := rfl
def TabH0 (H : Hp) : Prop := H[0]? = some (.tab (tabInts.map (Value.int .u8)))
theorem tabIv0 {r : Nat} {X : List Nat} {H0 H : Hp} (h : Iv r X H0 H) (hr : r = H0.length) (hG : TabH0 H0) (hX : 0 ∉ X := by simp) : TabH0 H := (h.old 0 (by rw [hr]; exact get_lt hG) hX).trans hG
def tabN0 (j : Nat) : Int := tabInts.getD j 0
theorem tabG0 {j : Nat} (h : j < 64) : (tabInts.map (Value.int .u8))[0 + j * 1]? = some (.int .u8 (tabN0 j)) := by
  rw [Nat.zero_add, Nat.mul_one, List.getElem?_map]
  have : j < tabInts.length := h
  simp [tabN0, List.getD_eq_getElem?_getD, List.getElem?_eq_getElem this]
abbrev T8 := (Arr Int 3) → Int → Option (Bool)
def A8 (call : CallF) (c : T8) : Prop := ∀ (ro : Nat) (H : Hp) (x0 : (Arr Int 3)) (x1 : Int) (r : Bool), TabH0 H → c x0 x1 = some r → call ro 8 [(vAgg ((cArr (n := 3) (cInt .u8)) x0)), (.int .u8 x1)] H = some ((.bool (r)), H, [])
abbrev T10 := ByteArray → Option ((Sl S45) × Int)
def A10 (call : CallF) (c : T10) : Prop := ∀ (ro : Nat) (H : Hp) (x0 : ByteArray) (r : (Sl S45) × Int), TabH0 H → c x0 = some r → call ro 10 [(.string x0)] H = some ((.tuple [(slV r.1 H.length), (.int .i64 (r.2))].toArray), (H ++ slB S45.c 46 r.1), [])
abbrev T14 := Option (Bool)
def A14 (call : CallF) (c : T14) : Prop := ∀ (ro : Nat) (H : Hp) (r : Bool), TabH0 H → c = some r → call ro 14 [] H = some ((.bool (r)), H, [])
abbrev T15 := ByteArray → Int → Option (S35 × Int × Int)
def A15 (call : CallF) (c : T15) : Prop := ∀ (ro : Nat) (H : Hp) (x0 : ByteArray) (x1 : Int) (r : S35 × Int × Int), TabH0 H → c x0 x1 = some r → call ro 15 [(.string x0), (.int .i64 x1)] H = some ((.tuple [(vAgg (S35.c (r.1))), (.int .i64 (r.2.1)), (.int .i64 (r.2.2))].toArray), H, [])
abbrev T17 := Int → Option (S35)
def A17 (call : CallF) (c : T17) : Prop := ∀ (ro : Nat) (H : Hp) (x0 : Int) (r : S35), c x0 = some r → call ro 17 [(.int .u8 x0)] H = some ((vAgg (S35.c (r))), H, [])
abbrev T18 := ByteArray → Option (S35)
def A18 (call : CallF) (c : T18) : Prop := ∀ (ro : Nat) (H : Hp) (x0 : ByteArray) (r : S35), c x0 = some r → call ro 18 [(.string x0)] H = some ((vAgg (S35.c (r))), H, [])
abbrev T19 := S35 → Int → Option (Bool)
def A19 (call : CallF) (c : T19) : Prop := ∀ (ro : Nat) (H : Hp) (x0 : S35) (x1 : Int) (r : Bool), c x0 x1 = some r → call ro 19 [(vAgg (S35.c x0)), (.int .u8 x1)] H = some ((.bool (r)), H, [])
abbrev T20 := Int → Int → Option (S35)
def A20 (call : CallF) (c : T20) : Prop := ∀ (ro : Nat) (H : Hp) (x0 : Int) (x1 : Int) (r : S35), c x0 x1 = some r → call ro 20 [(.int .u8 x0), (.int .u8 x1)] H = some ((vAgg (S35.c (r))), H, [])
abbrev T21 := S35 → S35 → Option (S35)
def A21 (call : CallF) (c : T21) : Prop := ∀ (ro : Nat) (H : Hp) (x0 : S35) (x1 : S35) (r : S35), c x0 x1 = some r → call ro 21 [(vAgg (S35.c x0)), (vAgg (S35.c x1))] H = some ((vAgg (S35.c (r))), H, [])
abbrev T23 := ByteArray → Option (S45 × Int × Int)
def A23 (call : CallF) (c : T23) : Prop := ∀ (ro : Nat) (H : Hp) (x0 : ByteArray) (r : S45 × Int × Int), TabH0 H → c x0 = some r → call ro 23 [(.string x0)] H = some ((.tuple [(vAgg (S45.c (r.1))), (.int .i64 (r.2.1)), (.int .i64 (r.2.2))].toArray), H, [])
abbrev T25 := S35 → Option (S35)
def A25 (call : CallF) (c : T25) : Prop := ∀ (ro : Nat) (H : Hp) (x0 : S35) (r : S35), c x0 = some r → call ro 25 [(vAgg (S35.c x0))] H = some ((vAgg (S35.c (r))), H, [])
abbrev T26 := ByteArray → ByteArray → Option (Bool)
def A26 (call : CallF) (c : T26) : Prop := ∀ (ro : Nat) (H : Hp) (x0 : ByteArray) (x1 : ByteArray) (r : Bool), c x0 x1 = some r → call ro 26 [(.string x0), (.string x1)] H = some ((.bool (r)), H, [])
abbrev T27 := ByteArray → Option (S35 × Int)
def A27 (call : CallF) (c : T27) : Prop := ∀ (ro : Nat) (H : Hp) (x0 : ByteArray) (r : S35 × Int), TabH0 H → c x0 = some r → call ro 27 [(.string x0)] H = some ((.tuple [(vAgg (S35.c (r.1))), (.int .i64 (r.2))].toArray), H, [])
abbrev T36 := S35 → Int → Option (S35)
def A36 (call : CallF) (c : T36) : Prop := ∀ (ro : Nat) (H : Hp) (x0 : S35) (b0 : Nat) (x1 : Int) (r : S35), H[b0]? = some (.cells (S35.c x0) 36) → ro ≤ b0 → c x0 x1 = some r → call ro 36 [(.pointer (some ⟨b0, 0, none⟩)), (.int .u8 x1)] H = some ((.tuple [].toArray), (H.set b0 (.cells (S35.c r) 36)), [])
abbrev T37 := Int → Option (Int × Bool)
def A37 (call : CallF) (c : T37) : Prop := ∀ (ro : Nat) (H : Hp) (x0 : Int) (r : Int × Bool), c x0 = some r → call ro 37 [(.int .u8 x0)] H = some ((.tuple [(.int .i64 (r.1)), (.bool (r.2))].toArray), H, [])
abbrev T38 := ByteArray → Option (S45 × Int × Int)
def A38 (call : CallF) (c : T38) : Prop := ∀ (ro : Nat) (H : Hp) (x0 : ByteArray) (r : S45 × Int × Int), c x0 = some r → call ro 38 [(.string x0)] H = some ((.tuple [(vAgg (S45.c (r.1))), (.int .i64 (r.2.1)), (.int .i64 (r.2.2))].toArray), H, [])
abbrev T39 := ByteArray → Option (S45 × Int × Int)
def A39 (call : CallF) (c : T39) : Prop := ∀ (ro : Nat) (H : Hp) (x0 : ByteArray) (r : S45 × Int × Int), c x0 = some r → call ro 39 [(.string x0)] H = some ((.tuple [(vAgg (S45.c (r.1))), (.int .i64 (r.2.1)), (.int .i64 (r.2.2))].toArray), H, [])
abbrev T40 := ByteArray → Option (S45 × Int × Int)
def A40 (call : CallF) (c : T40) : Prop := ∀ (ro : Nat) (H : Hp) (x0 : ByteArray) (r : S45 × Int × Int), c x0 = some r → call ro 40 [(.string x0)] H = some ((.tuple [(vAgg (S45.c (r.1))), (.int .i64 (r.2.1)), (.int .i64 (r.2.2))].toArray), H, [])
abbrev T45 := ByteArray → ByteArray → Option (Bool)
def A45 (call : CallF) (c : T45) : Prop := ∀ (ro : Nat) (H : Hp) (x0 : ByteArray) (x1 : ByteArray) (r : Bool), c x0 x1 = some r → call ro 45 [(.string x0), (.string x1)] H = some ((.bool (r)), H, [])
abbrev T46 := ByteArray → Option (S35 × Int)
def A46 (call : CallF) (c : T46) : Prop := ∀ (ro : Nat) (H : Hp) (x0 : ByteArray) (r : S35 × Int), c x0 = some r → call ro 46 [(.string x0)] H = some ((.tuple [(vAgg (S35.c (r.1))), (.int .i64 (r.2))].toArray), H, [])
abbrev T47 := S35 → Option (Int × Bool)
def A47 (call : CallF) (c : T47) : Prop := ∀ (ro : Nat) (H : Hp) (x0 : S35) (r : Int × Bool), TabH0 H → c x0 = some r → call ro 47 [(vAgg (S35.c x0))] H = some ((.tuple [(.int .u8 (r.1)), (.bool (r.2))].toArray), H, [])
abbrev T48 := S35 → Option (Int)
def A48 (call : CallF) (c : T48) : Prop := ∀ (ro : Nat) (H : Hp) (x0 : S35) (r : Int), c x0 = some r → call ro 48 [(vAgg (S35.c x0))] H = some ((.int .i64 (r)), H, [])
abbrev T49 := ByteArray → Int → Option (Int)
def A49 (call : CallF) (c : T49) : Prop := ∀ (ro : Nat) (H : Hp) (x0 : ByteArray) (x1 : Int) (r : Int), c x0 x1 = some r → call ro 49 [(.string x0), (.int .u8 x1)] H = some ((.int .i64 (r)), H, [])
abbrev T50 := ByteArray → Int → Option (Bool)
def A50 (call : CallF) (c : T50) : Prop := ∀ (ro : Nat) (H : Hp) (x0 : ByteArray) (x1 : Int) (r : Bool), c x0 x1 = some r → call ro 50 [(.string x0), (.int .i32 x1)] H = some ((.bool (r)), H, [])
abbrev T51 := ByteArray → Option (Int × Int × Int)
def A51 (call : CallF) (c : T51) : Prop := ∀ (ro : Nat) (H : Hp) (x0 : ByteArray) (r : Int × Int × Int), c x0 = some r → call ro 51 [(.string x0)] H = some ((.tuple [(.int .i64 (r.1)), (.int .i64 (r.2.1)), (.int .i64 (r.2.2))].toArray), H, [])
abbrev T52 := Int → Int → Option (Int)
def A52 (call : CallF) (c : T52) : Prop := ∀ (ro : Nat) (H : Hp) (x0 : Int) (x1 : Int) (r : Int), c x0 x1 = some r → call ro 52 [(.int .u8 x0), (.int .i64 x1)] H = some ((.int .i64 (r)), H, [])
abbrev T53 := ByteArray → Option (S35 × Int)
def A53 (call : CallF) (c : T53) : Prop := ∀ (ro : Nat) (H : Hp) (x0 : ByteArray) (r : S35 × Int), c x0 = some r → call ro 53 [(.string x0)] H = some ((.tuple [(vAgg (S35.c (r.1))), (.int .i64 (r.2))].toArray), H, [])
abbrev T58 := Int → Option (Int)
def A58 (call : CallF) (c : T58) : Prop := ∀ (ro : Nat) (H : Hp) (x0 : Int) (r : Int), TabH0 H → c x0 = some r → call ro 58 [(.int .u64 x0)] H = some ((.int .i64 (r)), H, [])
abbrev T59 := Int → Option (Int)
def A59 (call : CallF) (c : T59) : Prop := ∀ (ro : Nat) (H : Hp) (x0 : Int) (r : Int), c x0 = some r → call ro 59 [(.int .u64 x0)] H = some ((.int .i64 (r)), H, [])
abbrev T60 := ByteArray → Int → Option (Int)
def A60 (call : CallF) (c : T60) : Prop := ∀ (ro : Nat) (H : Hp) (x0 : ByteArray) (x1 : Int) (r : Int), c x0 x1 = some r → call ro 60 [(.string x0), (.int .u8 x1)] H = some ((.int .i64 (r)), H, [])
abbrev T61 := ByteArray → Option (Int × Int)
def A61 (call : CallF) (c : T61) : Prop := ∀ (ro : Nat) (H : Hp) (x0 : ByteArray) (r : Int × Int), c x0 = some r → call ro 61 [(.string x0)] H = some ((.tuple [(.int .i64 (r.1)), (.int .i64 (r.2))].toArray), H, [])
abbrev T62 := Option (S35)
def A62 (call : CallF) (c : T62) : Prop := ∀ (ro : Nat) (H : Hp) (r : S35), c = some r → call ro 62 [] H = some ((vAgg (S35.c (r))), H, [])
abbrev T63 := Option (S35)
def A63 (call : CallF) (c : T63) : Prop := ∀ (ro : Nat) (H : Hp) (r : S35), c = some r → call ro 63 [] H = some ((vAgg (S35.c (r))), H, [])
abbrev T64 := Option (S35)
def A64 (call : CallF) (c : T64) : Prop := ∀ (ro : Nat) (H : Hp) (r : S35), c = some r → call ro 64 [] H = some ((vAgg (S35.c (r))), H, [])
abbrev T65 := Int → Option (Bool)
def A65 (call : CallF) (c : T65) : Prop := ∀ (ro : Nat) (H : Hp) (x0 : Int) (r : Bool), c x0 = some r → call ro 65 [(.int .u8 x0)] H = some ((.bool (r)), H, [])
end Go.Proofs.YtcjnmmeibppblaaDoor
