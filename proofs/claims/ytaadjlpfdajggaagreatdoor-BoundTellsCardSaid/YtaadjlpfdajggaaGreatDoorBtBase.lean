import Derived.Test.YtaadjlpfdajggaaGreatDoorBtTy
import Derived.Test.YtaadjlpfdajggaaGreatDoorBtAm28
set_option maxRecDepth 100000
set_option linter.unusedVariables false
set_option linter.unusedSimpArgs false
namespace Go.Proofs.YtaadjlpfdajggaaGreatDoor
open Go Go.AM
theorem F4d:Mt.F 4 = some C.f4:=rfl
theorem F18d:Mt.F 18 = some C.f18:=rfl
theorem F18:(Mt.F 18).isSome = true:=rfl
theorem F19d:Mt.F 19 = some C.f19:=rfl
theorem F19:(Mt.F 19).isSome = true:=rfl
theorem F20d:Mt.F 20 = some C.f20:=rfl
theorem F20:(Mt.F 20).isSome = true:=rfl
theorem F21d:Mt.F 21 = some C.f21:=rfl
theorem F21:(Mt.F 21).isSome = true:=rfl
theorem F22d:Mt.F 22 = some C.f22:=rfl
theorem F22:(Mt.F 22).isSome = true:=rfl
theorem F23d:Mt.F 23 = some C.f23:=rfl
theorem F23:(Mt.F 23).isSome = true:=rfl
theorem F24d:Mt.F 24 = some C.f24:=rfl
theorem F24:(Mt.F 24).isSome = true:=rfl
theorem F40d:Mt.F 40 = some C.f40:=rfl
theorem F40:(Mt.F 40).isSome = true:=rfl
theorem F50d:Mt.F 50 = some C.f50:=rfl
theorem F50:(Mt.F 50).isSome = true:=rfl
theorem F51d:Mt.F 51 = some C.f51:=rfl
theorem F51:(Mt.F 51).isSome = true:=rfl
theorem F52d:Mt.F 52 = some C.f52:=rfl
theorem F52:(Mt.F 52).isSome = true:=rfl
theorem F53d:Mt.F 53 = some C.f53:=rfl
theorem F53:(Mt.F 53).isSome = true:=rfl
theorem F54d:Mt.F 54 = some C.f54:=rfl
theorem F54:(Mt.F 54).isSome = true:=rfl
theorem F55d:Mt.F 55 = some C.f55:=rfl
theorem F55:(Mt.F 55).isSome = true:=rfl
theorem F56d:Mt.F 56 = some C.f56:=rfl
theorem F56:(Mt.F 56).isSome = true:=rfl
theorem F62d:Mt.F 62 = some C.f62:=rfl
theorem F62:(Mt.F 62).isSome = true:=rfl
theorem F63d:Mt.F 63 = some C.f63:=rfl
theorem F63:(Mt.F 63).isSome = true:=rfl
theorem F64d:Mt.F 64 = some C.f64:=rfl
theorem F64:(Mt.F 64).isSome = true:=rfl
theorem F65d:Mt.F 65 = some C.f65:=rfl
theorem F65:(Mt.F 65).isSome = true:=rfl
theorem F66d:Mt.F 66 = some C.f66:=rfl
theorem F66:(Mt.F 66).isSome = true:=rfl
theorem F68d:Mt.F 68 = some C.f68:=rfl
theorem F68:(Mt.F 68).isSome = true:=rfl
theorem F79d:Mt.F 79 = some C.f79:=rfl
theorem F79:(Mt.F 79).isSome = true:=rfl
theorem F80d:Mt.F 80 = some C.f80:=rfl
theorem F80:(Mt.F 80).isSome = true:=rfl
theorem F81d:Mt.F 81 = some C.f81:=rfl
theorem F81:(Mt.F 81).isSome = true:=rfl
theorem F82d:Mt.F 82 = some C.f82:=rfl
theorem F82:(Mt.F 82).isSome = true:=rfl
theorem F83d:Mt.F 83 = some C.f83:=rfl
theorem F83:(Mt.F 83).isSome = true:=rfl
theorem F84d:Mt.F 84 = some C.f84:=rfl
theorem F84:(Mt.F 84).isSome = true:=rfl
theorem F97d:Mt.F 97 = some C.f97:=rfl
theorem F97:(Mt.F 97).isSome = true:=rfl
theorem F98d:Mt.F 98 = some C.f98:=rfl
theorem F98:(Mt.F 98).isSome = true:=rfl
theorem F99d:Mt.F 99 = some C.f99:=rfl
theorem F99:(Mt.F 99).isSome = true:=rfl
theorem F100d:Mt.F 100 = some C.f100:=rfl
theorem F100:(Mt.F 100).isSome = true:=rfl
theorem F102d:Mt.F 102 = some C.f102:=rfl
theorem F102:(Mt.F 102).isSome = true:=rfl
theorem F104d:Mt.F 104 = some C.f104:=rfl
theorem F105d:Mt.F 105 = some C.f105:=rfl
theorem F105:(Mt.F 105).isSome = true:=rfl
theorem F106d:Mt.F 106 = some C.f106:=rfl
theorem F106:(Mt.F 106).isSome = true:=rfl
theorem F116d:Mt.F 116 = some C.f116:=rfl
theorem F116:(Mt.F 116).isSome = true:=rfl
theorem F117d:Mt.F 117 = some C.f117:=rfl
theorem F117:(Mt.F 117).isSome = true:=rfl
theorem F118d:Mt.F 118 = some C.f118:=rfl
theorem F118:(Mt.F 118).isSome = true:=rfl
theorem F124d:Mt.F 124 = some C.f124:=rfl
theorem F124:(Mt.F 124).isSome = true:=rfl
theorem F138d:Mt.F 138 = some C.f138:=rfl
theorem F138:(Mt.F 138).isSome = true:=rfl
theorem F150d:Mt.F 150 = some C.f150:=rfl
theorem F150:(Mt.F 150).isSome = true:=rfl
theorem F151d:Mt.F 151 = some C.f151:=rfl
theorem F151:(Mt.F 151).isSome = true:=rfl
theorem F168d:Mt.F 168 = some C.f168:=rfl
theorem F168:(Mt.F 168).isSome = true:=rfl
theorem F25:(Mt.F 25).isSome = true:=rfl
theorem F125:(Mt.F 125).isSome = true:=rfl
theorem F103:(Mt.F 103).isSome = true:=rfl
theorem bd49_0_1 {H:Hp} {y0:Nat} {y1:Nat}:bdP Mt H 49 [(0,.float .f64 y0),(1,.float .f64 y1)] = some (.val (vAgg (S_d.c ({ S_d.zero with f_Steps:=y0,f_Room:=y1 }:S_d))),H):=bd_struct zs49 pl49 ((fill_cons (v:=.float .f64 y0) (c:=cFlt y0) rfl rfl (enc_flt.len _) (by rw [S_d.enc.len]; decide) (S_d.wr0 S_d.zero y0)).trans ((fill_cons (v:=.float .f64 y1) (c:=cFlt y1) rfl rfl (enc_flt.len _) (by rw [S_d.enc.len]; decide) (S_d.wr1 ({ S_d.zero with f_Steps:=y0 }) y1)).trans fill_nil))
theorem bd97_0_1_2_3_4_5_6_7_8 {H:Hp} {y0:Int} {y1:Int} {y2:Int} {y3:(Arr Int 4)} {y4:Int} {y5:Int} {y6:Int} {y7:Int} {y8:Bool}:bdP Mt H 97 [(0,.int .i64 y0),(1,.int .i64 y1),(2,.int .i64 y2),(3,vAgg ((cArr (n:=4) (cInt .u64)) y3)),(4,.int .i64 y4),(5,.int .i64 y5),(6,.int .i64 y6),(7,.int .i64 y7),(8,.bool y8)] = some (.val (vAgg (S_b.c ({ S_b.zero with f_Kind:=y0,f_A:=y1,f_B:=y2,f_Set:=y3,f_Min:=y4,f_Max:=y5,f_Mode:=y6,f_N:=y7,f_Fold:=y8 }:S_b))),H):=bd_struct zs97 pl97 ((fill_cons (v:=.int .i64 y0) (c:=(cInt .i64) y0) rfl rfl (enc_int.len _) (by rw [S_b.enc.len]; decide) (S_b.wr0 S_b.zero y0)).trans ((fill_cons (v:=.int .i64 y1) (c:=(cInt .i64) y1) rfl rfl (enc_int.len _) (by rw [S_b.enc.len]; decide) (S_b.wr1 ({ S_b.zero with f_Kind:=y0 }) y1)).trans ((fill_cons (v:=.int .i64 y2) (c:=(cInt .i64) y2) rfl rfl (enc_int.len _) (by rw [S_b.enc.len]; decide) (S_b.wr2 ({ { S_b.zero with f_Kind:=y0 } with f_A:=y1 }) y2)).trans ((fill_cons (v:=vAgg ((cArr (n:=4) (cInt .u64)) y3)) (c:=(cArr (n:=4) (cInt .u64)) y3) rfl vAgg_cells ((enc_arr (n:=4) enc_int).len _) (by rw [S_b.enc.len]; decide) (S_b.wr3 ({ { { S_b.zero with f_Kind:=y0 } with f_A:=y1 } with f_B:=y2 }) y3)).trans ((fill_cons (v:=.int .i64 y4) (c:=(cInt .i64) y4) rfl rfl (enc_int.len _) (by rw [S_b.enc.len]; decide) (S_b.wr4 ({ { { { S_b.zero with f_Kind:=y0 } with f_A:=y1 } with f_B:=y2 } with f_Set:=y3 }) y4)).trans ((fill_cons (v:=.int .i64 y5) (c:=(cInt .i64) y5) rfl rfl (enc_int.len _) (by rw [S_b.enc.len]; decide) (S_b.wr5 ({ { { { { S_b.zero with f_Kind:=y0 } with f_A:=y1 } with f_B:=y2 } with f_Set:=y3 } with f_Min:=y4 }) y5)).trans ((fill_cons (v:=.int .i64 y6) (c:=(cInt .i64) y6) rfl rfl (enc_int.len _) (by rw [S_b.enc.len]; decide) (S_b.wr6 ({ { { { { { S_b.zero with f_Kind:=y0 } with f_A:=y1 } with f_B:=y2 } with f_Set:=y3 } with f_Min:=y4 } with f_Max:=y5 }) y6)).trans ((fill_cons (v:=.int .i64 y7) (c:=(cInt .i64) y7) rfl rfl (enc_int.len _) (by rw [S_b.enc.len]; decide) (S_b.wr7 ({ { { { { { { S_b.zero with f_Kind:=y0 } with f_A:=y1 } with f_B:=y2 } with f_Set:=y3 } with f_Min:=y4 } with f_Max:=y5 } with f_Mode:=y6 }) y7)).trans ((fill_cons (v:=.bool y8) (c:=cBool y8) rfl rfl (enc_bool.len _) (by rw [S_b.enc.len]; decide) (S_b.wr8 ({ { { { { { { { S_b.zero with f_Kind:=y0 } with f_A:=y1 } with f_B:=y2 } with f_Set:=y3 } with f_Min:=y4 } with f_Max:=y5 } with f_Mode:=y6 } with f_N:=y7 }) y8)).trans fill_nil)))))))))
def TabH1 (H:Hp):Prop:=H[1]? = some (.tab (tabInts.map (Value.int .u8)))
theorem tabIv1 {r:Nat} {X:List Nat} {H0 H:Hp} (h:Iv r X H0 H) (hr:r = H0.length) (hG:TabH1 H0) (hX:1 ∉ X:=by simp):TabH1 H:=(h.old 1 (by rw [hr]; exact get_lt hG) hX).trans hG
abbrev T_P:=Sl Int → Sl Int → Option (Sl Int)
def A_cM (call:CallF) (c:T_P):Prop:=∀ (ro nb:Nat) (H:Hp) (x0:Sl Int) (b0:Nat) (x1:Sl Int) (d1 b1 s1:Nat) (r:Sl Int),ro ≤ nb → SlO nb H (cInt .i64) 3 x0 b0 → H[d1]? = some (.cells [.func (.func 102) [].toArray [(.pointer (some ⟨b1,0,none⟩))].toArray] 99) → H[b1]? = some (.cells [slV x1 s1] 100) → SlH H (cInt .i64) 3 x1 s1 → (x0 ≠ none → b0 ≠ d1) → (x0 ≠ none → b0 ≠ b1) → (x0 ≠ none → x1 ≠ none → b0 ≠ s1) → c x0 x1 = some r →
 ∃ H',call ro 103 [slV x0 b0,(.func (.func 104) [].toArray [(.pointer (some ⟨d1,0,none⟩)),(.pointer (some ⟨b1,0,none⟩))].toArray)] H = some (.tuple [].toArray,H',[]) ∧ SlO nb H' (cInt .i64) 3 r b0 ∧ UpS (x0 ≠ none) b0 H H' ∧ (∀ b,slV r b = slV x0 b) ∧ ((r ≠ none) = (x0 ≠ none)) ∧ (Sl.l r).length = (Sl.l x0).length
def ownS (n:S_a):S_a :=
 if n.f_Kind = 1 then { S_a.zero with f_Kind:=n.f_Kind,f_Set:=n.f_Set }
 else if n.f_Kind = 10 then { S_a.zero with f_Kind:=n.f_Kind,f_Min:=n.f_Min,f_Max:=n.f_Max,f_Mode:=n.f_Mode }
 else if n.f_Kind = 11 then { S_a.zero with f_Kind:=n.f_Kind,f_N:=n.f_N }
 else if n.f_Kind = 12 then { S_a.zero with f_Kind:=n.f_Kind,f_N:=n.f_N,f_Fold:=n.f_Fold }
 else { S_a.zero with f_Kind:=n.f_Kind }
def fBits (c:Int):Nat:=c.toNat
def bitsF (c:Nat):Int:=(c:Int)
theorem x85 {H:Hp} {c:Int}:xP Mt H 85 [.int .u64 c] = some (.val (.float .f64 (fBits c)),H):=rfl
theorem x119 {H:Hp} {c:Nat}:xP Mt H 119 [.float .f64 c] = some (.val (.int .u64 (bitsF c)),H):=rfl
abbrev T_e4:=(Sl S_a) → Int → Option ((Sl S_a))
def A_ga (call:CallF) (c:T_e4):Prop:=∀ (ro:Nat) (H:Hp) (x0:(Sl S_a)) (b0:Nat) (x1:Int) (r:(Sl S_a)),SlH H S_a.c 72 x0 b0 → c x0 x1 = some r → call ro 18 [(vAgg [slV x0 b0]),(.int .i64 x1)] H = some ((vAgg [slV r b0]),H,[]) ∧ (r ≠ none → x0 ≠ none) ∧ ∀ (H:Hp) (b:Nat),SlH H S_a.c 72 x0 b → SlH H S_a.c 72 r b
abbrev T_e5:=(Sl S_a) → Option ((Sl S_b))
def A_gb (call:CallF) (c:T_e5):Prop:=∀ (ro:Nat) (H:Hp) (x0:(Sl S_a)) (b0:Nat) (r:(Sl S_b)),SlH H S_a.c 72 x0 b0 → c x0 = some r → call ro 19 [(vAgg [slV x0 b0])] H = some ((slV r H.length),(H ++ slB S_b.c 97 r),[])
abbrev T_cm:=(Sl S_a) → Int → Option (Int × Int)
def A_eI (call:CallF) (c:T_cm):Prop:=∀ (ro:Nat) (H:Hp) (x0:(Sl S_a)) (b0:Nat) (x1:Int) (r:Int × Int),SlH H S_a.c 72 x0 b0 → c x0 x1 = some r → call ro 20 [(vAgg [slV x0 b0]),(.int .i64 x1)] H = some ((.tuple [(.int .i64 (r.1)),(.int .i64 (r.2))].toArray),H,[])
abbrev T_ci:=(Sl S_b) → Int → Option (Int × Int)
def A_ew (call:CallF) (c:T_ci):Prop:=∀ (ro:Nat) (H:Hp) (x0:(Sl S_b)) (b0:Nat) (x1:Int) (r:Int × Int),SlH H S_b.c 97 x0 b0 → c x0 x1 = some r → call ro 21 [(slV x0 b0),(.int .i64 x1)] H = some ((.tuple [(.int .i64 (r.1)),(.int .i64 (r.2))].toArray),H,[])
abbrev T_cB:=(Sl S_a) → Int → Option (Nat × Int)
def A_ea (call:CallF) (c:T_cB):Prop:=∀ (ro:Nat) (H:Hp) (x0:(Sl S_a)) (b0:Nat) (x1:Int) (r:Nat × Int),SlH H S_a.c 72 x0 b0 → c x0 x1 = some r → call ro 22 [(vAgg [slV x0 b0]),(.int .i64 x1)] H = some ((.tuple [(.float .f64 (r.1)),(.int .i64 (r.2))].toArray),H,[])
abbrev T_d8:=(Sl S_b) → Int → Option (Nat × Int)
def A_fz (call:CallF) (c:T_d8):Prop:=∀ (ro:Nat) (H:Hp) (x0:(Sl S_b)) (b0:Nat) (x1:Int) (r:Nat × Int),SlH H S_b.c 97 x0 b0 → c x0 x1 = some r → call ro 23 [(slV x0 b0),(.int .i64 x1)] H = some ((.tuple [(.float .f64 (r.1)),(.int .i64 (r.2))].toArray),H,[])
abbrev T_dO:=(Sl S_a) → Int → Option (S_d × Int)
def A_ff (call:CallF) (c:T_dO):Prop:=∀ (ro:Nat) (H:Hp) (x0:(Sl S_a)) (b0:Nat) (x1:Int) (r:S_d × Int),SlH H S_a.c 72 x0 b0 → c x0 x1 = some r → call ro 24 [(vAgg [slV x0 b0]),(.int .i64 x1)] H = some ((.tuple [(vAgg (S_d.c (r.1))),(.int .i64 (r.2))].toArray),H,[])
abbrev T_eY:=(Sl S_a) → Option (Int)
def A_gg (call:CallF) (c:T_eY):Prop:=∀ (ro:Nat) (H:Hp) (x0:(Sl S_a)) (b0:Nat) (r:Int),SlH H S_a.c 72 x0 b0 → c x0 = some r → call ro 40 [(vAgg [slV x0 b0])] H = some ((.int .i64 (r)),H,[])
abbrev T_dP:=S_a → Option (S_b)
def A_f9 (call:CallF) (c:T_dP):Prop:=∀ (ro:Nat) (H:Hp) (x0:S_a) (r:S_b),c x0 = some r → call ro 50 [(vAgg (S_a.c x0))] H = some ((vAgg (S_b.c (r))),H,[])
abbrev T_bS:=Int → Option (Int)
def A_e3 (call:CallF) (c:T_bS):Prop:=∀ (ro:Nat) (H:Hp) (x0:Int) (r:Int),c x0 = some r → call ro 51 [(.int .i64 x0)] H = some ((.int .i64 (r)),H,[])
abbrev T_e8:=(Sl S_a) → Int → Option ((Sl Int))
def A_gd (call:CallF) (c:T_e8):Prop:=∀ (ro:Nat) (H:Hp) (x0:(Sl S_a)) (b0:Nat) (x1:Int) (r:(Sl Int)),SlH H S_a.c 72 x0 b0 → c x0 x1 = some r → call ro 52 [(vAgg [slV x0 b0]),(.int .i64 x1)] H = some ((slV r H.length),(H ++ slB (cInt .i64) 3 r),[])
abbrev T_d1:=(Sl S_b) → Option (Int)
def A_fA (call:CallF) (c:T_d1):Prop:=∀ (ro:Nat) (H:Hp) (x0:(Sl S_b)) (b0:Nat) (r:Int),SlH H S_b.c 97 x0 b0 → c x0 = some r → call ro 53 [(slV x0 b0)] H = some ((.int .i64 (r)),H,[])
abbrev T_ch:=(Sl S_b) → Int → Int → Option (Int)
def A_ep (call:CallF) (c:T_ch):Prop:=∀ (ro:Nat) (H:Hp) (x0:(Sl S_b)) (b0:Nat) (x1:Int) (x2:Int) (r:Int),SlH H S_b.c 97 x0 b0 → c x0 x1 x2 = some r → call ro 54 [(slV x0 b0),(.int .i64 x1),(.int .i64 x2)] H = some ((.int .i64 (r)),H,[])
abbrev T_dF:=Nat → Int → Option (Bool)
def A_fU (call:CallF) (c:T_dF):Prop:=∀ (ro:Nat) (H:Hp) (x0:Nat) (x1:Int) (r:Bool),c x0 x1 = some r → call ro 55 [(.float .f64 x0),(.int .i64 x1)] H = some ((.bool (r)),H,[])
abbrev T_cy:=Int → Option (Nat)
def A_fp (call:CallF) (c:T_cy):Prop:=∀ (ro:Nat) (H:Hp) (x0:Int) (r:Nat),c x0 = some r → call ro 56 [(.int .i64 x0)] H = some ((.float .f64 (r)),H,[])
abbrev T_bQ:=(Sl S_a) → Option ((Sl Int) × Bool)
def A_fd (call:CallF) (c:T_bQ):Prop:=∀ (ro:Nat) (H:Hp) (x0:(Sl S_a)) (b0:Nat) (r:(Sl Int) × Bool),SlH H S_a.c 72 x0 b0 → c x0 = some r → call ro 62 [(vAgg [slV x0 b0])] H = some ((.tuple [(slV r.1 H.length),(.bool (r.2))].toArray),(H ++ slB (cInt .i64) 3 r.1),[])
abbrev T_et:=(Sl S_a) → Option ((Sl Int))
def A_fZ (call:CallF) (c:T_et):Prop:=∀ (ro:Nat) (H:Hp) (x0:(Sl S_a)) (b0:Nat) (r:(Sl Int)),SlH H S_a.c 72 x0 b0 → c x0 = some r → call ro 63 [(vAgg [slV x0 b0])] H = some ((slV r H.length),(H ++ slB (cInt .i64) 3 r),[])
abbrev T_co:=(Sl S_a) → Option (Int)
def A_fV (call:CallF) (c:T_co):Prop:=∀ (ro:Nat) (H:Hp) (x0:(Sl S_a)) (b0:Nat) (r:Int),SlH H S_a.c 72 x0 b0 → c x0 = some r → call ro 64 [(vAgg [slV x0 b0])] H = some ((.int .i64 (r)),H,[])
abbrev T_c1:=(Sl S_a) → Option ((Sl Int) × (Sl Int))
def A_gI (call:CallF) (c:T_c1):Prop:=∀ (ro:Nat) (H:Hp) (x0:(Sl S_a)) (b0:Nat) (r:(Sl Int) × (Sl Int)),SlH H S_a.c 72 x0 b0 → c x0 = some r → call ro 65 [(vAgg [slV x0 b0])] H = some ((.tuple [(slV r.1 H.length),(slV r.2 (H.length + (slB (cInt .i64) 3 r.1).length))].toArray),(H ++ (slB (cInt .i64) 3 r.1 ++ slB (cInt .i64) 3 r.2)),[])
abbrev T_bO:=Int → Option (Int)
def A_fo (call:CallF) (c:T_bO):Prop:=∀ (ro:Nat) (H:Hp) (x0:Int) (r:Int),c x0 = some r → call ro 66 [(.int .i64 x0)] H = some ((.int .i64 (r)),H,[])
abbrev T_b9:=(Sl S_a) → Option (Bool)
def A_fE (call:CallF) (c:T_b9):Prop:=∀ (ro:Nat) (H:Hp) (x0:(Sl S_a)) (b0:Nat) (r:Bool),SlH H S_a.c 72 x0 b0 → c x0 = some r → call ro 68 [(vAgg [slV x0 b0])] H = some ((.bool (r)),H,[])
abbrev T_b4:=S_a → Int → Option (Int)
def A_fy (call:CallF) (c:T_b4):Prop:=∀ (ro:Nat) (H:Hp) (x0:S_a) (x1:Int) (r:Int),c x0 x1 = some r → call ro 79 [(vAgg (S_a.c x0)),(.int .i64 x1)] H = some ((.int .i64 (r)),H,[])
abbrev T_bh:=(Sl S_b) → Option (Int)
def A_fg (call:CallF) (c:T_bh):Prop:=∀ (ro:Nat) (H:Hp) (x0:(Sl S_b)) (b0:Nat) (r:Int),SlH H S_b.c 97 x0 b0 → c x0 = some r → call ro 80 [(slV x0 b0)] H = some ((.int .i64 (r)),H,[])
abbrev T_D:=(Sl S_b) → Int → Option ((Sl Int))
def A_dC (call:CallF) (c:T_D):Prop:=∀ (ro:Nat) (H:Hp) (x0:(Sl S_b)) (b0:Nat) (x1:Int) (r:(Sl Int)),SlH H S_b.c 97 x0 b0 → c x0 x1 = some r → call ro 81 [(slV x0 b0),(.int .i64 x1)] H = some ((slV r H.length),(H ++ slB (cInt .i64) 3 r),[])
abbrev T_W:=(Sl S_b) → Int → Option (Int × Int)
def A_ey (call:CallF) (c:T_W):Prop:=∀ (ro:Nat) (H:Hp) (x0:(Sl S_b)) (b0:Nat) (x1:Int) (r:Int × Int),SlH H S_b.c 97 x0 b0 → c x0 x1 = some r → call ro 82 [(slV x0 b0),(.int .i64 x1)] H = some ((.tuple [(.int .i64 (r.1)),(.int .i64 (r.2))].toArray),H,[])
abbrev T_Q:=Int → Option (Int)
def A_cX (call:CallF) (c:T_Q):Prop:=∀ (ro:Nat) (H:Hp) (x0:Int) (r:Int),c x0 = some r → call ro 83 [(.int .i64 x0)] H = some ((.int .i64 (r)),H,[])
abbrev T_eh:=Nat → Option (Nat)
def A_gQ (call:CallF) (c:T_eh):Prop:=∀ (ro:Nat) (H:Hp) (x0:Nat) (r:Nat),c x0 = some r → call ro 84 [(.float .f64 x0)] H = some ((.float .f64 (r)),H,[])
abbrev T_ce:=S_a → Option (Bool)
def A_eU (call:CallF) (c:T_ce):Prop:=∀ (ro:Nat) (H:Hp) (x0:S_a) (r:Bool),c x0 = some r → call ro 97 [(vAgg (S_a.c x0))] H = some ((.bool (r)),H,[])
abbrev T_cu:=(Sl Int) → Option (Int)
def A_dD (call:CallF) (c:T_cu):Prop:=∀ (ro:Nat) (H:Hp) (x0:(Sl Int)) (b0:Nat) (r:Int),SlH H (cInt .i64) 3 x0 b0 → c x0 = some r → call ro 98 [(slV x0 b0)] H = some ((.int .i64 (r)),H,[])
abbrev T_c3:=Int → Int → Option (Int)
def A_gG (call:CallF) (c:T_c3):Prop:=∀ (ro:Nat) (H:Hp) (x0:Int) (x1:Int) (r:Int),c x0 x1 = some r → call ro 99 [(.int .i64 x0),(.int .i64 x1)] H = some ((.int .i64 (r)),H,[])
abbrev T_cJ:=Int → Int → Option (Int)
def A_ge (call:CallF) (c:T_cJ):Prop:=∀ (ro:Nat) (H:Hp) (x0:Int) (x1:Int) (r:Int),c x0 x1 = some r → call ro 100 [(.int .i64 x0),(.int .i64 x1)] H = some ((.int .i64 (r)),H,[])
abbrev T_dn:=Int → (Sl Int) → Option (Int)
def A_eA (call:CallF) (c:T_dn):Prop:=∀ (ro:Nat) (H:Hp) (x0:Int) (x1:(Sl Int)) (b1:Nat) (s1:Nat) (r:Int),H[b1]? = some (.cells [slV x1 s1] 100) → SlH H (cInt .i64) 3 x1 s1 → c x0 x1 = some r → call ro 102 [(.int .i64 x0),(.pointer (some ⟨b1,0,none⟩))] H = some ((.int .i64 (r)),H,[])
abbrev T_go:=Int → Int → (Sl Int) → (Sl Int) → Option (Int)
def A_gt (call:CallF) (c:T_go):Prop:=∀ (ro:Nat) (H:Hp) (x0:Int) (x1:Int) (x2:(Sl Int)) (d2:Nat) (b2:Nat) (s2:Nat) (x3:(Sl Int)) (b3:Nat) (s3:Nat) (r:Int),H[d2]? = some (.cells [.func (.func 102) [].toArray [(.pointer (some ⟨b2,0,none⟩))].toArray] 99) → H[b2]? = some (.cells [slV x2 s2] 100) → SlH H (cInt .i64) 3 x2 s2 → H[b3]? = some (.cells [slV x3 s3] 100) → SlH H (cInt .i64) 3 x3 s3 → c x0 x1 x2 x3 = some r → call ro 104 [(.int .i64 x0),(.int .i64 x1),(.pointer (some ⟨d2,0,none⟩)),(.pointer (some ⟨b3,0,none⟩))] H = some ((.int .i64 (r)),H,[])
abbrev T_cs:=S_a → (Sl Int) → Option (Bool)
def A_eC (call:CallF) (c:T_cs):Prop:=∀ (ro:Nat) (H:Hp) (x0:S_a) (x1:(Sl Int)) (b1:Nat) (s1:Nat) (r:Bool),H[b1]? = some (.cells [slV x1 s1] 100) → SlH H (cInt .i64) 3 x1 s1 → c x0 x1 = some r → call ro 105 [(vAgg (S_a.c x0)),(.pointer (some ⟨b1,0,none⟩))] H = some ((.bool (r)),H,[])
abbrev T_V:=(Sl S_a) → (Sl Int) → Option (Bool)
def A_c7 (call:CallF) (c:T_V):Prop:=∀ (ro:Nat) (H:Hp) (x0:(Sl S_a)) (b0:Nat) (x1:(Sl Int)) (b1:Nat) (s1:Nat) (r:Bool),SlH H S_a.c 72 x0 b0 → H[b1]? = some (.cells [slV x1 s1] 100) → SlH H (cInt .i64) 3 x1 s1 → c x0 x1 = some r → call ro 106 [(slV x0 b0),(.func (.func 105) [].toArray [(.pointer (some ⟨b1,0,none⟩))].toArray)] H = some ((.bool (r)),H,[])
abbrev T_eG:=(Sl S_b) → Option (Int)
def A_fO (call:CallF) (c:T_eG):Prop:=∀ (ro:Nat) (H:Hp) (x0:(Sl S_b)) (b0:Nat) (r:Int),SlH H S_b.c 97 x0 b0 → c x0 = some r → call ro 116 [(slV x0 b0)] H = some ((.int .i64 (r)),H,[])
abbrev T_cW:=Int → Int → Option (Int)
def A_fY (call:CallF) (c:T_cW):Prop:=∀ (ro:Nat) (H:Hp) (x0:Int) (x1:Int) (r:Int),c x0 x1 = some r → call ro 117 [(.int .i64 x0),(.int .i64 x1)] H = some ((.int .i64 (r)),H,[])
abbrev T_cF:=Int → Int → Option (Int)
def A_fD (call:CallF) (c:T_cF):Prop:=∀ (ro:Nat) (H:Hp) (x0:Int) (x1:Int) (r:Int),c x0 x1 = some r → call ro 118 [(.int .i64 x0),(.int .i64 x1)] H = some ((.int .i64 (r)),H,[])
abbrev T_dw:=S_a → Option (S_a)
def A_eV (call:CallF) (c:T_dw):Prop:=∀ (ro:Nat) (H:Hp) (x0:S_a) (r:S_a),c x0 = some r → call ro 124 [(vAgg (S_a.c x0))] H = some ((vAgg (S_a.c (r))),H,[])
abbrev T_b3:=(Sl S_a) → (Sl Int) → Option (Int)
def A_c8 (call:CallF) (c:T_b3):Prop:=∀ (ro:Nat) (H:Hp) (x0:(Sl S_a)) (b0:Nat) (x1:(Sl Int)) (b1:Nat) (s1:Nat) (r:Int),SlH H S_a.c 72 x0 b0 → H[b1]? = some (.cells [slV x1 s1] 100) → SlH H (cInt .i64) 3 x1 s1 → c x0 x1 = some r → call ro 138 [(slV x0 b0),(.func (.func 105) [].toArray [(.pointer (some ⟨b1,0,none⟩))].toArray)] H = some ((.int .i64 (r)),H,[])
abbrev T_cP:=(Sl S_b) → Int → Option (Int)
def A_ez (call:CallF) (c:T_cP):Prop:=∀ (ro:Nat) (H:Hp) (x0:(Sl S_b)) (b0:Nat) (x1:Int) (r:Int),SlH H S_b.c 97 x0 b0 → c x0 x1 = some r → call ro 150 [(slV x0 b0),(.int .i64 x1)] H = some ((.int .i64 (r)),H,[])
abbrev T_cO:=(Sl S_b) → Int → Option (Int)
def A_eM (call:CallF) (c:T_cO):Prop:=∀ (ro:Nat) (H:Hp) (x0:(Sl S_b)) (b0:Nat) (x1:Int) (r:Int),SlH H S_b.c 97 x0 b0 → c x0 x1 = some r → call ro 151 [(slV x0 b0),(.int .i64 x1)] H = some ((.int .i64 (r)),H,[])
abbrev T_eB:=S_b → Option (Bool)
def A_fP (call:CallF) (c:T_eB):Prop:=∀ (ro:Nat) (H:Hp) (x0:S_b) (r:Bool),c x0 = some r → call ro 168 [(vAgg (S_b.c x0))] H = some ((.bool (r)),H,[])
abbrev T_d2:=Option (Bool)
def A_fI (call:CallF) (c:T_d2):Prop:=∀ (ro:Nat) (H:Hp) (r:Bool),TabH1 H → c = some r → call ro 25 [] H = some ((.bool (r)),H,[])
abbrev T_dL:=S_a → Option (S_a)
def A_fh (call:CallF) (c:T_dL):Prop:=∀ (ro:Nat) (H:Hp) (x0:S_a) (r:S_a),c x0 = some r → call ro 125 [(vAgg (S_a.c x0))] H = some ((vAgg (S_a.c (r))),H,[])
end Go.Proofs.YtaadjlpfdajggaaGreatDoor
