import Derived.Test.YtaadjlpfdajggaaGreatDoorFhTy
import Derived.Test.YtaadjlpfdajggaaGreatDoorFhAm26
set_option maxRecDepth 100000
set_option linter.unusedVariables false
set_option linter.unusedSimpArgs false
namespace Go.Proofs.YtaadjlpfdajggaaGreatDoor
open Go Go.AM
theorem F8d:Mt.F 8 = some C.f8:=rfl
theorem F18d:Mt.F 18 = some C.f18:=rfl
theorem F18:(Mt.F 18).isSome = true:=rfl
theorem F26d:Mt.F 26 = some C.f26:=rfl
theorem F26:(Mt.F 26).isSome = true:=rfl
theorem F32d:Mt.F 32 = some C.f32:=rfl
theorem F32:(Mt.F 32).isSome = true:=rfl
theorem F33d:Mt.F 33 = some C.f33:=rfl
theorem F33:(Mt.F 33).isSome = true:=rfl
theorem F38d:Mt.F 38 = some C.f38:=rfl
theorem F38:(Mt.F 38).isSome = true:=rfl
theorem F40d:Mt.F 40 = some C.f40:=rfl
theorem F40:(Mt.F 40).isSome = true:=rfl
theorem F44d:Mt.F 44 = some C.f44:=rfl
theorem F44:(Mt.F 44).isSome = true:=rfl
theorem F57d:Mt.F 57 = some C.f57:=rfl
theorem F57:(Mt.F 57).isSome = true:=rfl
theorem F62d:Mt.F 62 = some C.f62:=rfl
theorem F62:(Mt.F 62).isSome = true:=rfl
theorem F63d:Mt.F 63 = some C.f63:=rfl
theorem F63:(Mt.F 63).isSome = true:=rfl
theorem F64d:Mt.F 64 = some C.f64:=rfl
theorem F64:(Mt.F 64).isSome = true:=rfl
theorem F65d:Mt.F 65 = some C.f65:=rfl
theorem F65:(Mt.F 65).isSome = true:=rfl
theorem F66d:Mt.F 66 = some C.f66:=rfl
theorem F66:(Mt.F 66).isSome = true:=rfl
theorem F68d:Mt.F 68 = some C.f68:=rfl
theorem F68:(Mt.F 68).isSome = true:=rfl
theorem F72d:Mt.F 72 = some C.f72:=rfl
theorem F72:(Mt.F 72).isSome = true:=rfl
theorem F86d:Mt.F 86 = some C.f86:=rfl
theorem F86:(Mt.F 86).isSome = true:=rfl
theorem F87d:Mt.F 87 = some C.f87:=rfl
theorem F87:(Mt.F 87).isSome = true:=rfl
theorem F88d:Mt.F 88 = some C.f88:=rfl
theorem F88:(Mt.F 88).isSome = true:=rfl
theorem F89d:Mt.F 89 = some C.f89:=rfl
theorem F89:(Mt.F 89).isSome = true:=rfl
theorem F90d:Mt.F 90 = some C.f90:=rfl
theorem F90:(Mt.F 90).isSome = true:=rfl
theorem F91d:Mt.F 91 = some C.f91:=rfl
theorem F91:(Mt.F 91).isSome = true:=rfl
theorem F97d:Mt.F 97 = some C.f97:=rfl
theorem F97:(Mt.F 97).isSome = true:=rfl
theorem F98d:Mt.F 98 = some C.f98:=rfl
theorem F98:(Mt.F 98).isSome = true:=rfl
theorem F99d:Mt.F 99 = some C.f99:=rfl
theorem F99:(Mt.F 99).isSome = true:=rfl
theorem F100d:Mt.F 100 = some C.f100:=rfl
theorem F100:(Mt.F 100).isSome = true:=rfl
theorem F102d:Mt.F 102 = some C.f102:=rfl
theorem F102:(Mt.F 102).isSome = true:=rfl
theorem F104d:Mt.F 104 = some C.f104:=rfl
theorem F105d:Mt.F 105 = some C.f105:=rfl
theorem F105:(Mt.F 105).isSome = true:=rfl
theorem F106d:Mt.F 106 = some C.f106:=rfl
theorem F106:(Mt.F 106).isSome = true:=rfl
theorem F113d:Mt.F 113 = some C.f113:=rfl
theorem F113:(Mt.F 113).isSome = true:=rfl
theorem F120d:Mt.F 120 = some C.f120:=rfl
theorem F120:(Mt.F 120).isSome = true:=rfl
theorem F121d:Mt.F 121 = some C.f121:=rfl
theorem F121:(Mt.F 121).isSome = true:=rfl
theorem F124d:Mt.F 124 = some C.f124:=rfl
theorem F124:(Mt.F 124).isSome = true:=rfl
theorem F138d:Mt.F 138 = some C.f138:=rfl
theorem F138:(Mt.F 138).isSome = true:=rfl
theorem F152d:Mt.F 152 = some C.f152:=rfl
theorem F152:(Mt.F 152).isSome = true:=rfl
theorem F29:(Mt.F 29).isSome = true:=rfl
theorem F125:(Mt.F 125).isSome = true:=rfl
theorem F103:(Mt.F 103).isSome = true:=rfl
theorem bd25_ {H:Hp} :bdP Mt H 25 [] = some (.val (vAgg (S_d.c S_d.zero)),H):=bd_struct zs25 pl25 fill_nil
theorem bd54_ {H:Hp} :bdP Mt H 54 [] = some (.val (vAgg (S_c.c S_c.zero)),H):=bd_struct zs54 pl54 fill_nil
theorem bd54_0 {H:Hp} {y0:S_d}:bdP Mt H 54 [(0,vAgg (S_d.c y0))] = some (.val (vAgg (S_c.c ({ S_c.zero with f_First:=y0 }:S_c))),H):=bd_struct zs54 pl54 ((fill_cons (v:=vAgg (S_d.c y0)) (c:=S_d.c y0) rfl vAgg_cells (S_d.enc.len _) (by rw [S_c.enc.len]; decide) (S_c.wr0 S_c.zero y0)).trans fill_nil)
theorem bd54_0_1 {H:Hp} {y0:S_d} {y1:Bool}:bdP Mt H 54 [(0,vAgg (S_d.c y0)),(1,.bool y1)] = some (.val (vAgg (S_c.c ({ S_c.zero with f_First:=y0,f_Open:=y1 }:S_c))),H):=bd_struct zs54 pl54 ((fill_cons (v:=vAgg (S_d.c y0)) (c:=S_d.c y0) rfl vAgg_cells (S_d.enc.len _) (by rw [S_c.enc.len]; decide) (S_c.wr0 S_c.zero y0)).trans ((fill_cons (v:=.bool y1) (c:=cBool y1) rfl rfl (enc_bool.len _) (by rw [S_c.enc.len]; decide) (S_c.wr1 ({ S_c.zero with f_First:=y0 }) y1)).trans fill_nil))
theorem bd54_0_1_2_3 {H:Hp} {y0:S_d} {y1:Bool} {y2:Bool} {y3:ByteArray}:bdP Mt H 54 [(0,vAgg (S_d.c y0)),(1,.bool y1),(2,.bool y2),(3,.string y3)] = some (.val (vAgg (S_c.c ({ S_c.zero with f_First:=y0,f_Open:=y1,f_Fast:=y2,f_Prefix:=y3 }:S_c))),H):=bd_struct zs54 pl54 ((fill_cons (v:=vAgg (S_d.c y0)) (c:=S_d.c y0) rfl vAgg_cells (S_d.enc.len _) (by rw [S_c.enc.len]; decide) (S_c.wr0 S_c.zero y0)).trans ((fill_cons (v:=.bool y1) (c:=cBool y1) rfl rfl (enc_bool.len _) (by rw [S_c.enc.len]; decide) (S_c.wr1 ({ S_c.zero with f_First:=y0 }) y1)).trans ((fill_cons (v:=.bool y2) (c:=cBool y2) rfl rfl (enc_bool.len _) (by rw [S_c.enc.len]; decide) (S_c.wr2 ({ { S_c.zero with f_First:=y0 } with f_Open:=y1 }) y2)).trans ((fill_cons (v:=.string y3) (c:=cStr y3) rfl rfl (enc_str.len _) (by rw [S_c.enc.len]; decide) (S_c.wr3 ({ { { S_c.zero with f_First:=y0 } with f_Open:=y1 } with f_Fast:=y2 }) y3)).trans fill_nil))))
theorem bd54_1 {H:Hp} {y1:Bool}:bdP Mt H 54 [(1,.bool y1)] = some (.val (vAgg (S_c.c ({ S_c.zero with f_Open:=y1 }:S_c))),H):=bd_struct zs54 pl54 ((fill_cons (v:=.bool y1) (c:=cBool y1) rfl rfl (enc_bool.len _) (by rw [S_c.enc.len]; decide) (S_c.wr1 S_c.zero y1)).trans fill_nil)
theorem bd72_0 {H:Hp} {y0:Int}:bdP Mt H 72 [(0,.int .i64 y0)] = some (.val (vAgg (S_b.c ({ S_b.zero with f_Kind:=y0 }:S_b))),H):=bd_struct zs72 pl72 ((fill_cons (v:=.int .i64 y0) (c:=(cInt .i64) y0) rfl rfl (enc_int.len _) (by rw [S_b.enc.len]; decide) (S_b.wr0 S_b.zero y0)).trans fill_nil)
theorem bd72_0_4_5 {H:Hp} {y0:Int} {y4:Int} {y5:Int}:bdP Mt H 72 [(0,.int .i64 y0),(4,.int .i64 y4),(5,.int .i64 y5)] = some (.val (vAgg (S_b.c ({ S_b.zero with f_Kind:=y0,f_Min:=y4,f_Max:=y5 }:S_b))),H):=bd_struct zs72 pl72 ((fill_cons (v:=.int .i64 y0) (c:=(cInt .i64) y0) rfl rfl (enc_int.len _) (by rw [S_b.enc.len]; decide) (S_b.wr0 S_b.zero y0)).trans ((fill_cons (v:=.int .i64 y4) (c:=(cInt .i64) y4) rfl rfl (enc_int.len _) (by rw [S_b.enc.len]; decide) (S_b.wr4 ({ S_b.zero with f_Kind:=y0 }) y4)).trans ((fill_cons (v:=.int .i64 y5) (c:=(cInt .i64) y5) rfl rfl (enc_int.len _) (by rw [S_b.enc.len]; decide) (S_b.wr5 ({ { S_b.zero with f_Kind:=y0 } with f_Min:=y4 }) y5)).trans fill_nil)))
theorem bd72_0_5 {H:Hp} {y0:Int} {y5:Int}:bdP Mt H 72 [(0,.int .i64 y0),(5,.int .i64 y5)] = some (.val (vAgg (S_b.c ({ S_b.zero with f_Kind:=y0,f_Max:=y5 }:S_b))),H):=bd_struct zs72 pl72 ((fill_cons (v:=.int .i64 y0) (c:=(cInt .i64) y0) rfl rfl (enc_int.len _) (by rw [S_b.enc.len]; decide) (S_b.wr0 S_b.zero y0)).trans ((fill_cons (v:=.int .i64 y5) (c:=(cInt .i64) y5) rfl rfl (enc_int.len _) (by rw [S_b.enc.len]; decide) (S_b.wr5 ({ S_b.zero with f_Kind:=y0 }) y5)).trans fill_nil))
theorem bd107_0 {H:Hp} {y0:S_c}:bdP Mt H 107 [(0,vAgg (S_c.c y0))] = some (.val (vAgg (S_a.c ({ S_a.zero with f_Facts:=y0 }:S_a))),H):=bd_struct zs107 pl107 ((fill_cons (v:=vAgg (S_c.c y0)) (c:=S_c.c y0) rfl vAgg_cells (S_c.enc.len _) (by rw [S_a.enc.len]; decide) (S_a.wr0 S_a.zero y0)).trans fill_nil)
theorem bd107_0_1_2 {H:Hp} {y0:S_c} {y1:Bool} {y2:Bool}:bdP Mt H 107 [(0,vAgg (S_c.c y0)),(1,.bool y1),(2,.bool y2)] = some (.val (vAgg (S_a.c ({ S_a.zero with f_Facts:=y0,f_whole:=y1,f_none:=y2 }:S_a))),H):=bd_struct zs107 pl107 ((fill_cons (v:=vAgg (S_c.c y0)) (c:=S_c.c y0) rfl vAgg_cells (S_c.enc.len _) (by rw [S_a.enc.len]; decide) (S_a.wr0 S_a.zero y0)).trans ((fill_cons (v:=.bool y1) (c:=cBool y1) rfl rfl (enc_bool.len _) (by rw [S_a.enc.len]; decide) (S_a.wr1 ({ S_a.zero with f_Facts:=y0 }) y1)).trans ((fill_cons (v:=.bool y2) (c:=cBool y2) rfl rfl (enc_bool.len _) (by rw [S_a.enc.len]; decide) (S_a.wr2 ({ { S_a.zero with f_Facts:=y0 } with f_whole:=y1 }) y2)).trans fill_nil)))
def TabH1 (H:Hp):Prop:=H[1]? = some (.tab (tabInts.map (Value.int .u8)))
theorem tabIv1 {r:Nat} {X:List Nat} {H0 H:Hp} (h:Iv r X H0 H) (hr:r = H0.length) (hG:TabH1 H0) (hX:1 ∉ X:=by simp):TabH1 H:=(h.old 1 (by rw [hr]; exact get_lt hG) hX).trans hG
def tabN1 (j:Nat):Int:=tabInts.getD j 0
theorem tabG1 {j:Nat} (h:j < 64):(tabInts.map (Value.int .u8))[0 + j * 1]? = some (.int .u8 (tabN1 j)):=by
 rw [Nat.zero_add,Nat.mul_one,List.getElem?_map]
 have:j < tabInts.length:=h
 simp [tabN1,List.getD_eq_getElem?_getD,List.getElem?_eq_getElem this]
abbrev T_K:=Sl Int → Sl Int → Option (Sl Int)
def A_cn (call:CallF) (c:T_K):Prop:=∀ (ro nb:Nat) (H:Hp) (x0:Sl Int) (b0:Nat) (x1:Sl Int) (d1 b1 s1:Nat) (r:Sl Int),ro ≤ nb → SlO nb H (cInt .i64) 3 x0 b0 → H[d1]? = some (.cells [.func (.func 102) [].toArray [(.pointer (some ⟨b1,0,none⟩))].toArray] 99) → H[b1]? = some (.cells [slV x1 s1] 100) → SlH H (cInt .i64) 3 x1 s1 → (x0 ≠ none → b0 ≠ d1) → (x0 ≠ none → b0 ≠ b1) → (x0 ≠ none → x1 ≠ none → b0 ≠ s1) → c x0 x1 = some r →
 ∃ H',call ro 103 [slV x0 b0,(.func (.func 104) [].toArray [(.pointer (some ⟨d1,0,none⟩)),(.pointer (some ⟨b1,0,none⟩))].toArray)] H = some (.tuple [].toArray,H',[]) ∧ SlO nb H' (cInt .i64) 3 r b0 ∧ UpS (x0 ≠ none) b0 H H' ∧ (∀ b,slV r b = slV x0 b) ∧ ((r ≠ none) = (x0 ≠ none)) ∧ (Sl.l r).length = (Sl.l x0).length
def ownS (n:S_b):S_b :=
 if n.f_Kind = 1 then { S_b.zero with f_Kind:=n.f_Kind,f_Set:=n.f_Set }
 else if n.f_Kind = 10 then { S_b.zero with f_Kind:=n.f_Kind,f_Min:=n.f_Min,f_Max:=n.f_Max,f_Mode:=n.f_Mode }
 else if n.f_Kind = 11 then { S_b.zero with f_Kind:=n.f_Kind,f_N:=n.f_N }
 else if n.f_Kind = 12 then { S_b.zero with f_Kind:=n.f_Kind,f_N:=n.f_N,f_Fold:=n.f_Fold }
 else { S_b.zero with f_Kind:=n.f_Kind }
abbrev T_eg:=(Sl S_b) → Int → Option ((Sl S_b))
def A_fc (call:CallF) (c:T_eg):Prop:=∀ (ro:Nat) (H:Hp) (x0:(Sl S_b)) (b0:Nat) (x1:Int) (r:(Sl S_b)),SlH H S_b.c 72 x0 b0 → c x0 x1 = some r → call ro 18 [(vAgg [slV x0 b0]),(.int .i64 x1)] H = some ((vAgg [slV r b0]),H,[]) ∧ (r ≠ none → x0 ≠ none) ∧ ∀ (H:Hp) (b:Nat),SlH H S_b.c 72 x0 b → SlH H S_b.c 72 r b
abbrev T_ey:=(Sl S_b) → Option (S_c × Int)
def A_fM (call:CallF) (c:T_ey):Prop:=∀ (ro:Nat) (H:Hp) (x0:(Sl S_b)) (b0:Nat) (r:S_c × Int),SlH H S_b.c 72 x0 b0 → TabH1 H → c x0 = some r → call ro 26 [(vAgg [slV x0 b0])] H = some ((.tuple [(vAgg (S_c.c (r.1))),(.int .i64 (r.2))].toArray),H,[])
abbrev T_eC:=(Sl S_b) → Option (Int)
def A_fK (call:CallF) (c:T_eC):Prop:=∀ (ro:Nat) (H:Hp) (x0:(Sl S_b)) (b0:Nat) (r:Int),SlH H S_b.c 72 x0 b0 → c x0 = some r → call ro 32 [(vAgg [slV x0 b0])] H = some ((.int .i64 (r)),H,[])
abbrev T_eI:=(Sl S_b) → S_b → Option ((Sl S_b))
def A_fC (call:CallF) (c:T_eI):Prop:=∀ (ro:Nat) (H:Hp) (x0:(Sl S_b)) (b0:Nat) (x1:S_b) (r:(Sl S_b)),SlH H S_b.c 72 x0 b0 → c x0 x1 = some r → call ro 33 [(vAgg [slV x0 b0]),(vAgg (S_b.c x1))] H = some ((vAgg [slV r H.length]),(H ++ slB S_b.c 72 r),[])
abbrev T_bi:=S_d → S_d → Option (S_d)
def A_df (call:CallF) (c:T_bi):Prop:=∀ (ro:Nat) (H:Hp) (x0:S_d) (x1:S_d) (r:S_d),c x0 x1 = some r → call ro 38 [(vAgg (S_d.c x0)),(vAgg (S_d.c x1))] H = some ((vAgg (S_d.c (r))),H,[])
abbrev T_ee:=(Sl S_b) → Option (Int)
def A_fg (call:CallF) (c:T_ee):Prop:=∀ (ro:Nat) (H:Hp) (x0:(Sl S_b)) (b0:Nat) (r:Int),SlH H S_b.c 72 x0 b0 → c x0 = some r → call ro 40 [(vAgg [slV x0 b0])] H = some ((.int .i64 (r)),H,[])
abbrev T_cp:=S_d → Option (Int)
def A_d7 (call:CallF) (c:T_cp):Prop:=∀ (ro:Nat) (H:Hp) (x0:S_d) (r:Int),c x0 = some r → call ro 44 [(vAgg (S_d.c x0))] H = some ((.int .i64 (r)),H,[])
abbrev T_eo:=(Sl S_b) → Option ((Sl S_a))
def A_fe (call:CallF) (c:T_eo):Prop:=∀ (ro:Nat) (H:Hp) (x0:(Sl S_b)) (b0:Nat) (r:(Sl S_a)),SlH H S_b.c 72 x0 b0 → TabH1 H → c x0 = some r → call ro 57 [(vAgg [slV x0 b0])] H = some ((slV r H.length),(H ++ slB S_a.c 107 r),[])
abbrev T_8:=(Sl S_b) → Option ((Sl Int) × Bool)
def A_dn (call:CallF) (c:T_8):Prop:=∀ (ro:Nat) (H:Hp) (x0:(Sl S_b)) (b0:Nat) (r:(Sl Int) × Bool),SlH H S_b.c 72 x0 b0 → c x0 = some r → call ro 62 [(vAgg [slV x0 b0])] H = some ((.tuple [(slV r.1 H.length),(.bool (r.2))].toArray),(H ++ slB (cInt .i64) 3 r.1),[])
abbrev T_cx:=(Sl S_b) → Option ((Sl Int))
def A_dQ (call:CallF) (c:T_cx):Prop:=∀ (ro:Nat) (H:Hp) (x0:(Sl S_b)) (b0:Nat) (r:(Sl Int)),SlH H S_b.c 72 x0 b0 → c x0 = some r → call ro 63 [(vAgg [slV x0 b0])] H = some ((slV r H.length),(H ++ slB (cInt .i64) 3 r),[])
abbrev T_b2:=(Sl S_b) → Option (Int)
def A_e0 (call:CallF) (c:T_b2):Prop:=∀ (ro:Nat) (H:Hp) (x0:(Sl S_b)) (b0:Nat) (r:Int),SlH H S_b.c 72 x0 b0 → c x0 = some r → call ro 64 [(vAgg [slV x0 b0])] H = some ((.int .i64 (r)),H,[])
abbrev T_cA:=(Sl S_b) → Option ((Sl Int) × (Sl Int))
def A_fE (call:CallF) (c:T_cA):Prop:=∀ (ro:Nat) (H:Hp) (x0:(Sl S_b)) (b0:Nat) (r:(Sl Int) × (Sl Int)),SlH H S_b.c 72 x0 b0 → c x0 = some r → call ro 65 [(vAgg [slV x0 b0])] H = some ((.tuple [(slV r.1 H.length),(slV r.2 (H.length + (slB (cInt .i64) 3 r.1).length))].toArray),(H ++ (slB (cInt .i64) 3 r.1 ++ slB (cInt .i64) 3 r.2)),[])
abbrev T_bu:=Int → Option (Int)
def A_ez (call:CallF) (c:T_bu):Prop:=∀ (ro:Nat) (H:Hp) (x0:Int) (r:Int),c x0 = some r → call ro 66 [(.int .i64 x0)] H = some ((.int .i64 (r)),H,[])
abbrev T_bN:=(Sl S_b) → Option (Bool)
def A_eK (call:CallF) (c:T_bN):Prop:=∀ (ro:Nat) (H:Hp) (x0:(Sl S_b)) (b0:Nat) (r:Bool),SlH H S_b.c 72 x0 b0 → c x0 = some r → call ro 68 [(vAgg [slV x0 b0])] H = some ((.bool (r)),H,[])
abbrev T_bW:=Int → Option (Int)
def A_du (call:CallF) (c:T_bW):Prop:=∀ (ro:Nat) (H:Hp) (x0:Int) (r:Int),c x0 = some r → call ro 72 [(.int .u64 x0)] H = some ((.int .i64 (r)),H,[])
abbrev T_bM:=S_d → Option (S_a)
def A_eJ (call:CallF) (c:T_bM):Prop:=∀ (ro:Nat) (H:Hp) (x0:S_d) (r:S_a),TabH1 H → c x0 = some r → call ro 86 [(vAgg (S_d.c x0))] H = some ((vAgg (S_a.c (r))),H,[])
abbrev T_M:=Option (S_a)
def A_c6 (call:CallF) (c:T_M):Prop:=∀ (ro:Nat) (H:Hp) (r:S_a),c = some r → call ro 87 [] H = some ((vAgg (S_a.c (r))),H,[])
abbrev T_cl:=Option (S_d)
def A_ff (call:CallF) (c:T_cl):Prop:=∀ (ro:Nat) (H:Hp) (r:S_d),c = some r → call ro 88 [] H = some ((vAgg (S_d.c (r))),H,[])
abbrev T_cj:=S_a → S_a → Option (S_a)
def A_fd (call:CallF) (c:T_cj):Prop:=∀ (ro:Nat) (H:Hp) (x0:S_a) (x1:S_a) (r:S_a),c x0 x1 = some r → call ro 89 [(vAgg (S_a.c x0)),(vAgg (S_a.c x1))] H = some ((vAgg (S_a.c (r))),H,[])
abbrev T_ck:=S_a → S_a → Option (S_a)
def A_fk (call:CallF) (c:T_ck):Prop:=∀ (ro:Nat) (H:Hp) (x0:S_a) (x1:S_a) (r:S_a),c x0 x1 = some r → call ro 90 [(vAgg (S_a.c x0)),(vAgg (S_a.c x1))] H = some ((vAgg (S_a.c (r))),H,[])
abbrev T_bD:=S_b → S_a → Option (S_a)
def A_ew (call:CallF) (c:T_bD):Prop:=∀ (ro:Nat) (H:Hp) (x0:S_b) (x1:S_a) (r:S_a),c x0 x1 = some r → call ro 91 [(vAgg (S_b.c x0)),(vAgg (S_a.c x1))] H = some ((vAgg (S_a.c (r))),H,[])
abbrev T_bS:=S_b → Option (Bool)
def A_d9 (call:CallF) (c:T_bS):Prop:=∀ (ro:Nat) (H:Hp) (x0:S_b) (r:Bool),c x0 = some r → call ro 97 [(vAgg (S_b.c x0))] H = some ((.bool (r)),H,[])
abbrev T_b6:=(Sl Int) → Option (Int)
def A_c7 (call:CallF) (c:T_b6):Prop:=∀ (ro:Nat) (H:Hp) (x0:(Sl Int)) (b0:Nat) (r:Int),SlH H (cInt .i64) 3 x0 b0 → c x0 = some r → call ro 98 [(slV x0 b0)] H = some ((.int .i64 (r)),H,[])
abbrev T_cB:=Int → Int → Option (Int)
def A_fH (call:CallF) (c:T_cB):Prop:=∀ (ro:Nat) (H:Hp) (x0:Int) (x1:Int) (r:Int),c x0 x1 = some r → call ro 99 [(.int .i64 x0),(.int .i64 x1)] H = some ((.int .i64 (r)),H,[])
abbrev T_ci:=Int → Int → Option (Int)
def A_fj (call:CallF) (c:T_ci):Prop:=∀ (ro:Nat) (H:Hp) (x0:Int) (x1:Int) (r:Int),c x0 x1 = some r → call ro 100 [(.int .i64 x0),(.int .i64 x1)] H = some ((.int .i64 (r)),H,[])
abbrev T_cT:=Int → (Sl Int) → Option (Int)
def A_dW (call:CallF) (c:T_cT):Prop:=∀ (ro:Nat) (H:Hp) (x0:Int) (x1:(Sl Int)) (b1:Nat) (s1:Nat) (r:Int),H[b1]? = some (.cells [slV x1 s1] 100) → SlH H (cInt .i64) 3 x1 s1 → c x0 x1 = some r → call ro 102 [(.int .i64 x0),(.pointer (some ⟨b1,0,none⟩))] H = some ((.int .i64 (r)),H,[])
abbrev T_fu:=Int → Int → (Sl Int) → (Sl Int) → Option (Int)
def A_fm (call:CallF) (c:T_fu):Prop:=∀ (ro:Nat) (H:Hp) (x0:Int) (x1:Int) (x2:(Sl Int)) (d2:Nat) (b2:Nat) (s2:Nat) (x3:(Sl Int)) (b3:Nat) (s3:Nat) (r:Int),H[d2]? = some (.cells [.func (.func 102) [].toArray [(.pointer (some ⟨b2,0,none⟩))].toArray] 99) → H[b2]? = some (.cells [slV x2 s2] 100) → SlH H (cInt .i64) 3 x2 s2 → H[b3]? = some (.cells [slV x3 s3] 100) → SlH H (cInt .i64) 3 x3 s3 → c x0 x1 x2 x3 = some r → call ro 104 [(.int .i64 x0),(.int .i64 x1),(.pointer (some ⟨d2,0,none⟩)),(.pointer (some ⟨b3,0,none⟩))] H = some ((.int .i64 (r)),H,[])
abbrev T_b5:=S_b → (Sl Int) → Option (Bool)
def A_dS (call:CallF) (c:T_b5):Prop:=∀ (ro:Nat) (H:Hp) (x0:S_b) (x1:(Sl Int)) (b1:Nat) (s1:Nat) (r:Bool),H[b1]? = some (.cells [slV x1 s1] 100) → SlH H (cInt .i64) 3 x1 s1 → c x0 x1 = some r → call ro 105 [(vAgg (S_b.c x0)),(.pointer (some ⟨b1,0,none⟩))] H = some ((.bool (r)),H,[])
abbrev T_O:=(Sl S_b) → (Sl Int) → Option (Bool)
def A_cJ (call:CallF) (c:T_O):Prop:=∀ (ro:Nat) (H:Hp) (x0:(Sl S_b)) (b0:Nat) (x1:(Sl Int)) (b1:Nat) (s1:Nat) (r:Bool),SlH H S_b.c 72 x0 b0 → H[b1]? = some (.cells [slV x1 s1] 100) → SlH H (cInt .i64) 3 x1 s1 → c x0 x1 = some r → call ro 106 [(slV x0 b0),(.func (.func 105) [].toArray [(.pointer (some ⟨b1,0,none⟩))].toArray)] H = some ((.bool (r)),H,[])
abbrev T_c4:=S_d → Option (S_d)
def A_d8 (call:CallF) (c:T_c4):Prop:=∀ (ro:Nat) (H:Hp) (x0:S_d) (r:S_d),c x0 = some r → call ro 113 [(vAgg (S_d.c x0))] H = some ((vAgg (S_d.c (r))),H,[])
abbrev T_co:=S_d → Option (Int × Bool)
def A_d5 (call:CallF) (c:T_co):Prop:=∀ (ro:Nat) (H:Hp) (x0:S_d) (r:Int × Bool),TabH1 H → c x0 = some r → call ro 120 [(vAgg (S_d.c x0))] H = some ((.tuple [(.int .u8 (r.1)),(.bool (r.2))].toArray),H,[])
abbrev T_br:=S_a → Option (S_a)
def A_dE (call:CallF) (c:T_br):Prop:=∀ (ro:Nat) (H:Hp) (x0:S_a) (r:S_a),c x0 = some r → call ro 121 [(vAgg (S_a.c x0))] H = some ((vAgg (S_a.c (r))),H,[])
abbrev T_c0:=S_b → Option (S_b)
def A_d6 (call:CallF) (c:T_c0):Prop:=∀ (ro:Nat) (H:Hp) (x0:S_b) (r:S_b),c x0 = some r → call ro 124 [(vAgg (S_b.c x0))] H = some ((vAgg (S_b.c (r))),H,[])
abbrev T_bI:=(Sl S_b) → (Sl Int) → Option (Int)
def A_cK (call:CallF) (c:T_bI):Prop:=∀ (ro:Nat) (H:Hp) (x0:(Sl S_b)) (b0:Nat) (x1:(Sl Int)) (b1:Nat) (s1:Nat) (r:Int),SlH H S_b.c 72 x0 b0 → H[b1]? = some (.cells [slV x1 s1] 100) → SlH H (cInt .i64) 3 x1 s1 → c x0 x1 = some r → call ro 138 [(slV x0 b0),(.func (.func 105) [].toArray [(.pointer (some ⟨b1,0,none⟩))].toArray)] H = some ((.int .i64 (r)),H,[])
abbrev T_bm:=Int → Option (Int)
def A_cM (call:CallF) (c:T_bm):Prop:=∀ (ro:Nat) (H:Hp) (x0:Int) (r:Int),TabH1 H → c x0 = some r → call ro 152 [(.int .u64 x0)] H = some ((.int .i64 (r)),H,[])
abbrev T_dw:=Option (Bool)
def A_eL (call:CallF) (c:T_dw):Prop:=∀ (ro:Nat) (H:Hp) (r:Bool),TabH1 H → c = some r → call ro 29 [] H = some ((.bool (r)),H,[])
abbrev T_de:=S_b → Option (S_b)
def A_er (call:CallF) (c:T_de):Prop:=∀ (ro:Nat) (H:Hp) (x0:S_b) (r:S_b),c x0 = some r → call ro 125 [(vAgg (S_b.c x0))] H = some ((vAgg (S_b.c (r))),H,[])
end Go.Proofs.YtaadjlpfdajggaaGreatDoor
