import Derived.Test.YtaadjlpfdajggaaGreatDoorFiTy
import Derived.Test.YtaadjlpfdajggaaGreatDoorFiAm26
set_option maxRecDepth 100000
set_option linter.unusedVariables false
set_option linter.unusedSimpArgs false
namespace Go.Proofs.YtaadjlpfdajggaaGreatDoor
open Go Go.AM
theorem F12d:Mt.F 12 = some C.f12:=rfl
theorem F18d:Mt.F 18 = some C.f18:=rfl
theorem F18:(Mt.F 18).isSome = true:=rfl
theorem F26d:Mt.F 26 = some C.f26:=rfl
theorem F26:(Mt.F 26).isSome = true:=rfl
theorem F32d:Mt.F 32 = some C.f32:=rfl
theorem F32:(Mt.F 32).isSome = true:=rfl
theorem F36d:Mt.F 36 = some C.f36:=rfl
theorem F36:(Mt.F 36).isSome = true:=rfl
theorem F37d:Mt.F 37 = some C.f37:=rfl
theorem F37:(Mt.F 37).isSome = true:=rfl
theorem F38d:Mt.F 38 = some C.f38:=rfl
theorem F38:(Mt.F 38).isSome = true:=rfl
theorem F40d:Mt.F 40 = some C.f40:=rfl
theorem F40:(Mt.F 40).isSome = true:=rfl
theorem F44d:Mt.F 44 = some C.f44:=rfl
theorem F44:(Mt.F 44).isSome = true:=rfl
theorem F57d:Mt.F 57 = some C.f57:=rfl
theorem F57:(Mt.F 57).isSome = true:=rfl
theorem F62d:Mt.F 62 = some C.f62:=rfl
theorem F62:(Mt.F 62).isSome = true:=rfl
theorem F63d:Mt.F 63 = some C.f63:=rfl
theorem F63:(Mt.F 63).isSome = true:=rfl
theorem F64d:Mt.F 64 = some C.f64:=rfl
theorem F64:(Mt.F 64).isSome = true:=rfl
theorem F65d:Mt.F 65 = some C.f65:=rfl
theorem F65:(Mt.F 65).isSome = true:=rfl
theorem F66d:Mt.F 66 = some C.f66:=rfl
theorem F66:(Mt.F 66).isSome = true:=rfl
theorem F68d:Mt.F 68 = some C.f68:=rfl
theorem F68:(Mt.F 68).isSome = true:=rfl
theorem F72d:Mt.F 72 = some C.f72:=rfl
theorem F72:(Mt.F 72).isSome = true:=rfl
theorem F86d:Mt.F 86 = some C.f86:=rfl
theorem F86:(Mt.F 86).isSome = true:=rfl
theorem F87d:Mt.F 87 = some C.f87:=rfl
theorem F87:(Mt.F 87).isSome = true:=rfl
theorem F88d:Mt.F 88 = some C.f88:=rfl
theorem F88:(Mt.F 88).isSome = true:=rfl
theorem F89d:Mt.F 89 = some C.f89:=rfl
theorem F89:(Mt.F 89).isSome = true:=rfl
theorem F90d:Mt.F 90 = some C.f90:=rfl
theorem F90:(Mt.F 90).isSome = true:=rfl
theorem F91d:Mt.F 91 = some C.f91:=rfl
theorem F91:(Mt.F 91).isSome = true:=rfl
theorem F97d:Mt.F 97 = some C.f97:=rfl
theorem F97:(Mt.F 97).isSome = true:=rfl
theorem F98d:Mt.F 98 = some C.f98:=rfl
theorem F98:(Mt.F 98).isSome = true:=rfl
theorem F99d:Mt.F 99 = some C.f99:=rfl
theorem F99:(Mt.F 99).isSome = true:=rfl
theorem F100d:Mt.F 100 = some C.f100:=rfl
theorem F100:(Mt.F 100).isSome = true:=rfl
theorem F102d:Mt.F 102 = some C.f102:=rfl
theorem F102:(Mt.F 102).isSome = true:=rfl
theorem F104d:Mt.F 104 = some C.f104:=rfl
theorem F105d:Mt.F 105 = some C.f105:=rfl
theorem F105:(Mt.F 105).isSome = true:=rfl
theorem F106d:Mt.F 106 = some C.f106:=rfl
theorem F106:(Mt.F 106).isSome = true:=rfl
theorem F113d:Mt.F 113 = some C.f113:=rfl
theorem F113:(Mt.F 113).isSome = true:=rfl
theorem F120d:Mt.F 120 = some C.f120:=rfl
theorem F120:(Mt.F 120).isSome = true:=rfl
theorem F121d:Mt.F 121 = some C.f121:=rfl
theorem F121:(Mt.F 121).isSome = true:=rfl
theorem F124d:Mt.F 124 = some C.f124:=rfl
theorem F124:(Mt.F 124).isSome = true:=rfl
theorem F138d:Mt.F 138 = some C.f138:=rfl
theorem F138:(Mt.F 138).isSome = true:=rfl
theorem F152d:Mt.F 152 = some C.f152:=rfl
theorem F152:(Mt.F 152).isSome = true:=rfl
theorem F29:(Mt.F 29).isSome = true:=rfl
theorem F125:(Mt.F 125).isSome = true:=rfl
theorem F103:(Mt.F 103).isSome = true:=rfl
theorem bd25_ {H:Hp} :bdP Mt H 25 [] = some (.val (vAgg (S_d.c S_d.zero)),H):=bd_struct zs25 pl25 fill_nil
theorem bd54_ {H:Hp} :bdP Mt H 54 [] = some (.val (vAgg (S_c.c S_c.zero)),H):=bd_struct zs54 pl54 fill_nil
theorem bd54_0 {H:Hp} {y0:S_d}:bdP Mt H 54 [(0,vAgg (S_d.c y0))] = some (.val (vAgg (S_c.c ({ S_c.zero with f_First:=y0 }:S_c))),H):=bd_struct zs54 pl54 ((fill_cons (v:=vAgg (S_d.c y0)) (c:=S_d.c y0) rfl vAgg_cells (S_d.enc.len _) (by rw [S_c.enc.len]; decide) (S_c.wr0 S_c.zero y0)).trans fill_nil)
theorem bd54_0_1 {H:Hp} {y0:S_d} {y1:Bool}:bdP Mt H 54 [(0,vAgg (S_d.c y0)),(1,.bool y1)] = some (.val (vAgg (S_c.c ({ S_c.zero with f_First:=y0,f_Open:=y1 }:S_c))),H):=bd_struct zs54 pl54 ((fill_cons (v:=vAgg (S_d.c y0)) (c:=S_d.c y0) rfl vAgg_cells (S_d.enc.len _) (by rw [S_c.enc.len]; decide) (S_c.wr0 S_c.zero y0)).trans ((fill_cons (v:=.bool y1) (c:=cBool y1) rfl rfl (enc_bool.len _) (by rw [S_c.enc.len]; decide) (S_c.wr1 ({ S_c.zero with f_First:=y0 }) y1)).trans fill_nil))
theorem bd54_0_1_2_3 {H:Hp} {y0:S_d} {y1:Bool} {y2:Bool} {y3:ByteArray}:bdP Mt H 54 [(0,vAgg (S_d.c y0)),(1,.bool y1),(2,.bool y2),(3,.string y3)] = some (.val (vAgg (S_c.c ({ S_c.zero with f_First:=y0,f_Open:=y1,f_Fast:=y2,f_Prefix:=y3 }:S_c))),H):=bd_struct zs54 pl54 ((fill_cons (v:=vAgg (S_d.c y0)) (c:=S_d.c y0) rfl vAgg_cells (S_d.enc.len _) (by rw [S_c.enc.len]; decide) (S_c.wr0 S_c.zero y0)).trans ((fill_cons (v:=.bool y1) (c:=cBool y1) rfl rfl (enc_bool.len _) (by rw [S_c.enc.len]; decide) (S_c.wr1 ({ S_c.zero with f_First:=y0 }) y1)).trans ((fill_cons (v:=.bool y2) (c:=cBool y2) rfl rfl (enc_bool.len _) (by rw [S_c.enc.len]; decide) (S_c.wr2 ({ { S_c.zero with f_First:=y0 } with f_Open:=y1 }) y2)).trans ((fill_cons (v:=.string y3) (c:=cStr y3) rfl rfl (enc_str.len _) (by rw [S_c.enc.len]; decide) (S_c.wr3 ({ { { S_c.zero with f_First:=y0 } with f_Open:=y1 } with f_Fast:=y2 }) y3)).trans fill_nil))))
theorem bd54_1 {H:Hp} {y1:Bool}:bdP Mt H 54 [(1,.bool y1)] = some (.val (vAgg (S_c.c ({ S_c.zero with f_Open:=y1 }:S_c))),H):=bd_struct zs54 pl54 ((fill_cons (v:=.bool y1) (c:=cBool y1) rfl rfl (enc_bool.len _) (by rw [S_c.enc.len]; decide) (S_c.wr1 S_c.zero y1)).trans fill_nil)
theorem bd72_0_1_2 {H:Hp} {y0:Int} {y1:Int} {y2:Int}:bdP Mt H 72 [(0,.int .i64 y0),(1,.int .i64 y1),(2,.int .i64 y2)] = some (.val (vAgg (S_b.c ({ S_b.zero with f_Kind:=y0,f_A:=y1,f_B:=y2 }:S_b))),H):=bd_struct zs72 pl72 ((fill_cons (v:=.int .i64 y0) (c:=(cInt .i64) y0) rfl rfl (enc_int.len _) (by rw [S_b.enc.len]; decide) (S_b.wr0 S_b.zero y0)).trans ((fill_cons (v:=.int .i64 y1) (c:=(cInt .i64) y1) rfl rfl (enc_int.len _) (by rw [S_b.enc.len]; decide) (S_b.wr1 ({ S_b.zero with f_Kind:=y0 }) y1)).trans ((fill_cons (v:=.int .i64 y2) (c:=(cInt .i64) y2) rfl rfl (enc_int.len _) (by rw [S_b.enc.len]; decide) (S_b.wr2 ({ { S_b.zero with f_Kind:=y0 } with f_A:=y1 }) y2)).trans fill_nil)))
theorem bd107_0 {H:Hp} {y0:S_c}:bdP Mt H 107 [(0,vAgg (S_c.c y0))] = some (.val (vAgg (S_a.c ({ S_a.zero with f_Facts:=y0 }:S_a))),H):=bd_struct zs107 pl107 ((fill_cons (v:=vAgg (S_c.c y0)) (c:=S_c.c y0) rfl vAgg_cells (S_c.enc.len _) (by rw [S_a.enc.len]; decide) (S_a.wr0 S_a.zero y0)).trans fill_nil)
theorem bd107_0_1_2 {H:Hp} {y0:S_c} {y1:Bool} {y2:Bool}:bdP Mt H 107 [(0,vAgg (S_c.c y0)),(1,.bool y1),(2,.bool y2)] = some (.val (vAgg (S_a.c ({ S_a.zero with f_Facts:=y0,f_whole:=y1,f_none:=y2 }:S_a))),H):=bd_struct zs107 pl107 ((fill_cons (v:=vAgg (S_c.c y0)) (c:=S_c.c y0) rfl vAgg_cells (S_c.enc.len _) (by rw [S_a.enc.len]; decide) (S_a.wr0 S_a.zero y0)).trans ((fill_cons (v:=.bool y1) (c:=cBool y1) rfl rfl (enc_bool.len _) (by rw [S_a.enc.len]; decide) (S_a.wr1 ({ S_a.zero with f_Facts:=y0 }) y1)).trans ((fill_cons (v:=.bool y2) (c:=cBool y2) rfl rfl (enc_bool.len _) (by rw [S_a.enc.len]; decide) (S_a.wr2 ({ { S_a.zero with f_Facts:=y0 } with f_whole:=y1 }) y2)).trans fill_nil)))
def TabH1 (H:Hp):Prop:=H[1]? = some (.tab (tabInts.map (Value.int .u8)))
theorem tabIv1 {r:Nat} {X:List Nat} {H0 H:Hp} (h:Iv r X H0 H) (hr:r = H0.length) (hG:TabH1 H0) (hX:1 ∉ X:=by simp):TabH1 H:=(h.old 1 (by rw [hr]; exact get_lt hG) hX).trans hG
def tabN1 (j:Nat):Int:=tabInts.getD j 0
theorem tabG1 {j:Nat} (h:j < 64):(tabInts.map (Value.int .u8))[0 + j * 1]? = some (.int .u8 (tabN1 j)):=by
 rw [Nat.zero_add,Nat.mul_one,List.getElem?_map]
 have:j < tabInts.length:=h
 simp [tabN1,List.getD_eq_getElem?_getD,List.getElem?_eq_getElem this]
abbrev T_K:=Sl Int → Sl Int → Option (Sl Int)
def A_cB (call:CallF) (c:T_K):Prop:=∀ (ro nb:Nat) (H:Hp) (x0:Sl Int) (b0:Nat) (x1:Sl Int) (d1 b1 s1:Nat) (r:Sl Int),ro ≤ nb → SlO nb H (cInt .i64) 3 x0 b0 → H[d1]? = some (.cells [.func (.func 102) [].toArray [(.pointer (some ⟨b1,0,none⟩))].toArray] 99) → H[b1]? = some (.cells [slV x1 s1] 100) → SlH H (cInt .i64) 3 x1 s1 → (x0 ≠ none → b0 ≠ d1) → (x0 ≠ none → b0 ≠ b1) → (x0 ≠ none → x1 ≠ none → b0 ≠ s1) → c x0 x1 = some r →
 ∃ H',call ro 103 [slV x0 b0,(.func (.func 104) [].toArray [(.pointer (some ⟨d1,0,none⟩)),(.pointer (some ⟨b1,0,none⟩))].toArray)] H = some (.tuple [].toArray,H',[]) ∧ SlO nb H' (cInt .i64) 3 r b0 ∧ UpS (x0 ≠ none) b0 H H' ∧ (∀ b,slV r b = slV x0 b) ∧ ((r ≠ none) = (x0 ≠ none)) ∧ (Sl.l r).length = (Sl.l x0).length
def ownS (n:S_b):S_b :=
 if n.f_Kind = 1 then { S_b.zero with f_Kind:=n.f_Kind,f_Set:=n.f_Set }
 else if n.f_Kind = 10 then { S_b.zero with f_Kind:=n.f_Kind,f_Min:=n.f_Min,f_Max:=n.f_Max,f_Mode:=n.f_Mode }
 else if n.f_Kind = 11 then { S_b.zero with f_Kind:=n.f_Kind,f_N:=n.f_N }
 else if n.f_Kind = 12 then { S_b.zero with f_Kind:=n.f_Kind,f_N:=n.f_N,f_Fold:=n.f_Fold }
 else { S_b.zero with f_Kind:=n.f_Kind }
abbrev T_dA:=(Sl S_b) → Int → Option ((Sl S_b))
def A_fw (call:CallF) (c:T_dA):Prop:=∀ (ro:Nat) (H:Hp) (x0:(Sl S_b)) (b0:Nat) (x1:Int) (r:(Sl S_b)),SlH H S_b.c 72 x0 b0 → c x0 x1 = some r → call ro 18 [(vAgg [slV x0 b0]),(.int .i64 x1)] H = some ((vAgg [slV r b0]),H,[]) ∧ (r ≠ none → x0 ≠ none) ∧ ∀ (H:Hp) (b:Nat),SlH H S_b.c 72 x0 b → SlH H S_b.c 72 r b
abbrev T_d2:=(Sl S_b) → Option (S_c × Int)
def A_f0 (call:CallF) (c:T_d2):Prop:=∀ (ro:Nat) (H:Hp) (x0:(Sl S_b)) (b0:Nat) (r:S_c × Int),SlH H S_b.c 72 x0 b0 → TabH1 H → c x0 = some r → call ro 26 [(vAgg [slV x0 b0])] H = some ((.tuple [(vAgg (S_c.c (r.1))),(.int .i64 (r.2))].toArray),H,[])
abbrev T_dY:=(Sl S_b) → Option (Int)
def A_f7 (call:CallF) (c:T_dY):Prop:=∀ (ro:Nat) (H:Hp) (x0:(Sl S_b)) (b0:Nat) (r:Int),SlH H S_b.c 72 x0 b0 → c x0 = some r → call ro 32 [(vAgg [slV x0 b0])] H = some ((.int .i64 (r)),H,[])
abbrev T_dg:=(Sl S_b) → Option (Int)
def A_fg (call:CallF) (c:T_dg):Prop:=∀ (ro:Nat) (H:Hp) (x0:(Sl S_b)) (b0:Nat) (r:Int),SlH H S_b.c 72 x0 b0 → c x0 = some r → call ro 36 [(vAgg [slV x0 b0])] H = some ((.int .i64 (r)),H,[])
abbrev T_dW:=(Sl S_b) → (Sl S_b) → Int → Option ((Sl S_b))
def A_fS (call:CallF) (c:T_dW):Prop:=∀ (ro:Nat) (H:Hp) (x0:(Sl S_b)) (b0:Nat) (x1:(Sl S_b)) (b1:Nat) (x2:Int) (r:(Sl S_b)),SlH H S_b.c 72 x0 b0 → SlH H S_b.c 72 x1 b1 → c x0 x1 x2 = some r → call ro 37 [(vAgg [slV x0 b0]),(vAgg [slV x1 b1]),(.int .i64 x2)] H = some ((vAgg [slV r H.length]),(H ++ slB S_b.c 72 r),[])
abbrev T_R:=S_d → S_d → Option (S_d)
def A_cR (call:CallF) (c:T_R):Prop:=∀ (ro:Nat) (H:Hp) (x0:S_d) (x1:S_d) (r:S_d),c x0 x1 = some r → call ro 38 [(vAgg (S_d.c x0)),(vAgg (S_d.c x1))] H = some ((vAgg (S_d.c (r))),H,[])
abbrev T_eD:=(Sl S_b) → Option (Int)
def A_fr (call:CallF) (c:T_eD):Prop:=∀ (ro:Nat) (H:Hp) (x0:(Sl S_b)) (b0:Nat) (r:Int),SlH H S_b.c 72 x0 b0 → c x0 = some r → call ro 40 [(vAgg [slV x0 b0])] H = some ((.int .i64 (r)),H,[])
abbrev T_cA:=S_d → Option (Int)
def A_er (call:CallF) (c:T_cA):Prop:=∀ (ro:Nat) (H:Hp) (x0:S_d) (r:Int),c x0 = some r → call ro 44 [(vAgg (S_d.c x0))] H = some ((.int .i64 (r)),H,[])
abbrev T_ew:=(Sl S_b) → Option ((Sl S_a))
def A_fv (call:CallF) (c:T_ew):Prop:=∀ (ro:Nat) (H:Hp) (x0:(Sl S_b)) (b0:Nat) (r:(Sl S_a)),SlH H S_b.c 72 x0 b0 → TabH1 H → c x0 = some r → call ro 57 [(vAgg [slV x0 b0])] H = some ((slV r H.length),(H ++ slB S_a.c 107 r),[])
abbrev T_be:=(Sl S_b) → Option ((Sl Int) × Bool)
def A_dD (call:CallF) (c:T_be):Prop:=∀ (ro:Nat) (H:Hp) (x0:(Sl S_b)) (b0:Nat) (r:(Sl Int) × Bool),SlH H S_b.c 72 x0 b0 → c x0 = some r → call ro 62 [(vAgg [slV x0 b0])] H = some ((.tuple [(slV r.1 H.length),(.bool (r.2))].toArray),(H ++ slB (cInt .i64) 3 r.1),[])
abbrev T_cG:=(Sl S_b) → Option ((Sl Int))
def A_ea (call:CallF) (c:T_cG):Prop:=∀ (ro:Nat) (H:Hp) (x0:(Sl S_b)) (b0:Nat) (r:(Sl Int)),SlH H S_b.c 72 x0 b0 → c x0 = some r → call ro 63 [(vAgg [slV x0 b0])] H = some ((slV r H.length),(H ++ slB (cInt .i64) 3 r),[])
abbrev T_ce:=(Sl S_b) → Option (Int)
def A_fa (call:CallF) (c:T_ce):Prop:=∀ (ro:Nat) (H:Hp) (x0:(Sl S_b)) (b0:Nat) (r:Int),SlH H S_b.c 72 x0 b0 → c x0 = some r → call ro 64 [(vAgg [slV x0 b0])] H = some ((.int .i64 (r)),H,[])
abbrev T_cQ:=(Sl S_b) → Option ((Sl Int) × (Sl Int))
def A_f8 (call:CallF) (c:T_cQ):Prop:=∀ (ro:Nat) (H:Hp) (x0:(Sl S_b)) (b0:Nat) (r:(Sl Int) × (Sl Int)),SlH H S_b.c 72 x0 b0 → c x0 = some r → call ro 65 [(vAgg [slV x0 b0])] H = some ((.tuple [(slV r.1 H.length),(slV r.2 (H.length + (slB (cInt .i64) 3 r.1).length))].toArray),(H ++ (slB (cInt .i64) 3 r.1 ++ slB (cInt .i64) 3 r.2)),[])
abbrev T_W:=Int → Option (Int)
def A_dU (call:CallF) (c:T_W):Prop:=∀ (ro:Nat) (H:Hp) (x0:Int) (r:Int),c x0 = some r → call ro 66 [(.int .i64 x0)] H = some ((.int .i64 (r)),H,[])
abbrev T_bX:=(Sl S_b) → Option (Bool)
def A_eX (call:CallF) (c:T_bX):Prop:=∀ (ro:Nat) (H:Hp) (x0:(Sl S_b)) (b0:Nat) (r:Bool),SlH H S_b.c 72 x0 b0 → c x0 = some r → call ro 68 [(vAgg [slV x0 b0])] H = some ((.bool (r)),H,[])
abbrev T_b6:=Int → Option (Int)
def A_dJ (call:CallF) (c:T_b6):Prop:=∀ (ro:Nat) (H:Hp) (x0:Int) (r:Int),c x0 = some r → call ro 72 [(.int .u64 x0)] H = some ((.int .i64 (r)),H,[])
abbrev T_b0:=S_d → Option (S_a)
def A_eW (call:CallF) (c:T_b0):Prop:=∀ (ro:Nat) (H:Hp) (x0:S_d) (r:S_a),TabH1 H → c x0 = some r → call ro 86 [(vAgg (S_d.c x0))] H = some ((vAgg (S_a.c (r))),H,[])
abbrev T_M:=Option (S_a)
def A_dj (call:CallF) (c:T_M):Prop:=∀ (ro:Nat) (H:Hp) (r:S_a),c = some r → call ro 87 [] H = some ((vAgg (S_a.c (r))),H,[])
abbrev T_cv:=Option (S_d)
def A_fy (call:CallF) (c:T_cv):Prop:=∀ (ro:Nat) (H:Hp) (r:S_d),c = some r → call ro 88 [] H = some ((vAgg (S_d.c (r))),H,[])
abbrev T_cs:=S_a → S_a → Option (S_a)
def A_ft (call:CallF) (c:T_cs):Prop:=∀ (ro:Nat) (H:Hp) (x0:S_a) (x1:S_a) (r:S_a),c x0 x1 = some r → call ro 89 [(vAgg (S_a.c x0)),(vAgg (S_a.c x1))] H = some ((vAgg (S_a.c (r))),H,[])
abbrev T_cu:=S_a → S_a → Option (S_a)
def A_fs (call:CallF) (c:T_cu):Prop:=∀ (ro:Nat) (H:Hp) (x0:S_a) (x1:S_a) (r:S_a),c x0 x1 = some r → call ro 90 [(vAgg (S_a.c x0)),(vAgg (S_a.c x1))] H = some ((vAgg (S_a.c (r))),H,[])
abbrev T_bO:=S_b → S_a → Option (S_a)
def A_eF (call:CallF) (c:T_bO):Prop:=∀ (ro:Nat) (H:Hp) (x0:S_b) (x1:S_a) (r:S_a),c x0 x1 = some r → call ro 91 [(vAgg (S_b.c x0)),(vAgg (S_a.c x1))] H = some ((vAgg (S_a.c (r))),H,[])
abbrev T_b4:=S_b → Option (Bool)
def A_eo (call:CallF) (c:T_b4):Prop:=∀ (ro:Nat) (H:Hp) (x0:S_b) (r:Bool),c x0 = some r → call ro 97 [(vAgg (S_b.c x0))] H = some ((.bool (r)),H,[])
abbrev T_cj:=(Sl Int) → Option (Int)
def A_dk (call:CallF) (c:T_cj):Prop:=∀ (ro:Nat) (H:Hp) (x0:(Sl Int)) (b0:Nat) (r:Int),SlH H (cInt .i64) 3 x0 b0 → c x0 = some r → call ro 98 [(slV x0 b0)] H = some ((.int .i64 (r)),H,[])
abbrev T_cT:=Int → Int → Option (Int)
def A_f2 (call:CallF) (c:T_cT):Prop:=∀ (ro:Nat) (H:Hp) (x0:Int) (x1:Int) (r:Int),c x0 x1 = some r → call ro 99 [(.int .i64 x0),(.int .i64 x1)] H = some ((.int .i64 (r)),H,[])
abbrev T_ct:=Int → Int → Option (Int)
def A_fx (call:CallF) (c:T_ct):Prop:=∀ (ro:Nat) (H:Hp) (x0:Int) (x1:Int) (r:Int),c x0 x1 = some r → call ro 100 [(.int .i64 x0),(.int .i64 x1)] H = some ((.int .i64 (r)),H,[])
abbrev T_c8:=Int → (Sl Int) → Option (Int)
def A_ef (call:CallF) (c:T_c8):Prop:=∀ (ro:Nat) (H:Hp) (x0:Int) (x1:(Sl Int)) (b1:Nat) (s1:Nat) (r:Int),H[b1]? = some (.cells [slV x1 s1] 100) → SlH H (cInt .i64) 3 x1 s1 → c x0 x1 = some r → call ro 102 [(.int .i64 x0),(.pointer (some ⟨b1,0,none⟩))] H = some ((.int .i64 (r)),H,[])
abbrev T_fE:=Int → Int → (Sl Int) → (Sl Int) → Option (Int)
def A_fM (call:CallF) (c:T_fE):Prop:=∀ (ro:Nat) (H:Hp) (x0:Int) (x1:Int) (x2:(Sl Int)) (d2:Nat) (b2:Nat) (s2:Nat) (x3:(Sl Int)) (b3:Nat) (s3:Nat) (r:Int),H[d2]? = some (.cells [.func (.func 102) [].toArray [(.pointer (some ⟨b2,0,none⟩))].toArray] 99) → H[b2]? = some (.cells [slV x2 s2] 100) → SlH H (cInt .i64) 3 x2 s2 → H[b3]? = some (.cells [slV x3 s3] 100) → SlH H (cInt .i64) 3 x3 s3 → c x0 x1 x2 x3 = some r → call ro 104 [(.int .i64 x0),(.int .i64 x1),(.pointer (some ⟨d2,0,none⟩)),(.pointer (some ⟨b3,0,none⟩))] H = some ((.int .i64 (r)),H,[])
abbrev T_cn:=S_b → (Sl Int) → Option (Bool)
def A_d9 (call:CallF) (c:T_cn):Prop:=∀ (ro:Nat) (H:Hp) (x0:S_b) (x1:(Sl Int)) (b1:Nat) (s1:Nat) (r:Bool),H[b1]? = some (.cells [slV x1 s1] 100) → SlH H (cInt .i64) 3 x1 s1 → c x0 x1 = some r → call ro 105 [(vAgg (S_b.c x0)),(.pointer (some ⟨b1,0,none⟩))] H = some ((.bool (r)),H,[])
abbrev T_O:=(Sl S_b) → (Sl Int) → Option (Bool)
def A_cU (call:CallF) (c:T_O):Prop:=∀ (ro:Nat) (H:Hp) (x0:(Sl S_b)) (b0:Nat) (x1:(Sl Int)) (b1:Nat) (s1:Nat) (r:Bool),SlH H S_b.c 72 x0 b0 → H[b1]? = some (.cells [slV x1 s1] 100) → SlH H (cInt .i64) 3 x1 s1 → c x0 x1 = some r → call ro 106 [(slV x0 b0),(.func (.func 105) [].toArray [(.pointer (some ⟨b1,0,none⟩))].toArray)] H = some ((.bool (r)),H,[])
abbrev T_da:=S_d → Option (S_d)
def A_eq (call:CallF) (c:T_da):Prop:=∀ (ro:Nat) (H:Hp) (x0:S_d) (r:S_d),c x0 = some r → call ro 113 [(vAgg (S_d.c x0))] H = some ((vAgg (S_d.c (r))),H,[])
abbrev T_cz:=S_d → Option (Int × Bool)
def A_en (call:CallF) (c:T_cz):Prop:=∀ (ro:Nat) (H:Hp) (x0:S_d) (r:Int × Bool),TabH1 H → c x0 = some r → call ro 120 [(vAgg (S_d.c x0))] H = some ((.tuple [(.int .u8 (r.1)),(.bool (r.2))].toArray),H,[])
abbrev T_bD:=S_a → Option (S_a)
def A_dS (call:CallF) (c:T_bD):Prop:=∀ (ro:Nat) (H:Hp) (x0:S_a) (r:S_a),c x0 = some r → call ro 121 [(vAgg (S_a.c x0))] H = some ((vAgg (S_a.c (r))),H,[])
abbrev T_di:=S_b → Option (S_b)
def A_ep (call:CallF) (c:T_di):Prop:=∀ (ro:Nat) (H:Hp) (x0:S_b) (r:S_b),c x0 = some r → call ro 124 [(vAgg (S_b.c x0))] H = some ((vAgg (S_b.c (r))),H,[])
abbrev T_bV:=(Sl S_b) → (Sl Int) → Option (Int)
def A_cV (call:CallF) (c:T_bV):Prop:=∀ (ro:Nat) (H:Hp) (x0:(Sl S_b)) (b0:Nat) (x1:(Sl Int)) (b1:Nat) (s1:Nat) (r:Int),SlH H S_b.c 72 x0 b0 → H[b1]? = some (.cells [slV x1 s1] 100) → SlH H (cInt .i64) 3 x1 s1 → c x0 x1 = some r → call ro 138 [(slV x0 b0),(.func (.func 105) [].toArray [(.pointer (some ⟨b1,0,none⟩))].toArray)] H = some ((.int .i64 (r)),H,[])
abbrev T_bw:=Int → Option (Int)
def A_cZ (call:CallF) (c:T_bw):Prop:=∀ (ro:Nat) (H:Hp) (x0:Int) (r:Int),TabH1 H → c x0 = some r → call ro 152 [(.int .u64 x0)] H = some ((.int .i64 (r)),H,[])
abbrev T_c5:=Option (Bool)
def A_eY (call:CallF) (c:T_c5):Prop:=∀ (ro:Nat) (H:Hp) (r:Bool),TabH1 H → c = some r → call ro 29 [] H = some ((.bool (r)),H,[])
abbrev T_dw:=S_b → Option (S_b)
def A_eI (call:CallF) (c:T_dw):Prop:=∀ (ro:Nat) (H:Hp) (x0:S_b) (r:S_b),c x0 = some r → call ro 125 [(vAgg (S_b.c x0))] H = some ((vAgg (S_b.c (r))),H,[])
end Go.Proofs.YtaadjlpfdajggaaGreatDoor
