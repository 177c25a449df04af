import Derived.Test.YtaadjlpfdajggaaGreatDoorFgTy
import Derived.Test.YtaadjlpfdajggaaGreatDoorFgAm26
set_option maxRecDepth 100000
set_option linter.unusedVariables false
set_option linter.unusedSimpArgs false
namespace Go.Proofs.YtaadjlpfdajggaaGreatDoor
open Go Go.AM
theorem F9d:Mt.F 9 = some C.f9:=rfl
theorem F18d:Mt.F 18 = some C.f18:=rfl
theorem F18:(Mt.F 18).isSome = true:=rfl
theorem F26d:Mt.F 26 = some C.f26:=rfl
theorem F26:(Mt.F 26).isSome = true:=rfl
theorem F34d:Mt.F 34 = some C.f34:=rfl
theorem F34:(Mt.F 34).isSome = true:=rfl
theorem F35d:Mt.F 35 = some C.f35:=rfl
theorem F35:(Mt.F 35).isSome = true:=rfl
theorem F38d:Mt.F 38 = some C.f38:=rfl
theorem F38:(Mt.F 38).isSome = true:=rfl
theorem F40d:Mt.F 40 = some C.f40:=rfl
theorem F40:(Mt.F 40).isSome = true:=rfl
theorem F44d:Mt.F 44 = some C.f44:=rfl
theorem F44:(Mt.F 44).isSome = true:=rfl
theorem F57d:Mt.F 57 = some C.f57:=rfl
theorem F57:(Mt.F 57).isSome = true:=rfl
theorem F62d:Mt.F 62 = some C.f62:=rfl
theorem F62:(Mt.F 62).isSome = true:=rfl
theorem F63d:Mt.F 63 = some C.f63:=rfl
theorem F63:(Mt.F 63).isSome = true:=rfl
theorem F64d:Mt.F 64 = some C.f64:=rfl
theorem F64:(Mt.F 64).isSome = true:=rfl
theorem F65d:Mt.F 65 = some C.f65:=rfl
theorem F65:(Mt.F 65).isSome = true:=rfl
theorem F66d:Mt.F 66 = some C.f66:=rfl
theorem F66:(Mt.F 66).isSome = true:=rfl
theorem F68d:Mt.F 68 = some C.f68:=rfl
theorem F68:(Mt.F 68).isSome = true:=rfl
theorem F72d:Mt.F 72 = some C.f72:=rfl
theorem F72:(Mt.F 72).isSome = true:=rfl
theorem F86d:Mt.F 86 = some C.f86:=rfl
theorem F86:(Mt.F 86).isSome = true:=rfl
theorem F87d:Mt.F 87 = some C.f87:=rfl
theorem F87:(Mt.F 87).isSome = true:=rfl
theorem F88d:Mt.F 88 = some C.f88:=rfl
theorem F88:(Mt.F 88).isSome = true:=rfl
theorem F89d:Mt.F 89 = some C.f89:=rfl
theorem F89:(Mt.F 89).isSome = true:=rfl
theorem F90d:Mt.F 90 = some C.f90:=rfl
theorem F90:(Mt.F 90).isSome = true:=rfl
theorem F91d:Mt.F 91 = some C.f91:=rfl
theorem F91:(Mt.F 91).isSome = true:=rfl
theorem F97d:Mt.F 97 = some C.f97:=rfl
theorem F97:(Mt.F 97).isSome = true:=rfl
theorem F98d:Mt.F 98 = some C.f98:=rfl
theorem F98:(Mt.F 98).isSome = true:=rfl
theorem F99d:Mt.F 99 = some C.f99:=rfl
theorem F99:(Mt.F 99).isSome = true:=rfl
theorem F100d:Mt.F 100 = some C.f100:=rfl
theorem F100:(Mt.F 100).isSome = true:=rfl
theorem F102d:Mt.F 102 = some C.f102:=rfl
theorem F102:(Mt.F 102).isSome = true:=rfl
theorem F104d:Mt.F 104 = some C.f104:=rfl
theorem F105d:Mt.F 105 = some C.f105:=rfl
theorem F105:(Mt.F 105).isSome = true:=rfl
theorem F106d:Mt.F 106 = some C.f106:=rfl
theorem F106:(Mt.F 106).isSome = true:=rfl
theorem F113d:Mt.F 113 = some C.f113:=rfl
theorem F113:(Mt.F 113).isSome = true:=rfl
theorem F120d:Mt.F 120 = some C.f120:=rfl
theorem F120:(Mt.F 120).isSome = true:=rfl
theorem F121d:Mt.F 121 = some C.f121:=rfl
theorem F121:(Mt.F 121).isSome = true:=rfl
theorem F124d:Mt.F 124 = some C.f124:=rfl
theorem F124:(Mt.F 124).isSome = true:=rfl
theorem F138d:Mt.F 138 = some C.f138:=rfl
theorem F138:(Mt.F 138).isSome = true:=rfl
theorem F152d:Mt.F 152 = some C.f152:=rfl
theorem F152:(Mt.F 152).isSome = true:=rfl
theorem F29:(Mt.F 29).isSome = true:=rfl
theorem F125:(Mt.F 125).isSome = true:=rfl
theorem F103:(Mt.F 103).isSome = true:=rfl
theorem bd25_ {H:Hp} :bdP Mt H 25 [] = some (.val (vAgg (class_Set.c class_Set.zero)),H):=bd_struct zs25 pl25 fill_nil
theorem bd54_ {H:Hp} :bdP Mt H 54 [] = some (.val (vAgg (facts_Facts.c facts_Facts.zero)),H):=bd_struct zs54 pl54 fill_nil
theorem bd54_0 {H:Hp} {y0:class_Set}:bdP Mt H 54 [(0,vAgg (class_Set.c y0))] = some (.val (vAgg (facts_Facts.c ({ facts_Facts.zero with f_First:=y0 }:facts_Facts))),H):=bd_struct zs54 pl54 ((fill_cons (v:=vAgg (class_Set.c y0)) (c:=class_Set.c y0) rfl vAgg_cells (class_Set.enc.len _) (by rw [facts_Facts.enc.len]; decide) (facts_Facts.wr0 facts_Facts.zero y0)).trans fill_nil)
theorem bd54_0_1 {H:Hp} {y0:class_Set} {y1:Bool}:bdP Mt H 54 [(0,vAgg (class_Set.c y0)),(1,.bool y1)] = some (.val (vAgg (facts_Facts.c ({ facts_Facts.zero with f_First:=y0,f_Open:=y1 }:facts_Facts))),H):=bd_struct zs54 pl54 ((fill_cons (v:=vAgg (class_Set.c y0)) (c:=class_Set.c y0) rfl vAgg_cells (class_Set.enc.len _) (by rw [facts_Facts.enc.len]; decide) (facts_Facts.wr0 facts_Facts.zero y0)).trans ((fill_cons (v:=.bool y1) (c:=cBool y1) rfl rfl (enc_bool.len _) (by rw [facts_Facts.enc.len]; decide) (facts_Facts.wr1 ({ facts_Facts.zero with f_First:=y0 }) y1)).trans fill_nil))
theorem bd54_0_1_2_3 {H:Hp} {y0:class_Set} {y1:Bool} {y2:Bool} {y3:ByteArray}:bdP Mt H 54 [(0,vAgg (class_Set.c y0)),(1,.bool y1),(2,.bool y2),(3,.string y3)] = some (.val (vAgg (facts_Facts.c ({ facts_Facts.zero with f_First:=y0,f_Open:=y1,f_Fast:=y2,f_Prefix:=y3 }:facts_Facts))),H):=bd_struct zs54 pl54 ((fill_cons (v:=vAgg (class_Set.c y0)) (c:=class_Set.c y0) rfl vAgg_cells (class_Set.enc.len _) (by rw [facts_Facts.enc.len]; decide) (facts_Facts.wr0 facts_Facts.zero y0)).trans ((fill_cons (v:=.bool y1) (c:=cBool y1) rfl rfl (enc_bool.len _) (by rw [facts_Facts.enc.len]; decide) (facts_Facts.wr1 ({ facts_Facts.zero with f_First:=y0 }) y1)).trans ((fill_cons (v:=.bool y2) (c:=cBool y2) rfl rfl (enc_bool.len _) (by rw [facts_Facts.enc.len]; decide) (facts_Facts.wr2 ({ { facts_Facts.zero with f_First:=y0 } with f_Open:=y1 }) y2)).trans ((fill_cons (v:=.string y3) (c:=cStr y3) rfl rfl (enc_str.len _) (by rw [facts_Facts.enc.len]; decide) (facts_Facts.wr3 ({ { { facts_Facts.zero with f_First:=y0 } with f_Open:=y1 } with f_Fast:=y2 }) y3)).trans fill_nil))))
theorem bd54_1 {H:Hp} {y1:Bool}:bdP Mt H 54 [(1,.bool y1)] = some (.val (vAgg (facts_Facts.c ({ facts_Facts.zero with f_Open:=y1 }:facts_Facts))),H):=bd_struct zs54 pl54 ((fill_cons (v:=.bool y1) (c:=cBool y1) rfl rfl (enc_bool.len _) (by rw [facts_Facts.enc.len]; decide) (facts_Facts.wr1 facts_Facts.zero y1)).trans fill_nil)
theorem bd107_0 {H:Hp} {y0:facts_Facts}:bdP Mt H 107 [(0,vAgg (facts_Facts.c y0))] = some (.val (vAgg (facts_known.c ({ facts_known.zero with f_Facts:=y0 }:facts_known))),H):=bd_struct zs107 pl107 ((fill_cons (v:=vAgg (facts_Facts.c y0)) (c:=facts_Facts.c y0) rfl vAgg_cells (facts_Facts.enc.len _) (by rw [facts_known.enc.len]; decide) (facts_known.wr0 facts_known.zero y0)).trans fill_nil)
theorem bd107_0_1_2 {H:Hp} {y0:facts_Facts} {y1:Bool} {y2:Bool}:bdP Mt H 107 [(0,vAgg (facts_Facts.c y0)),(1,.bool y1),(2,.bool y2)] = some (.val (vAgg (facts_known.c ({ facts_known.zero with f_Facts:=y0,f_whole:=y1,f_none:=y2 }:facts_known))),H):=bd_struct zs107 pl107 ((fill_cons (v:=vAgg (facts_Facts.c y0)) (c:=facts_Facts.c y0) rfl vAgg_cells (facts_Facts.enc.len _) (by rw [facts_known.enc.len]; decide) (facts_known.wr0 facts_known.zero y0)).trans ((fill_cons (v:=.bool y1) (c:=cBool y1) rfl rfl (enc_bool.len _) (by rw [facts_known.enc.len]; decide) (facts_known.wr1 ({ facts_known.zero with f_Facts:=y0 }) y1)).trans ((fill_cons (v:=.bool y2) (c:=cBool y2) rfl rfl (enc_bool.len _) (by rw [facts_known.enc.len]; decide) (facts_known.wr2 ({ { facts_known.zero with f_Facts:=y0 } with f_whole:=y1 }) y2)).trans fill_nil)))
def TabH1 (H:Hp):Prop:=H[1]? = some (.tab (tabInts.map (Value.int .u8)))
theorem tabIv1 {r:Nat} {X:List Nat} {H0 H:Hp} (h:Iv r X H0 H) (hr:r = H0.length) (hG:TabH1 H0) (hX:1 ∉ X:=by simp):TabH1 H:=(h.old 1 (by rw [hr]; exact get_lt hG) hX).trans hG
def tabN1 (j:Nat):Int:=tabInts.getD j 0
theorem tabG1 {j:Nat} (h:j < 64):(tabInts.map (Value.int .u8))[0 + j * 1]? = some (.int .u8 (tabN1 j)):=by
 rw [Nat.zero_add,Nat.mul_one,List.getElem?_map]
 have:j < tabInts.length:=h
 simp [tabN1,List.getD_eq_getElem?_getD,List.getElem?_eq_getElem this]
abbrev T_slices_SortFunc_int_int:=Sl Int → Sl Int → Option (Sl Int)
def A_slices_SortFunc_int_int (call:CallF) (c:T_slices_SortFunc_int_int):Prop:=∀ (ro nb:Nat) (H:Hp) (x0:Sl Int) (b0:Nat) (x1:Sl Int) (d1 b1 s1:Nat) (r:Sl Int),ro ≤ nb → SlO nb H (cInt .i64) 3 x0 b0 → H[d1]? = some (.cells [.func (.func 102) [].toArray [(.pointer (some ⟨b1,0,none⟩))].toArray] 99) → H[b1]? = some (.cells [slV x1 s1] 100) → SlH H (cInt .i64) 3 x1 s1 → (x0 ≠ none → b0 ≠ d1) → (x0 ≠ none → b0 ≠ b1) → (x0 ≠ none → x1 ≠ none → b0 ≠ s1) → c x0 x1 = some r →
 ∃ H',call ro 103 [slV x0 b0,(.func (.func 104) [].toArray [(.pointer (some ⟨d1,0,none⟩)),(.pointer (some ⟨b1,0,none⟩))].toArray)] H = some (.tuple [].toArray,H',[]) ∧ SlO nb H' (cInt .i64) 3 r b0 ∧ UpS (x0 ≠ none) b0 H H' ∧ (∀ b,slV r b = slV x0 b) ∧ ((r ≠ none) = (x0 ≠ none)) ∧ (Sl.l r).length = (Sl.l x0).length
def ownS (n:ast_Node):ast_Node :=
 if n.f_Kind = 1 then { ast_Node.zero with f_Kind:=n.f_Kind,f_Set:=n.f_Set }
 else if n.f_Kind = 10 then { ast_Node.zero with f_Kind:=n.f_Kind,f_Min:=n.f_Min,f_Max:=n.f_Max,f_Mode:=n.f_Mode }
 else if n.f_Kind = 11 then { ast_Node.zero with f_Kind:=n.f_Kind,f_N:=n.f_N }
 else if n.f_Kind = 12 then { ast_Node.zero with f_Kind:=n.f_Kind,f_N:=n.f_N,f_Fold:=n.f_Fold }
 else { ast_Node.zero with f_Kind:=n.f_Kind }
abbrev T_law05_Cut:=(Sl ast_Node) → Int → Option ((Sl ast_Node))
def A_law05_Cut (call:CallF) (c:T_law05_Cut):Prop:=∀ (ro:Nat) (H:Hp) (x0:(Sl ast_Node)) (b0:Nat) (x1:Int) (r:(Sl ast_Node)),SlH H ast_Node.c 72 x0 b0 → c x0 x1 = some r → call ro 18 [(vAgg [slV x0 b0]),(.int .i64 x1)] H = some ((vAgg [slV r b0]),H,[]) ∧ (r ≠ none → x0 ≠ none) ∧ ∀ (H:Hp) (b:Nat),SlH H ast_Node.c 72 x0 b → SlH H ast_Node.c 72 r b
abbrev T_facts_Of:=(Sl ast_Node) → Option (facts_Facts × Int)
def A_facts_Of (call:CallF) (c:T_facts_Of):Prop:=∀ (ro:Nat) (H:Hp) (x0:(Sl ast_Node)) (b0:Nat) (r:facts_Facts × Int),SlH H ast_Node.c 72 x0 b0 → TabH1 H → c x0 = some r → call ro 26 [(vAgg [slV x0 b0])] H = some ((.tuple [(vAgg (facts_Facts.c (r.1))),(.int .i64 (r.2))].toArray),H,[])
abbrev T_ast_Len:=(Sl ast_Node) → Int → Option (Int × Int × Int)
def A_ast_Len (call:CallF) (c:T_ast_Len):Prop:=∀ (ro:Nat) (H:Hp) (x0:(Sl ast_Node)) (b0:Nat) (x1:Int) (r:Int × Int × Int),SlH H ast_Node.c 72 x0 b0 → c x0 x1 = some r → call ro 34 [(vAgg [slV x0 b0]),(.int .i64 x1)] H = some ((.tuple [(.int .i64 (r.1)),(.int .i64 (r.2.1)),(.int .i64 (r.2.2))].toArray),H,[])
abbrev T_class_Set_Has:=class_Set → Int → Option (Bool)
def A_class_Set_Has (call:CallF) (c:T_class_Set_Has):Prop:=∀ (ro:Nat) (H:Hp) (x0:class_Set) (x1:Int) (r:Bool),c x0 x1 = some r → call ro 35 [(vAgg (class_Set.c x0)),(.int .u8 x1)] H = some ((.bool (r)),H,[])
abbrev T_class_Set_Or:=class_Set → class_Set → Option (class_Set)
def A_class_Set_Or (call:CallF) (c:T_class_Set_Or):Prop:=∀ (ro:Nat) (H:Hp) (x0:class_Set) (x1:class_Set) (r:class_Set),c x0 x1 = some r → call ro 38 [(vAgg (class_Set.c x0)),(vAgg (class_Set.c x1))] H = some ((vAgg (class_Set.c (r))),H,[])
abbrev T_ast_Right:=(Sl ast_Node) → Option (Int)
def A_ast_Right (call:CallF) (c:T_ast_Right):Prop:=∀ (ro:Nat) (H:Hp) (x0:(Sl ast_Node)) (b0:Nat) (r:Int),SlH H ast_Node.c 72 x0 b0 → c x0 = some r → call ro 40 [(vAgg [slV x0 b0])] H = some ((.int .i64 (r)),H,[])
abbrev T_class_Set_Len:=class_Set → Option (Int)
def A_class_Set_Len (call:CallF) (c:T_class_Set_Len):Prop:=∀ (ro:Nat) (H:Hp) (x0:class_Set) (r:Int),c x0 = some r → call ro 44 [(vAgg (class_Set.c x0))] H = some ((.int .i64 (r)),H,[])
abbrev T_facts_all:=(Sl ast_Node) → Option ((Sl facts_known))
def A_facts_all (call:CallF) (c:T_facts_all):Prop:=∀ (ro:Nat) (H:Hp) (x0:(Sl ast_Node)) (b0:Nat) (r:(Sl facts_known)),SlH H ast_Node.c 72 x0 b0 → TabH1 H → c x0 = some r → call ro 57 [(vAgg [slV x0 b0])] H = some ((slV r H.length),(H ++ slB facts_known.c 107 r),[])
abbrev T_ast_sizes:=(Sl ast_Node) → Option ((Sl Int) × Bool)
def A_ast_sizes (call:CallF) (c:T_ast_sizes):Prop:=∀ (ro:Nat) (H:Hp) (x0:(Sl ast_Node)) (b0:Nat) (r:(Sl Int) × Bool),SlH H ast_Node.c 72 x0 b0 → c x0 = some r → call ro 62 [(vAgg [slV x0 b0])] H = some ((.tuple [(slV r.1 H.length),(.bool (r.2))].toArray),(H ++ slB (cInt .i64) 3 r.1),[])
abbrev T_ast_depths:=(Sl ast_Node) → Option ((Sl Int))
def A_ast_depths (call:CallF) (c:T_ast_depths):Prop:=∀ (ro:Nat) (H:Hp) (x0:(Sl ast_Node)) (b0:Nat) (r:(Sl Int)),SlH H ast_Node.c 72 x0 b0 → c x0 = some r → call ro 63 [(vAgg [slV x0 b0])] H = some ((slV r H.length),(H ++ slB (cInt .i64) 3 r),[])
abbrev T_ast_formed:=(Sl ast_Node) → Option (Int)
def A_ast_formed (call:CallF) (c:T_ast_formed):Prop:=∀ (ro:Nat) (H:Hp) (x0:(Sl ast_Node)) (b0:Nat) (r:Int),SlH H ast_Node.c 72 x0 b0 → c x0 = some r → call ro 64 [(vAgg [slV x0 b0])] H = some ((.int .i64 (r)),H,[])
abbrev T_ast_lens:=(Sl ast_Node) → Option ((Sl Int) × (Sl Int))
def A_ast_lens (call:CallF) (c:T_ast_lens):Prop:=∀ (ro:Nat) (H:Hp) (x0:(Sl ast_Node)) (b0:Nat) (r:(Sl Int) × (Sl Int)),SlH H ast_Node.c 72 x0 b0 → c x0 = some r → call ro 65 [(vAgg [slV x0 b0])] H = some ((.tuple [(slV r.1 H.length),(slV r.2 (H.length + (slB (cInt .i64) 3 r.1).length))].toArray),(H ++ (slB (cInt .i64) 3 r.1 ++ slB (cInt .i64) 3 r.2)),[])
abbrev T_ast_kids:=Int → Option (Int)
def A_ast_kids (call:CallF) (c:T_ast_kids):Prop:=∀ (ro:Nat) (H:Hp) (x0:Int) (r:Int),c x0 = some r → call ro 66 [(.int .i64 x0)] H = some ((.int .i64 (r)),H,[])
abbrev T_ast_grouped:=(Sl ast_Node) → Option (Bool)
def A_ast_grouped (call:CallF) (c:T_ast_grouped):Prop:=∀ (ro:Nat) (H:Hp) (x0:(Sl ast_Node)) (b0:Nat) (r:Bool),SlH H ast_Node.c 72 x0 b0 → c x0 = some r → call ro 68 [(vAgg [slV x0 b0])] H = some ((.bool (r)),H,[])
abbrev T_bits_OnesCount64:=Int → Option (Int)
def A_bits_OnesCount64 (call:CallF) (c:T_bits_OnesCount64):Prop:=∀ (ro:Nat) (H:Hp) (x0:Int) (r:Int),c x0 = some r → call ro 72 [(.int .u64 x0)] H = some ((.int .i64 (r)),H,[])
abbrev T_facts_bytes:=class_Set → Option (facts_known)
def A_facts_bytes (call:CallF) (c:T_facts_bytes):Prop:=∀ (ro:Nat) (H:Hp) (x0:class_Set) (r:facts_known),TabH1 H → c x0 = some r → call ro 86 [(vAgg (class_Set.c x0))] H = some ((vAgg (facts_known.c (r))),H,[])
abbrev T_facts_nothing:=Option (facts_known)
def A_facts_nothing (call:CallF) (c:T_facts_nothing):Prop:=∀ (ro:Nat) (H:Hp) (r:facts_known),c = some r → call ro 87 [] H = some ((vAgg (facts_known.c (r))),H,[])
abbrev T_class_All:=Option (class_Set)
def A_class_All (call:CallF) (c:T_class_All):Prop:=∀ (ro:Nat) (H:Hp) (r:class_Set),c = some r → call ro 88 [] H = some ((vAgg (class_Set.c (r))),H,[])
abbrev T_facts_cat:=facts_known → facts_known → Option (facts_known)
def A_facts_cat (call:CallF) (c:T_facts_cat):Prop:=∀ (ro:Nat) (H:Hp) (x0:facts_known) (x1:facts_known) (r:facts_known),c x0 x1 = some r → call ro 89 [(vAgg (facts_known.c x0)),(vAgg (facts_known.c x1))] H = some ((vAgg (facts_known.c (r))),H,[])
abbrev T_facts_alt:=facts_known → facts_known → Option (facts_known)
def A_facts_alt (call:CallF) (c:T_facts_alt):Prop:=∀ (ro:Nat) (H:Hp) (x0:facts_known) (x1:facts_known) (r:facts_known),c x0 x1 = some r → call ro 90 [(vAgg (facts_known.c x0)),(vAgg (facts_known.c x1))] H = some ((vAgg (facts_known.c (r))),H,[])
abbrev T_facts_repeat:=ast_Node → facts_known → Option (facts_known)
def A_facts_repeat (call:CallF) (c:T_facts_repeat):Prop:=∀ (ro:Nat) (H:Hp) (x0:ast_Node) (x1:facts_known) (r:facts_known),c x0 x1 = some r → call ro 91 [(vAgg (ast_Node.c x0)),(vAgg (facts_known.c x1))] H = some ((vAgg (facts_known.c (r))),H,[])
abbrev T_ast_Node_fits:=ast_Node → Option (Bool)
def A_ast_Node_fits (call:CallF) (c:T_ast_Node_fits):Prop:=∀ (ro:Nat) (H:Hp) (x0:ast_Node) (r:Bool),c x0 = some r → call ro 97 [(vAgg (ast_Node.c x0))] H = some ((.bool (r)),H,[])
abbrev T_slices_Max_int_int:=(Sl Int) → Option (Int)
def A_slices_Max_int_int (call:CallF) (c:T_slices_Max_int_int):Prop:=∀ (ro:Nat) (H:Hp) (x0:(Sl Int)) (b0:Nat) (r:Int),SlH H (cInt .i64) 3 x0 b0 → c x0 = some r → call ro 98 [(slV x0 b0)] H = some ((.int .i64 (r)),H,[])
abbrev T_ast_plus:=Int → Int → Option (Int)
def A_ast_plus (call:CallF) (c:T_ast_plus):Prop:=∀ (ro:Nat) (H:Hp) (x0:Int) (x1:Int) (r:Int),c x0 x1 = some r → call ro 99 [(.int .i64 x0),(.int .i64 x1)] H = some ((.int .i64 (r)),H,[])
abbrev T_ast_times:=Int → Int → Option (Int)
def A_ast_times (call:CallF) (c:T_ast_times):Prop:=∀ (ro:Nat) (H:Hp) (x0:Int) (x1:Int) (r:Int),c x0 x1 = some r → call ro 100 [(.int .i64 x0),(.int .i64 x1)] H = some ((.int .i64 (r)),H,[])
abbrev T_ast_grouped_c1:=Int → (Sl Int) → Option (Int)
def A_ast_grouped_c1 (call:CallF) (c:T_ast_grouped_c1):Prop:=∀ (ro:Nat) (H:Hp) (x0:Int) (x1:(Sl Int)) (b1:Nat) (s1:Nat) (r:Int),H[b1]? = some (.cells [slV x1 s1] 100) → SlH H (cInt .i64) 3 x1 s1 → c x0 x1 = some r → call ro 102 [(.int .i64 x0),(.pointer (some ⟨b1,0,none⟩))] H = some ((.int .i64 (r)),H,[])
abbrev T_ast_grouped_c2:=Int → Int → (Sl Int) → (Sl Int) → Option (Int)
def A_ast_grouped_c2 (call:CallF) (c:T_ast_grouped_c2):Prop:=∀ (ro:Nat) (H:Hp) (x0:Int) (x1:Int) (x2:(Sl Int)) (d2:Nat) (b2:Nat) (s2:Nat) (x3:(Sl Int)) (b3:Nat) (s3:Nat) (r:Int),H[d2]? = some (.cells [.func (.func 102) [].toArray [(.pointer (some ⟨b2,0,none⟩))].toArray] 99) → H[b2]? = some (.cells [slV x2 s2] 100) → SlH H (cInt .i64) 3 x2 s2 → H[b3]? = some (.cells [slV x3 s3] 100) → SlH H (cInt .i64) 3 x3 s3 → c x0 x1 x2 x3 = some r → call ro 104 [(.int .i64 x0),(.int .i64 x1),(.pointer (some ⟨d2,0,none⟩)),(.pointer (some ⟨b3,0,none⟩))] H = some ((.int .i64 (r)),H,[])
abbrev T_ast_grouped_c3:=ast_Node → (Sl Int) → Option (Bool)
def A_ast_grouped_c3 (call:CallF) (c:T_ast_grouped_c3):Prop:=∀ (ro:Nat) (H:Hp) (x0:ast_Node) (x1:(Sl Int)) (b1:Nat) (s1:Nat) (r:Bool),H[b1]? = some (.cells [slV x1 s1] 100) → SlH H (cInt .i64) 3 x1 s1 → c x0 x1 = some r → call ro 105 [(vAgg (ast_Node.c x0)),(.pointer (some ⟨b1,0,none⟩))] H = some ((.bool (r)),H,[])
abbrev T_ast_Node_ast_Node_106:=(Sl ast_Node) → (Sl Int) → Option (Bool)
def A_ast_Node_ast_Node_106 (call:CallF) (c:T_ast_Node_ast_Node_106):Prop:=∀ (ro:Nat) (H:Hp) (x0:(Sl ast_Node)) (b0:Nat) (x1:(Sl Int)) (b1:Nat) (s1:Nat) (r:Bool),SlH H ast_Node.c 72 x0 b0 → H[b1]? = some (.cells [slV x1 s1] 100) → SlH H (cInt .i64) 3 x1 s1 → c x0 x1 = some r → call ro 106 [(slV x0 b0),(.func (.func 105) [].toArray [(.pointer (some ⟨b1,0,none⟩))].toArray)] H = some ((.bool (r)),H,[])
abbrev T_class_Set_Not:=class_Set → Option (class_Set)
def A_class_Set_Not (call:CallF) (c:T_class_Set_Not):Prop:=∀ (ro:Nat) (H:Hp) (x0:class_Set) (r:class_Set),c x0 = some r → call ro 113 [(vAgg (class_Set.c x0))] H = some ((vAgg (class_Set.c (r))),H,[])
abbrev T_class_Set_Min:=class_Set → Option (Int × Bool)
def A_class_Set_Min (call:CallF) (c:T_class_Set_Min):Prop:=∀ (ro:Nat) (H:Hp) (x0:class_Set) (r:Int × Bool),TabH1 H → c x0 = some r → call ro 120 [(vAgg (class_Set.c x0))] H = some ((.tuple [(.int .u8 (r.1)),(.bool (r.2))].toArray),H,[])
abbrev T_facts_known_cut:=facts_known → Option (facts_known)
def A_facts_known_cut (call:CallF) (c:T_facts_known_cut):Prop:=∀ (ro:Nat) (H:Hp) (x0:facts_known) (r:facts_known),c x0 = some r → call ro 121 [(vAgg (facts_known.c x0))] H = some ((vAgg (facts_known.c (r))),H,[])
abbrev T_ast_Node_bare:=ast_Node → Option (ast_Node)
def A_ast_Node_bare (call:CallF) (c:T_ast_Node_bare):Prop:=∀ (ro:Nat) (H:Hp) (x0:ast_Node) (r:ast_Node),c x0 = some r → call ro 124 [(vAgg (ast_Node.c x0))] H = some ((vAgg (ast_Node.c (r))),H,[])
abbrev T_ast_Node_ast_Node_138:=(Sl ast_Node) → (Sl Int) → Option (Int)
def A_ast_Node_ast_Node_138 (call:CallF) (c:T_ast_Node_ast_Node_138):Prop:=∀ (ro:Nat) (H:Hp) (x0:(Sl ast_Node)) (b0:Nat) (x1:(Sl Int)) (b1:Nat) (s1:Nat) (r:Int),SlH H ast_Node.c 72 x0 b0 → H[b1]? = some (.cells [slV x1 s1] 100) → SlH H (cInt .i64) 3 x1 s1 → c x0 x1 = some r → call ro 138 [(slV x0 b0),(.func (.func 105) [].toArray [(.pointer (some ⟨b1,0,none⟩))].toArray)] H = some ((.int .i64 (r)),H,[])
abbrev T_bits_TrailingZeros64:=Int → Option (Int)
def A_bits_TrailingZeros64 (call:CallF) (c:T_bits_TrailingZeros64):Prop:=∀ (ro:Nat) (H:Hp) (x0:Int) (r:Int),TabH1 H → c x0 = some r → call ro 152 [(.int .u64 x0)] H = some ((.int .i64 (r)),H,[])
abbrev T_law09_fixed:=Option (Bool)
def A_law09_fixed (call:CallF) (c:T_law09_fixed):Prop:=∀ (ro:Nat) (H:Hp) (r:Bool),TabH1 H → c = some r → call ro 29 [] H = some ((.bool (r)),H,[])
abbrev T_ast_Node_own:=ast_Node → Option (ast_Node)
def A_ast_Node_own (call:CallF) (c:T_ast_Node_own):Prop:=∀ (ro:Nat) (H:Hp) (x0:ast_Node) (r:ast_Node),c x0 = some r → call ro 125 [(vAgg (ast_Node.c x0))] H = some ((vAgg (ast_Node.c (r))),H,[])
end Go.Proofs.YtaadjlpfdajggaaGreatDoor
