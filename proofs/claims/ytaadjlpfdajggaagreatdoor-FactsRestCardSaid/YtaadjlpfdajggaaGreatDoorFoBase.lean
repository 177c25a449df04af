import Derived.Test.YtaadjlpfdajggaaGreatDoorFoTy
import Derived.Test.YtaadjlpfdajggaaGreatDoorAm22
set_option maxRecDepth 100000
set_option linter.unusedVariables false
set_option linter.unusedSimpArgs false
namespace Go.Proofs.YtaadjlpfdajggaaGreatDoor
open Go Go.AM
theorem F6d : Mt.F 6 = some C.f6 := rfl
theorem F6 : (Mt.F 6).isSome = true := rfl
theorem F7d : Mt.F 7 = some C.f7 := rfl
theorem F7 : (Mt.F 7).isSome = true := rfl
theorem F28d : Mt.F 28 = some C.f28 := rfl
theorem F28 : (Mt.F 28).isSome = true := rfl
theorem F30d : Mt.F 30 = some C.f30 := rfl
theorem F30 : (Mt.F 30).isSome = true := rfl
theorem F31d : Mt.F 31 = some C.f31 := rfl
theorem F31 : (Mt.F 31).isSome = true := rfl
theorem F35d : Mt.F 35 = some C.f35 := rfl
theorem F35 : (Mt.F 35).isSome = true := rfl
theorem F59d : Mt.F 59 = some C.f59 := rfl
theorem F59 : (Mt.F 59).isSome = true := rfl
theorem F61d : Mt.F 61 = some C.f61 := rfl
theorem F61 : (Mt.F 61).isSome = true := rfl
theorem F96d : Mt.F 96 = some C.f96 := rfl
theorem F96 : (Mt.F 96).isSome = true := rfl
theorem F29 : (Mt.F 29).isSome = true := rfl
theorem bd54_1 {H : Hp} {y1 : Bool} : bdP Mt H 54 [(1, .bool y1)] = some (.val (vAgg (facts_Facts.c ({ facts_Facts.zero with f_Open := y1 } : facts_Facts))), H) := bd_struct zs54 pl54 ((fill_cons (v := .bool y1) (c := cBool y1) rfl rfl (enc_bool.len _) (by rw [facts_Facts.enc.len]; decide) (facts_Facts.wr1 facts_Facts.zero y1)).trans fill_nil)
theorem bd59_ {H : Hp}  : bdP Mt H 59 [] = some (.val (vAgg (ref01_Set.c ref01_Set.zero)), H) := bd_struct zs59 pl59 fill_nil
theorem bd61_0_1_2_3 {H : Hp} {y0 : ref01_Set} {y1 : Bool} {y2 : Bool} {y3 : ByteArray} : bdP Mt H 61 [(0, vAgg (ref01_Set.c y0)), (1, .bool y1), (2, .bool y2), (3, .string y3)] = some (.val (vAgg (ref09_Facts.c ({ ref09_Facts.zero with f_First := y0, f_Open := y1, f_Fast := y2, f_Prefix := y3 } : ref09_Facts))), H) := bd_struct zs61 pl61 ((fill_cons (v := vAgg (ref01_Set.c y0)) (c := ref01_Set.c y0) rfl vAgg_cells (ref01_Set.enc.len _) (by rw [ref09_Facts.enc.len]; decide) (ref09_Facts.wr0 ref09_Facts.zero y0)).trans ((fill_cons (v := .bool y1) (c := cBool y1) rfl rfl (enc_bool.len _) (by rw [ref09_Facts.enc.len]; decide) (ref09_Facts.wr1 ({ ref09_Facts.zero with f_First := y0 }) y1)).trans ((fill_cons (v := .bool y2) (c := cBool y2) rfl rfl (enc_bool.len _) (by rw [ref09_Facts.enc.len]; decide) (ref09_Facts.wr2 ({ { ref09_Facts.zero with f_First := y0 } with f_Open := y1 }) y2)).trans ((fill_cons (v := .string y3) (c := cStr y3) rfl rfl (enc_str.len _) (by rw [ref09_Facts.enc.len]; decide) (ref09_Facts.wr3 ({ { { ref09_Facts.zero with f_First := y0 } with f_Open := y1 } with f_Fast := y2 }) y3)).trans fill_nil))))
def ixByte (s : ByteArray) (c : Int) : Int := Lib.indexByte s.data.toList c.toNat.toUInt8
theorem x167 {H : Hp} {s : ByteArray} {c : Int} : xP Mt H 167 [.string s, .int .u8 c] = some (.val (.int .i64 (ixByte s c)), H) := rfl
def TabH1 (H : Hp) : Prop := H[1]? = some (.tab (tabInts.map (Value.int .u8)))
theorem tabIv1 {r : Nat} {X : List Nat} {H0 H : Hp} (h : Iv r X H0 H) (hr : r = H0.length) (hG : TabH1 H0) (hX : 1 ∉ X := by simp) : TabH1 H := (h.old 1 (by rw [hr]; exact get_lt hG) hX).trans hG
def tabN1 (j : Nat) : Int := tabInts.getD j 0
theorem tabG1 {j : Nat} (h : j < 64) : (tabInts.map (Value.int .u8))[0 + j * 1]? = some (.int .u8 (tabN1 j)) := by
  rw [Nat.zero_add, Nat.mul_one, List.getElem?_map]
  have : j < tabInts.length := h
  simp [tabN1, List.getD_eq_getElem?_getD, List.getElem?_eq_getElem this]
abbrev T_law09_FactsOut := facts_Facts → ByteArray → Int → Option (Bool)
def A_law09_FactsOut (call : CallF) (c : T_law09_FactsOut) : Prop := ∀ (ro : Nat) (H : Hp) (x0 : facts_Facts) (x1 : ByteArray) (x2 : Int) (r : Bool), TabH1 H → c x0 x1 x2 = some r → call ro 6 [(vAgg (facts_Facts.c x0)), (.string x1), (.int .i64 x2)] H = some ((.bool (r)), H, [])
abbrev T_law09_FactsRest := facts_Facts → ByteArray → Int → Option (Bool)
def A_law09_FactsRest (call : CallF) (c : T_law09_FactsRest) : Prop := ∀ (ro : Nat) (H : Hp) (x0 : facts_Facts) (x1 : ByteArray) (x2 : Int) (r : Bool), TabH1 H → c x0 x1 x2 = some r → call ro 7 [(vAgg (facts_Facts.c x0)), (.string x1), (.int .u8 x2)] H = some ((.bool (r)), H, [])
abbrev T_law09_Ref := facts_Facts → Option (ref09_Facts)
def A_law09_Ref (call : CallF) (c : T_law09_Ref) : Prop := ∀ (ro : Nat) (H : Hp) (x0 : facts_Facts) (r : ref09_Facts), c x0 = some r → call ro 28 [(vAgg (facts_Facts.c x0))] H = some ((vAgg (ref09_Facts.c (r))), H, [])
abbrev T_facts_Out := facts_Facts → ByteArray → Int → Option (Bool)
def A_facts_Out (call : CallF) (c : T_facts_Out) : Prop := ∀ (ro : Nat) (H : Hp) (x0 : facts_Facts) (x1 : ByteArray) (x2 : Int) (r : Bool), c x0 x1 x2 = some r → call ro 30 [(vAgg (facts_Facts.c x0)), (.string x1), (.int .i64 x2)] H = some ((.bool (r)), H, [])
abbrev T_ref09_Out := ref09_Facts → ByteArray → Int → Option (Bool)
def A_ref09_Out (call : CallF) (c : T_ref09_Out) : Prop := ∀ (ro : Nat) (H : Hp) (x0 : ref09_Facts) (x1 : ByteArray) (x2 : Int) (r : Bool), c x0 x1 x2 = some r → call ro 31 [(vAgg (ref09_Facts.c x0)), (.string x1), (.int .i64 x2)] H = some ((.bool (r)), H, [])
abbrev T_class_Set_Has := class_Set → Int → Option (Bool)
def A_class_Set_Has (call : CallF) (c : T_class_Set_Has) : Prop := ∀ (ro : Nat) (H : Hp) (x0 : class_Set) (x1 : Int) (r : Bool), c x0 x1 = some r → call ro 35 [(vAgg (class_Set.c x0)), (.int .u8 x1)] H = some ((.bool (r)), H, [])
abbrev T_ref01_Of := (Arr Int 4) → Option (ref01_Set)
def A_ref01_Of (call : CallF) (c : T_ref01_Of) : Prop := ∀ (ro : Nat) (H : Hp) (x0 : (Arr Int 4)) (r : ref01_Set), c x0 = some r → call ro 59 [(vAgg ((cArr (n := 4) (cInt .u64)) x0))] H = some ((vAgg (ref01_Set.c (r))), H, [])
abbrev T_strings_HasPrefix := ByteArray → ByteArray → Option (Bool)
def A_strings_HasPrefix (call : CallF) (c : T_strings_HasPrefix) : Prop := ∀ (ro : Nat) (H : Hp) (x0 : ByteArray) (x1 : ByteArray) (r : Bool), c x0 x1 = some r → call ro 61 [(.string x0), (.string x1)] H = some ((.bool (r)), H, [])
abbrev T_stringslite_HasPrefix := ByteArray → ByteArray → Option (Bool)
def A_stringslite_HasPrefix (call : CallF) (c : T_stringslite_HasPrefix) : Prop := ∀ (ro : Nat) (H : Hp) (x0 : ByteArray) (x1 : ByteArray) (r : Bool), c x0 x1 = some r → call ro 96 [(.string x0), (.string x1)] H = some ((.bool (r)), H, [])
abbrev T_law09_fixed := Option (Bool)
def A_law09_fixed (call : CallF) (c : T_law09_fixed) : Prop := ∀ (ro : Nat) (H : Hp) (r : Bool), TabH1 H → c = some r → call ro 29 [] H = some ((.bool (r)), H, [])
end Go.Proofs.YtaadjlpfdajggaaGreatDoor
