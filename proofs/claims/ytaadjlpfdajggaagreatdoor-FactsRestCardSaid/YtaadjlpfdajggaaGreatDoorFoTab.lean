import Derived.Test.YtaadjlpfdajggaaGreatDoorFoV0
set_option maxRecDepth 100000
set_option linter.unusedVariables false
set_option linter.unusedSimpArgs false
namespace Go.Proofs.YtaadjlpfdajggaaGreatDoor
open Go Go.AM
def m_law09_fixed : Nat → Option (Bool)
  | 0 => none
  | _ + 1 => some true
def m_ref01_Of : Nat → (Arr Int 4) → Option (ref01_Set)
  | 0, _ => none
  | n + 1, x0 => b_ref01_Of n x0
def m_law09_Ref : Nat → facts_Facts → Option (ref09_Facts)
  | 0, _ => none
  | n + 1, x0 => b_law09_Ref (m_ref01_Of n) n x0
def m_class_Set_Has : Nat → class_Set → Int → Option (Bool)
  | 0, _, _ => none
  | n + 1, x0, x1 => b_class_Set_Has n x0 x1
def m_stringslite_HasPrefix : Nat → ByteArray → ByteArray → Option (Bool)
  | 0, _, _ => none
  | n + 1, x0, x1 => b_stringslite_HasPrefix n x0 x1
def m_strings_HasPrefix : Nat → ByteArray → ByteArray → Option (Bool)
  | 0, _, _ => none
  | n + 1, x0, x1 => b_strings_HasPrefix (m_stringslite_HasPrefix n) n x0 x1
def m_facts_Out : Nat → facts_Facts → ByteArray → Int → Option (Bool)
  | 0, _, _, _ => none
  | n + 1, x0, x1, x2 => b_facts_Out (m_class_Set_Has n) (m_strings_HasPrefix n) n x0 x1 x2
def m_ref09_Out : Nat → ref09_Facts → ByteArray → Int → Option (Bool)
  | 0, _, _, _ => none
  | n + 1, x0, x1, x2 => b_ref09_Out n x0 x1 x2
def m_law09_FactsOut : Nat → facts_Facts → ByteArray → Int → Option (Bool)
  | 0, _, _, _ => none
  | n + 1, x0, x1, x2 => b_law09_FactsOut (m_law09_Ref n) (m_law09_fixed n) (m_facts_Out n) (m_ref09_Out n) n x0 x1 x2
def m_law09_FactsRest : Nat → facts_Facts → ByteArray → Int → Option (Bool)
  | 0, _, _, _ => none
  | n + 1, x0, x1, x2 => b_law09_FactsRest (m_law09_fixed n) (m_facts_Out n) n x0 x1 x2
def K_law09_FactsOut : Co where
  f := 6
  X := facts_Facts × ByteArray × Int
  R := Bool
  rd := fun ro H args x => args = [(vAgg (facts_Facts.c (x.1))), (.string (x.2.1)), (.int .i64 (x.2.2))] ∧ TabH1 H
  inj := by
    rintro ro H args ⟨x0, x1, x2⟩ ⟨y0, y1, y2⟩ ⟨h, f0⟩ ⟨h', g0⟩
    rw [h] at h'; simp only [List.cons.injEq, and_true] at h'
    obtain ⟨e0, e1, e2⟩ := h'
    have z0 : x0 = y0 := facts_Facts.enc.inj _ _ (vAgg_inj e0)
    have z1 : x1 = y1 := by injection e1
    have z2 : x2 = y2 := by injection e2
    subst z0 z1 z2; rfl
  m := fun n x => m_law09_FactsOut n (x.1) (x.2.1) (x.2.2)
  lay := fun r args H => ((.bool (r)), H)
def K_law09_FactsRest : Co where
  f := 7
  X := facts_Facts × ByteArray × Int
  R := Bool
  rd := fun ro H args x => args = [(vAgg (facts_Facts.c (x.1))), (.string (x.2.1)), (.int .u8 (x.2.2))] ∧ TabH1 H
  inj := by
    rintro ro H args ⟨x0, x1, x2⟩ ⟨y0, y1, y2⟩ ⟨h, f0⟩ ⟨h', g0⟩
    rw [h] at h'; simp only [List.cons.injEq, and_true] at h'
    obtain ⟨e0, e1, e2⟩ := h'
    have z0 : x0 = y0 := facts_Facts.enc.inj _ _ (vAgg_inj e0)
    have z1 : x1 = y1 := by injection e1
    have z2 : x2 = y2 := by injection e2
    subst z0 z1 z2; rfl
  m := fun n x => m_law09_FactsRest n (x.1) (x.2.1) (x.2.2)
  lay := fun r args H => ((.bool (r)), H)
def K_law09_Ref : Co where
  f := 28
  X := facts_Facts
  R := ref09_Facts
  rd := fun ro H args x => args = [(vAgg (facts_Facts.c x))]
  inj := by
    rintro ro H args x0 y0 h h'
    rw [h] at h'; simp only [List.cons.injEq, and_true] at h'
    have e0 := h'
    have z0 : x0 = y0 := facts_Facts.enc.inj _ _ (vAgg_inj e0)
    subst z0; rfl
  m := fun n x => m_law09_Ref n x
  lay := fun r args H => ((vAgg (ref09_Facts.c (r))), H)
def K_facts_Out : Co where
  f := 30
  X := facts_Facts × ByteArray × Int
  R := Bool
  rd := fun ro H args x => args = [(vAgg (facts_Facts.c (x.1))), (.string (x.2.1)), (.int .i64 (x.2.2))]
  inj := by
    rintro ro H args ⟨x0, x1, x2⟩ ⟨y0, y1, y2⟩ h h'
    rw [h] at h'; simp only [List.cons.injEq, and_true] at h'
    obtain ⟨e0, e1, e2⟩ := h'
    have z0 : x0 = y0 := facts_Facts.enc.inj _ _ (vAgg_inj e0)
    have z1 : x1 = y1 := by injection e1
    have z2 : x2 = y2 := by injection e2
    subst z0 z1 z2; rfl
  m := fun n x => m_facts_Out n (x.1) (x.2.1) (x.2.2)
  lay := fun r args H => ((.bool (r)), H)
def K_ref09_Out : Co where
  f := 31
  X := ref09_Facts × ByteArray × Int
  R := Bool
  rd := fun ro H args x => args = [(vAgg (ref09_Facts.c (x.1))), (.string (x.2.1)), (.int .i64 (x.2.2))]
  inj := by
    rintro ro H args ⟨x0, x1, x2⟩ ⟨y0, y1, y2⟩ h h'
    rw [h] at h'; simp only [List.cons.injEq, and_true] at h'
    obtain ⟨e0, e1, e2⟩ := h'
    have z0 : x0 = y0 := ref09_Facts.enc.inj _ _ (vAgg_inj e0)
    have z1 : x1 = y1 := by injection e1
    have z2 : x2 = y2 := by injection e2
    subst z0 z1 z2; rfl
  m := fun n x => m_ref09_Out n (x.1) (x.2.1) (x.2.2)
  lay := fun r args H => ((.bool (r)), H)
def K_class_Set_Has : Co where
  f := 35
  X := class_Set × Int
  R := Bool
  rd := fun ro H args x => args = [(vAgg (class_Set.c (x.1))), (.int .u8 (x.2))]
  inj := by
    rintro ro H args ⟨x0, x1⟩ ⟨y0, y1⟩ h h'
    rw [h] at h'; simp only [List.cons.injEq, and_true] at h'
    obtain ⟨e0, e1⟩ := h'
    have z0 : x0 = y0 := class_Set.enc.inj _ _ (vAgg_inj e0)
    have z1 : x1 = y1 := by injection e1
    subst z0 z1; rfl
  m := fun n x => m_class_Set_Has n (x.1) (x.2)
  lay := fun r args H => ((.bool (r)), H)
def K_ref01_Of : Co where
  f := 59
  X := (Arr Int 4)
  R := ref01_Set
  rd := fun ro H args x => args = [(vAgg ((cArr (n := 4) (cInt .u64)) x))]
  inj := by
    rintro ro H args x0 y0 h h'
    rw [h] at h'; simp only [List.cons.injEq, and_true] at h'
    have e0 := h'
    have z0 : x0 = y0 := (enc_arr (n := 4) enc_int).inj _ _ (vAgg_inj e0)
    subst z0; rfl
  m := fun n x => m_ref01_Of n x
  lay := fun r args H => ((vAgg (ref01_Set.c (r))), H)
def K_strings_HasPrefix : Co where
  f := 61
  X := ByteArray × ByteArray
  R := Bool
  rd := fun ro H args x => args = [(.string (x.1)), (.string (x.2))]
  inj := by
    rintro ro H args ⟨x0, x1⟩ ⟨y0, y1⟩ h h'
    rw [h] at h'; simp only [List.cons.injEq, and_true] at h'
    obtain ⟨e0, e1⟩ := h'
    have z0 : x0 = y0 := by injection e0
    have z1 : x1 = y1 := by injection e1
    subst z0 z1; rfl
  m := fun n x => m_strings_HasPrefix n (x.1) (x.2)
  lay := fun r args H => ((.bool (r)), H)
def K_stringslite_HasPrefix : Co where
  f := 96
  X := ByteArray × ByteArray
  R := Bool
  rd := fun ro H args x => args = [(.string (x.1)), (.string (x.2))]
  inj := by
    rintro ro H args ⟨x0, x1⟩ ⟨y0, y1⟩ h h'
    rw [h] at h'; simp only [List.cons.injEq, and_true] at h'
    obtain ⟨e0, e1⟩ := h'
    have z0 : x0 = y0 := by injection e0
    have z1 : x1 = y1 := by injection e1
    subst z0 z1; rfl
  m := fun n x => m_stringslite_HasPrefix n (x.1) (x.2)
  lay := fun r args H => ((.bool (r)), H)
def K_law09_fixed : Co where
  f := 29
  X := Unit
  R := Bool
  rd := fun ro H args x => args = [] ∧ TabH1 H
  inj := by
    intros; rfl
  m := fun n x => m_law09_fixed n
  lay := fun r args H => ((.bool (r)), H)
def T : FuncId → Option Co
  | 6 => some K_law09_FactsOut
  | 7 => some K_law09_FactsRest
  | 28 => some K_law09_Ref
  | 30 => some K_facts_Out
  | 31 => some K_ref09_Out
  | 35 => some K_class_Set_Has
  | 59 => some K_ref01_Of
  | 61 => some K_strings_HasPrefix
  | 96 => some K_stringslite_HasPrefix
  | 29 => some K_law09_fixed
  | _ => none
theorem an_law09_FactsOut {n : Nat} : A_law09_FactsOut (tabC T n) (m_law09_FactsOut n) := fun ro H x0 x1 x2 r f0 hm => ans_tab (k := K_law09_FactsOut) rfl ro H _ ⟨x0, x1, x2⟩ r ⟨rfl, f0⟩ hm
theorem an_law09_FactsRest {n : Nat} : A_law09_FactsRest (tabC T n) (m_law09_FactsRest n) := fun ro H x0 x1 x2 r f0 hm => ans_tab (k := K_law09_FactsRest) rfl ro H _ ⟨x0, x1, x2⟩ r ⟨rfl, f0⟩ hm
theorem an_law09_Ref {n : Nat} : A_law09_Ref (tabC T n) (m_law09_Ref n) := fun ro H x0 r hm => ans_tab (k := K_law09_Ref) rfl ro H _ x0 r rfl hm
theorem an_facts_Out {n : Nat} : A_facts_Out (tabC T n) (m_facts_Out n) := fun ro H x0 x1 x2 r hm => ans_tab (k := K_facts_Out) rfl ro H _ ⟨x0, x1, x2⟩ r rfl hm
theorem an_ref09_Out {n : Nat} : A_ref09_Out (tabC T n) (m_ref09_Out n) := fun ro H x0 x1 x2 r hm => ans_tab (k := K_ref09_Out) rfl ro H _ ⟨x0, x1, x2⟩ r rfl hm
theorem an_class_Set_Has {n : Nat} : A_class_Set_Has (tabC T n) (m_class_Set_Has n) := fun ro H x0 x1 r hm => ans_tab (k := K_class_Set_Has) rfl ro H _ ⟨x0, x1⟩ r rfl hm
theorem an_ref01_Of {n : Nat} : A_ref01_Of (tabC T n) (m_ref01_Of n) := fun ro H x0 r hm => ans_tab (k := K_ref01_Of) rfl ro H _ x0 r rfl hm
theorem an_strings_HasPrefix {n : Nat} : A_strings_HasPrefix (tabC T n) (m_strings_HasPrefix n) := fun ro H x0 x1 r hm => ans_tab (k := K_strings_HasPrefix) rfl ro H _ ⟨x0, x1⟩ r rfl hm
theorem an_stringslite_HasPrefix {n : Nat} : A_stringslite_HasPrefix (tabC T n) (m_stringslite_HasPrefix n) := fun ro H x0 x1 r hm => ans_tab (k := K_stringslite_HasPrefix) rfl ro H _ ⟨x0, x1⟩ r rfl hm
theorem an_law09_fixed {n : Nat} : A_law09_fixed (tabC T n) (m_law09_fixed n) := fun ro H  r f0 hm => ans_tab (k := K_law09_fixed) rfl ro H _ () r ⟨rfl, f0⟩ hm
end Go.Proofs.YtaadjlpfdajggaaGreatDoor
