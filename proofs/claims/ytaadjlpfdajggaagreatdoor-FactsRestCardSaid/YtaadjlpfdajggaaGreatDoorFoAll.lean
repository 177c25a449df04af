import Derived.Test.YtaadjlpfdajggaaGreatDoorFoTab
import Derived.Test.YtaadjlpfdajggaaGreatDoorFoFixed9
set_option maxRecDepth 100000
set_option linter.unusedVariables false
set_option linter.unusedSimpArgs false
namespace Go.Proofs.YtaadjlpfdajggaaGreatDoor
open Go Go.AM
theorem hold_law09_FactsOut {n : Nat} (hok : CallOk Mt (tabC T n)) : Holds1 Mt K_law09_FactsOut (n + 1) := by
  rintro ro H args ⟨x0, x1, x2⟩ r ⟨rfl, f0⟩ hm hro
  exact (w_law09_FactsOut hok (n := n) an_law09_Ref an_law09_fixed an_facts_Out an_ref09_Out hro  hm f0).e (pb rfl)
theorem hold_law09_FactsRest {n : Nat} (hok : CallOk Mt (tabC T n)) : Holds1 Mt K_law09_FactsRest (n + 1) := by
  rintro ro H args ⟨x0, x1, x2⟩ r ⟨rfl, f0⟩ hm hro
  exact (w_law09_FactsRest hok (n := n) an_law09_fixed an_facts_Out hro  hm f0).e (pb rfl)
theorem hold_law09_Ref {n : Nat} (hok : CallOk Mt (tabC T n)) : Holds1 Mt K_law09_Ref (n + 1) := by
  rintro ro H args x0 r rfl hm hro
  exact (w_law09_Ref hok (n := n) an_ref01_Of hro  hm).e (pb rfl)
theorem hold_facts_Out {n : Nat} (hok : CallOk Mt (tabC T n)) : Holds1 Mt K_facts_Out (n + 1) := by
  rintro ro H args ⟨x0, x1, x2⟩ r rfl hm hro
  exact (w_facts_Out hok (n := n) an_class_Set_Has an_strings_HasPrefix hro  hm).e (pb rfl)
theorem hold_ref09_Out {n : Nat} (hok : CallOk Mt (tabC T n)) : Holds1 Mt K_ref09_Out (n + 1) := by
  rintro ro H args ⟨x0, x1, x2⟩ r rfl hm hro
  exact (w_ref09_Out hok (n := n) hro  hm).e (pb rfl)
theorem hold_class_Set_Has {n : Nat} (hok : CallOk Mt (tabC T n)) : Holds1 Mt K_class_Set_Has (n + 1) := by
  rintro ro H args ⟨x0, x1⟩ r rfl hm hro
  exact (w_class_Set_Has hok (n := n) hro  hm).e (pb rfl)
theorem hold_ref01_Of {n : Nat} (hok : CallOk Mt (tabC T n)) : Holds1 Mt K_ref01_Of (n + 1) := by
  rintro ro H args x0 r rfl hm hro
  exact (w_ref01_Of hok (n := n) hro  hm).e (pb rfl)
theorem hold_strings_HasPrefix {n : Nat} (hok : CallOk Mt (tabC T n)) : Holds1 Mt K_strings_HasPrefix (n + 1) := by
  rintro ro H args ⟨x0, x1⟩ r rfl hm hro
  exact (w_strings_HasPrefix hok (n := n) an_stringslite_HasPrefix hro  hm).e (pb rfl)
theorem hold_stringslite_HasPrefix {n : Nat} (hok : CallOk Mt (tabC T n)) : Holds1 Mt K_stringslite_HasPrefix (n + 1) := by
  rintro ro H args ⟨x0, x1⟩ r rfl hm hro
  exact (w_stringslite_HasPrefix hok (n := n) hro  hm).e (pb rfl)
theorem hold_law09_fixed {n : Nat} (hok : CallOk Mt (tabC T n)) : Holds1 Mt K_law09_fixed (n + 1) := by
  rintro ro H args ⟨⟩ r ⟨rfl, f0⟩ hm hro
  obtain rfl := Option.some.inj hm
  exact closed29 ro H f0 hro
theorem allOk : ∀ n, CallOk Mt (tabC T n) := by
  refine all_ok (fun f k h => ?_) (fun f k h => ?_) fun n hok f k h => ?_
  · unfold T at h; split at h <;> first | (injection h with h; subst h; rfl) | cases h
  · unfold T at h; split at h <;> first | (injection h with h; subst h; intro x; rfl) | cases h
  · unfold T at h; split at h
    · injection h with h; subst h; exact hold_law09_FactsOut hok
    · injection h with h; subst h; exact hold_law09_FactsRest hok
    · injection h with h; subst h; exact hold_law09_Ref hok
    · injection h with h; subst h; exact hold_facts_Out hok
    · injection h with h; subst h; exact hold_ref09_Out hok
    · injection h with h; subst h; exact hold_class_Set_Has hok
    · injection h with h; subst h; exact hold_ref01_Of hok
    · injection h with h; subst h; exact hold_strings_HasPrefix hok
    · injection h with h; subst h; exact hold_stringslite_HasPrefix hok
    · injection h with h; subst h; exact hold_law09_fixed hok
    cases h
end Go.Proofs.YtaadjlpfdajggaaGreatDoor
