import Derived.Test.YtcjnmmeibppblaaDoorF8Tab
set_option maxRecDepth 100000
set_option linter.unusedVariables false
set_option linter.unusedSimpArgs false
namespace Go.Proofs.YtcjnmmeibppblaaDoor
open Go Go.AM
theorem hold8 {n : Nat} (hok : CallOk Mt (tabC T n)) : Holds1 Mt K8 (n + 1) := by
  rintro ro H args ⟨x0, x1⟩ r ⟨rfl, f0⟩ hm hro
  exact w8 hok (n := n) an10 an14 hro  hm f0
theorem hold10 {n : Nat} (hok : CallOk Mt (tabC T n)) : Holds1 Mt K10 (n + 1) := by
  rintro ro H args x0 r ⟨rfl, f0⟩ hm hro
  exact w10 hok (n := n) an23 hro  hm f0
theorem hold14 {n : Nat} (hok : CallOk Mt (tabC T n)) : Holds1 Mt K14 (n + 1) := by
  rintro ro H args ⟨⟩ r ⟨rfl, f0⟩ hm hro
  exact w14 hok (n := n) an10 an15 an17 an18 an25 hro  hm f0
theorem hold15 {n : Nat} (hok : CallOk Mt (tabC T n)) : Holds1 Mt K15 (n + 1) := by
  rintro ro H args ⟨x0, x1⟩ r ⟨rfl, f0⟩ hm hro
  exact w15 hok (n := n) an21 an25 an26 an27 hro  hm f0
theorem hold17 {n : Nat} (hok : CallOk Mt (tabC T n)) : Holds1 Mt K17 (n + 1) := by
  rintro ro H args x0 r rfl hm hro
  exact w17 hok (n := n) an36 hro  hm
theorem hold18 {n : Nat} (hok : CallOk Mt (tabC T n)) : Holds1 Mt K18 (n + 1) := by
  rintro ro H args x0 r rfl hm hro
  exact w18 hok (n := n) an36 hro  hm
theorem hold19 {n : Nat} (hok : CallOk Mt (tabC T n)) : Holds1 Mt K19 (n + 1) := by
  rintro ro H args ⟨x0, x1⟩ r rfl hm hro
  exact w19 hok (n := n) hro  hm
theorem hold20 {n : Nat} (hok : CallOk Mt (tabC T n)) : Holds1 Mt K20 (n + 1) := by
  rintro ro H args ⟨x0, x1⟩ r rfl hm hro
  exact w20 hok (n := n) an36 hro  hm
theorem hold21 {n : Nat} (hok : CallOk Mt (tabC T n)) : Holds1 Mt K21 (n + 1) := by
  rintro ro H args ⟨x0, x1⟩ r rfl hm hro
  exact w21 hok (n := n) hro  hm
theorem hold23 {n : Nat} (hok : CallOk Mt (tabC T n)) : Holds1 Mt K23 (n + 1) := by
  rintro ro H args x0 r ⟨rfl, f0⟩ hm hro
  exact w23 hok (n := n) an15 an17 an37 an38 an39 an40 hro  hm f0
theorem hold25 {n : Nat} (hok : CallOk Mt (tabC T n)) : Holds1 Mt K25 (n + 1) := by
  rintro ro H args x0 r rfl hm hro
  exact w25 hok (n := n) hro  hm
theorem hold26 {n : Nat} (hok : CallOk Mt (tabC T n)) : Holds1 Mt K26 (n + 1) := by
  rintro ro H args ⟨x0, x1⟩ r rfl hm hro
  exact w26 hok (n := n) an45 hro  hm
theorem hold27 {n : Nat} (hok : CallOk Mt (tabC T n)) : Holds1 Mt K27 (n + 1) := by
  rintro ro H args x0 r ⟨rfl, f0⟩ hm hro
  exact w27 hok (n := n) an20 an46 an47 an48 hro  hm f0
theorem hold36 {n : Nat} (hok : CallOk Mt (tabC T n)) : Holds1 Mt K36 (n + 1) := by
  rintro ro H args ⟨x0, x1⟩ r ⟨b0, rfl, f0, f1⟩ hm hro
  exact w36 hok (n := n) hro f0 f1 hm
theorem hold37 {n : Nat} (hok : CallOk Mt (tabC T n)) : Holds1 Mt K37 (n + 1) := by
  rintro ro H args x0 r rfl hm hro
  exact w37 hok (n := n) an49 hro  hm
theorem hold38 {n : Nat} (hok : CallOk Mt (tabC T n)) : Holds1 Mt K38 (n + 1) := by
  rintro ro H args x0 r rfl hm hro
  exact w38 hok (n := n) an26 an50 hro  hm
theorem hold39 {n : Nat} (hok : CallOk Mt (tabC T n)) : Holds1 Mt K39 (n + 1) := by
  rintro ro H args x0 r rfl hm hro
  exact w39 hok (n := n) an26 an51 hro  hm
theorem hold40 {n : Nat} (hok : CallOk Mt (tabC T n)) : Holds1 Mt K40 (n + 1) := by
  rintro ro H args x0 r rfl hm hro
  exact w40 hok (n := n) an26 an52 an53 hro  hm
theorem hold45 {n : Nat} (hok : CallOk Mt (tabC T n)) : Holds1 Mt K45 (n + 1) := by
  rintro ro H args ⟨x0, x1⟩ r rfl hm hro
  exact w45 hok (n := n) hro  hm
theorem hold46 {n : Nat} (hok : CallOk Mt (tabC T n)) : Holds1 Mt K46 (n + 1) := by
  rintro ro H args x0 r rfl hm hro
  exact w46 hok (n := n) an17 an49 an53 hro  hm
theorem hold47 {n : Nat} (hok : CallOk Mt (tabC T n)) : Holds1 Mt K47 (n + 1) := by
  rintro ro H args x0 r ⟨rfl, f0⟩ hm hro
  exact w47 hok (n := n) an58 hro  hm f0
theorem hold48 {n : Nat} (hok : CallOk Mt (tabC T n)) : Holds1 Mt K48 (n + 1) := by
  rintro ro H args x0 r rfl hm hro
  exact w48 hok (n := n) an59 hro  hm
theorem hold49 {n : Nat} (hok : CallOk Mt (tabC T n)) : Holds1 Mt K49 (n + 1) := by
  rintro ro H args ⟨x0, x1⟩ r rfl hm hro
  exact w49 hok (n := n) an60 hro  hm
theorem hold50 {n : Nat} (hok : CallOk Mt (tabC T n)) : Holds1 Mt K50 (n + 1) := by
  rintro ro H args ⟨x0, x1⟩ r rfl hm hro
  exact w50 hok (n := n) hro  hm
theorem hold51 {n : Nat} (hok : CallOk Mt (tabC T n)) : Holds1 Mt K51 (n + 1) := by
  rintro ro H args x0 r rfl hm hro
  exact w51 hok (n := n) an61 hro  hm
theorem hold52 {n : Nat} (hok : CallOk Mt (tabC T n)) : Holds1 Mt K52 (n + 1) := by
  rintro ro H args ⟨x0, x1⟩ r rfl hm hro
  exact w52 hok (n := n) hro  hm
theorem hold53 {n : Nat} (hok : CallOk Mt (tabC T n)) : Holds1 Mt K53 (n + 1) := by
  rintro ro H args x0 r rfl hm hro
  exact w53 hok (n := n) an17 an25 an49 an52 an62 an63 an64 an65 hro  hm
theorem hold58 {n : Nat} (hok : CallOk Mt (tabC T n)) : Holds1 Mt K58 (n + 1) := by
  rintro ro H args x0 r ⟨rfl, f0⟩ hm hro
  exact w58 hok (n := n) hro  hm f0
theorem hold59 {n : Nat} (hok : CallOk Mt (tabC T n)) : Holds1 Mt K59 (n + 1) := by
  rintro ro H args x0 r rfl hm hro
  exact w59 hok (n := n) hro  hm
theorem hold60 {n : Nat} (hok : CallOk Mt (tabC T n)) : Holds1 Mt K60 (n + 1) := by
  rintro ro H args ⟨x0, x1⟩ r rfl hm hro
  exact w60 hok (n := n) hro  hm
theorem hold61 {n : Nat} (hok : CallOk Mt (tabC T n)) : Holds1 Mt K61 (n + 1) := by
  rintro ro H args x0 r rfl hm hro
  exact w61 hok (n := n) an52 hro  hm
theorem hold62 {n : Nat} (hok : CallOk Mt (tabC T n)) : Holds1 Mt K62 (n + 1) := by
  rintro ro H args ⟨⟩ r rfl hm hro
  exact w62 hok (n := n) an20 hro  hm
theorem hold63 {n : Nat} (hok : CallOk Mt (tabC T n)) : Holds1 Mt K63 (n + 1) := by
  rintro ro H args ⟨⟩ r rfl hm hro
  exact w63 hok (n := n) an17 an20 an21 an62 hro  hm
theorem hold64 {n : Nat} (hok : CallOk Mt (tabC T n)) : Holds1 Mt K64 (n + 1) := by
  rintro ro H args ⟨⟩ r rfl hm hro
  exact w64 hok (n := n) an17 an20 an21 hro  hm
theorem hold65 {n : Nat} (hok : CallOk Mt (tabC T n)) : Holds1 Mt K65 (n + 1) := by
  rintro ro H args x0 r rfl hm hro
  exact w65 hok (n := n) an19 an63 hro  hm
theorem allOk : ∀ n, CallOk Mt (tabC T n) := by
  refine all_ok (fun f k h => ?_) (fun f k h => ?_) fun n hok f k h => ?_
  · unfold T at h; split at h <;> first | (injection h with h; subst h; rfl) | cases h
  · unfold T at h; split at h <;> first | (injection h with h; subst h; intro x; rfl) | cases h
  · unfold T at h; split at h
    · injection h with h; subst h; exact hold8 hok
    · injection h with h; subst h; exact hold10 hok
    · injection h with h; subst h; exact hold14 hok
    · injection h with h; subst h; exact hold15 hok
    · injection h with h; subst h; exact hold17 hok
    · injection h with h; subst h; exact hold18 hok
    · injection h with h; subst h; exact hold19 hok
    · injection h with h; subst h; exact hold20 hok
    · injection h with h; subst h; exact hold21 hok
    · injection h with h; subst h; exact hold23 hok
    · injection h with h; subst h; exact hold25 hok
    · injection h with h; subst h; exact hold26 hok
    · injection h with h; subst h; exact hold27 hok
    · injection h with h; subst h; exact hold36 hok
    · injection h with h; subst h; exact hold37 hok
    · injection h with h; subst h; exact hold38 hok
    · injection h with h; subst h; exact hold39 hok
    · injection h with h; subst h; exact hold40 hok
    · injection h with h; subst h; exact hold45 hok
    · injection h with h; subst h; exact hold46 hok
    · injection h with h; subst h; exact hold47 hok
    · injection h with h; subst h; exact hold48 hok
    · injection h with h; subst h; exact hold49 hok
    · injection h with h; subst h; exact hold50 hok
    · injection h with h; subst h; exact hold51 hok
    · injection h with h; subst h; exact hold52 hok
    · injection h with h; subst h; exact hold53 hok
    · injection h with h; subst h; exact hold58 hok
    · injection h with h; subst h; exact hold59 hok
    · injection h with h; subst h; exact hold60 hok
    · injection h with h; subst h; exact hold61 hok
    · injection h with h; subst h; exact hold62 hok
    · injection h with h; subst h; exact hold63 hok
    · injection h with h; subst h; exact hold64 hok
    · injection h with h; subst h; exact hold65 hok
    cases h
end Go.Proofs.YtcjnmmeibppblaaDoor
