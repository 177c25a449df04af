import Derived.Test.YtcjnmmeibppblaaDoorTeTab
set_option maxRecDepth 100000
set_option linter.unusedVariables false
set_option linter.unusedSimpArgs false
namespace Go.Proofs.YtcjnmmeibppblaaDoor
open Go Go.AM
theorem hold_law06_LexTells {n:Nat} (hok:CallOk Mt (tabC T n)):Holds1 Mt K_law06_LexTells (n + 1):=by
 rintro ro H args x0 r ⟨rfl,f0⟩ hm hro
 exact (w_law06_LexTells hok (n:=n) an_lex_Lex an_ref06_Lex an_ref06_Same an_law06_Ref an_law06_fixed hro  hm f0).e (pb rfl)
theorem hold_lex_Lex {n:Nat} (hok:CallOk Mt (tabC T n)):Holds1 Mt K_lex_Lex (n + 1):=by
 rintro ro H args x0 r ⟨rfl,f0⟩ hm hro
 exact (w_lex_Lex hok (n:=n) an_lex_token hro  hm f0).e (pb rfl)
theorem hold_ref06_Lex {n:Nat} (hok:CallOk Mt (tabC T n)):Holds1 Mt K_ref06_Lex (n + 1):=by
 rintro ro H args x0 r rfl hm hro
 exact (w_ref06_Lex hok (n:=n) an_ref06_token hro  hm).e (pb rfl)
theorem hold_ref06_Same {n:Nat} (hok:CallOk Mt (tabC T n)):Holds1 Mt K_ref06_Same (n + 1):=by
 rintro ro H args ⟨x0,x1⟩ r ⟨b0,b1,rfl,f0,f1⟩ hm hro
 exact (w_ref06_Same hok (n:=n) hro f0 f1 hm).e (pb rfl)
theorem hold_law06_Ref {n:Nat} (hok:CallOk Mt (tabC T n)):Holds1 Mt K_law06_Ref (n + 1):=by
 rintro ro H args x0 r ⟨b0,rfl,f0⟩ hm hro
 exact (w_law06_Ref hok (n:=n) hro f0 hm).e (pb rfl)
theorem hold_law06_fixed {n:Nat} (hok:CallOk Mt (tabC T n)):Holds1 Mt K_law06_fixed (n + 1):=by
 rintro ro H args ⟨⟩ r ⟨rfl,f0⟩ hm hro
 exact (w_law06_fixed hok (n:=n) an_lex_Lex an_lex_Class an_class_One an_class_Of an_class_Set_Not hro  hm f0).e (pb rfl)
theorem hold_lex_Class {n:Nat} (hok:CallOk Mt (tabC T n)):Holds1 Mt K_lex_Class (n + 1):=by
 rintro ro H args ⟨x0,x1⟩ r ⟨rfl,f0⟩ hm hro
 exact (w_lex_Class hok (n:=n) an_class_Set_Or an_class_Set_Not an_strings_HasPrefix an_lex_span hro  hm f0).e (pb rfl)
theorem hold_ref06_Class {n:Nat} (hok:CallOk Mt (tabC T n)):Holds1 Mt K_ref06_Class (n + 1):=by
 rintro ro H args ⟨x0,x1⟩ r rfl hm hro
 exact (w_ref06_Class hok (n:=n) an_ref06_starts an_ref06_item an_ref01_Min an_ref01_Len an_ref01_Range an_ref01_Or an_ref01_Not an_ref01_Words hro  hm).e (pb rfl)
theorem hold_class_One {n:Nat} (hok:CallOk Mt (tabC T n)):Holds1 Mt K_class_One (n + 1):=by
 rintro ro H args x0 r rfl hm hro
 exact (w_class_One hok (n:=n) an_class_Set_add hro  hm).e (pb rfl)
theorem hold_class_Of {n:Nat} (hok:CallOk Mt (tabC T n)):Holds1 Mt K_class_Of (n + 1):=by
 rintro ro H args x0 r rfl hm hro
 exact (w_class_Of hok (n:=n) an_class_Set_add hro  hm).e (pb rfl)
theorem hold_class_Set_Has {n:Nat} (hok:CallOk Mt (tabC T n)):Holds1 Mt K_class_Set_Has (n + 1):=by
 rintro ro H args ⟨x0,x1⟩ r rfl hm hro
 exact (w_class_Set_Has hok (n:=n) hro  hm).e (pb rfl)
theorem hold_class_Range {n:Nat} (hok:CallOk Mt (tabC T n)):Holds1 Mt K_class_Range (n + 1):=by
 rintro ro H args ⟨x0,x1⟩ r rfl hm hro
 exact (w_class_Range hok (n:=n) an_class_Set_add hro  hm).e (pb rfl)
theorem hold_class_Set_Or {n:Nat} (hok:CallOk Mt (tabC T n)):Holds1 Mt K_class_Set_Or (n + 1):=by
 rintro ro H args ⟨x0,x1⟩ r rfl hm hro
 exact (w_class_Set_Or hok (n:=n) hro  hm).e (pb rfl)
theorem hold_lex_token {n:Nat} (hok:CallOk Mt (tabC T n)):Holds1 Mt K_lex_token (n + 1):=by
 rintro ro H args x0 r ⟨rfl,f0⟩ hm hro
 exact (w_lex_token hok (n:=n) an_lex_Class an_class_One an_lex_simple an_lex_opening an_lex_quant an_lex_escaped hro  hm f0).e (pb rfl)
theorem hold_ref06_token {n:Nat} (hok:CallOk Mt (tabC T n)):Holds1 Mt K_ref06_token (n + 1):=by
 rintro ro H args ⟨x0,x1⟩ r rfl hm hro
 exact (w_ref06_token hok (n:=n) an_ref06_Class an_ref06_starts an_ref01_Words an_ref06_flags an_ref06_quant an_ref06_one an_ref06_escape hro  hm).e (pb rfl)
theorem hold_class_Set_Not {n:Nat} (hok:CallOk Mt (tabC T n)):Holds1 Mt K_class_Set_Not (n + 1):=by
 rintro ro H args x0 r rfl hm hro
 exact (w_class_Set_Not hok (n:=n) hro  hm).e (pb rfl)
theorem hold_strings_HasPrefix {n:Nat} (hok:CallOk Mt (tabC T n)):Holds1 Mt K_strings_HasPrefix (n + 1):=by
 rintro ro H args ⟨x0,x1⟩ r rfl hm hro
 exact (w_strings_HasPrefix hok (n:=n) an_stringslite_HasPrefix hro  hm).e (pb rfl)
theorem hold_lex_span {n:Nat} (hok:CallOk Mt (tabC T n)):Holds1 Mt K_lex_span (n + 1):=by
 rintro ro H args x0 r ⟨rfl,f0⟩ hm hro
 exact (w_lex_span hok (n:=n) an_class_Range an_lex_item an_class_Set_Min an_class_Set_Len hro  hm f0).e (pb rfl)
theorem hold_ref06_starts {n:Nat} (hok:CallOk Mt (tabC T n)):Holds1 Mt K_ref06_starts (n + 1):=by
 rintro ro H args ⟨x0,x1,x2⟩ r rfl hm hro
 exact (w_ref06_starts hok (n:=n) hro  hm).e (pb rfl)
theorem hold_ref06_item {n:Nat} (hok:CallOk Mt (tabC T n)):Holds1 Mt K_ref06_item (n + 1):=by
 rintro ro H args ⟨x0,x1⟩ r rfl hm hro
 exact (w_ref06_item hok (n:=n) an_ref06_one an_ref06_escape hro  hm).e (pb rfl)
theorem hold_ref01_Min {n:Nat} (hok:CallOk Mt (tabC T n)):Holds1 Mt K_ref01_Min (n + 1):=by
 rintro ro H args x0 r rfl hm hro
 exact (w_ref01_Min hok (n:=n) hro  hm).e (pb rfl)
theorem hold_ref01_Len {n:Nat} (hok:CallOk Mt (tabC T n)):Holds1 Mt K_ref01_Len (n + 1):=by
 rintro ro H args x0 r rfl hm hro
 exact (w_ref01_Len hok (n:=n) hro  hm).e (pb rfl)
theorem hold_ref01_Range {n:Nat} (hok:CallOk Mt (tabC T n)):Holds1 Mt K_ref01_Range (n + 1):=by
 rintro ro H args ⟨x0,x1⟩ r rfl hm hro
 exact (w_ref01_Range hok (n:=n) hro  hm).e (pb rfl)
theorem hold_ref01_Or {n:Nat} (hok:CallOk Mt (tabC T n)):Holds1 Mt K_ref01_Or (n + 1):=by
 rintro ro H args ⟨x0,x1⟩ r rfl hm hro
 exact (w_ref01_Or hok (n:=n) hro  hm).e (pb rfl)
theorem hold_ref01_Not {n:Nat} (hok:CallOk Mt (tabC T n)):Holds1 Mt K_ref01_Not (n + 1):=by
 rintro ro H args x0 r rfl hm hro
 exact (w_ref01_Not hok (n:=n) hro  hm).e (pb rfl)
theorem hold_ref01_Words {n:Nat} (hok:CallOk Mt (tabC T n)):Holds1 Mt K_ref01_Words (n + 1):=by
 rintro ro H args x0 r rfl hm hro
 exact (w_ref01_Words hok (n:=n) hro  hm).e (pb rfl)
theorem hold_class_Set_add {n:Nat} (hok:CallOk Mt (tabC T n)):Holds1 Mt K_class_Set_add (n + 1):=by
 rintro ro H args ⟨x0,x1⟩ r ⟨b0,rfl,f0,f1⟩ hm hro
 exact (w_class_Set_add hok (n:=n) hro f0 f1 hm).e (pb rfl)
theorem hold_lex_simple {n:Nat} (hok:CallOk Mt (tabC T n)):Holds1 Mt K_lex_simple (n + 1):=by
 rintro ro H args x0 r rfl hm hro
 exact (w_lex_simple hok (n:=n) an_strings_IndexByte hro  hm).e (pb rfl)
theorem hold_lex_opening {n:Nat} (hok:CallOk Mt (tabC T n)):Holds1 Mt K_lex_opening (n + 1):=by
 rintro ro H args x0 r rfl hm hro
 exact (w_lex_opening hok (n:=n) an_strings_HasPrefix an_lex_hasRune hro  hm).e (pb rfl)
theorem hold_lex_quant {n:Nat} (hok:CallOk Mt (tabC T n)):Holds1 Mt K_lex_quant (n + 1):=by
 rintro ro H args x0 r rfl hm hro
 exact (w_lex_quant hok (n:=n) an_strings_HasPrefix an_lex_counted hro  hm).e (pb rfl)
theorem hold_lex_escaped {n:Nat} (hok:CallOk Mt (tabC T n)):Holds1 Mt K_lex_escaped (n + 1):=by
 rintro ro H args x0 r rfl hm hro
 exact (w_lex_escaped hok (n:=n) an_strings_HasPrefix an_lex_digit an_lex_escape hro  hm).e (pb rfl)
theorem hold_ref06_flags {n:Nat} (hok:CallOk Mt (tabC T n)):Holds1 Mt K_ref06_flags (n + 1):=by
 rintro ro H args ⟨x0,x1⟩ r rfl hm hro
 exact (w_ref06_flags hok (n:=n) hro  hm).e (pb rfl)
theorem hold_ref06_quant {n:Nat} (hok:CallOk Mt (tabC T n)):Holds1 Mt K_ref06_quant (n + 1):=by
 rintro ro H args ⟨x0,x1⟩ r rfl hm hro
 exact (w_ref06_quant hok (n:=n) an_ref06_starts an_ref06_braces hro  hm).e (pb rfl)
theorem hold_ref06_one {n:Nat} (hok:CallOk Mt (tabC T n)):Holds1 Mt K_ref06_one (n + 1):=by
 rintro ro H args x0 r rfl hm hro
 exact (w_ref06_one hok (n:=n) an_ref01_Range hro  hm).e (pb rfl)
theorem hold_ref06_escape {n:Nat} (hok:CallOk Mt (tabC T n)):Holds1 Mt K_ref06_escape (n + 1):=by
 rintro ro H args ⟨x0,x1⟩ r rfl hm hro
 exact (w_ref06_escape hok (n:=n) an_ref01_Range an_ref01_Not an_ref06_one an_ref06_word an_ref06_space an_ref06_Digit hro  hm).e (pb rfl)
theorem hold_stringslite_HasPrefix {n:Nat} (hok:CallOk Mt (tabC T n)):Holds1 Mt K_stringslite_HasPrefix (n + 1):=by
 rintro ro H args ⟨x0,x1⟩ r rfl hm hro
 exact (w_stringslite_HasPrefix hok (n:=n) hro  hm).e (pb rfl)
theorem hold_lex_item {n:Nat} (hok:CallOk Mt (tabC T n)):Holds1 Mt K_lex_item (n + 1):=by
 rintro ro H args x0 r rfl hm hro
 exact (w_lex_item hok (n:=n) an_class_One an_strings_IndexByte an_lex_escape hro  hm).e (pb rfl)
theorem hold_class_Set_Min {n:Nat} (hok:CallOk Mt (tabC T n)):Holds1 Mt K_class_Set_Min (n + 1):=by
 rintro ro H args x0 r ⟨rfl,f0⟩ hm hro
 exact (w_class_Set_Min hok (n:=n) an_bits_TrailingZeros64 hro  hm f0).e (pb rfl)
theorem hold_class_Set_Len {n:Nat} (hok:CallOk Mt (tabC T n)):Holds1 Mt K_class_Set_Len (n + 1):=by
 rintro ro H args x0 r rfl hm hro
 exact (w_class_Set_Len hok (n:=n) an_bits_OnesCount64 hro  hm).e (pb rfl)
theorem hold_strings_IndexByte {n:Nat} (hok:CallOk Mt (tabC T n)):Holds1 Mt K_strings_IndexByte (n + 1):=by
 rintro ro H args ⟨x0,x1⟩ r rfl hm hro
 exact (w_strings_IndexByte hok (n:=n) an_stringslite_IndexByte hro  hm).e (pb rfl)
theorem hold_lex_hasRune {n:Nat} (hok:CallOk Mt (tabC T n)):Holds1 Mt K_lex_hasRune (n + 1):=by
 rintro ro H args ⟨x0,x1⟩ r rfl hm hro
 exact (w_lex_hasRune hok (n:=n) hro  hm).e (pb rfl)
theorem hold_lex_counted {n:Nat} (hok:CallOk Mt (tabC T n)):Holds1 Mt K_lex_counted (n + 1):=by
 rintro ro H args x0 r rfl hm hro
 exact (w_lex_counted hok (n:=n) an_lex_count hro  hm).e (pb rfl)
theorem hold_lex_digit {n:Nat} (hok:CallOk Mt (tabC T n)):Holds1 Mt K_lex_digit (n + 1):=by
 rintro ro H args ⟨x0,x1⟩ r rfl hm hro
 exact (w_lex_digit hok (n:=n) hro  hm).e (pb rfl)
theorem hold_lex_escape {n:Nat} (hok:CallOk Mt (tabC T n)):Holds1 Mt K_lex_escape (n + 1):=by
 rintro ro H args x0 r rfl hm hro
 exact (w_lex_escape hok (n:=n) an_class_One an_class_Set_Not an_strings_IndexByte an_lex_digit an_lex_digits an_lex_words an_lex_spaces an_lex_letter hro  hm).e (pb rfl)
theorem hold_ref06_braces {n:Nat} (hok:CallOk Mt (tabC T n)):Holds1 Mt K_ref06_braces (n + 1):=by
 rintro ro H args ⟨x0,x1⟩ r rfl hm hro
 exact (w_ref06_braces hok (n:=n) an_ref06_starts an_ref06_count hro  hm).e (pb rfl)
theorem hold_ref06_word {n:Nat} (hok:CallOk Mt (tabC T n)):Holds1 Mt K_ref06_word (n + 1):=by
 rintro ro H args ⟨⟩ r rfl hm hro
 exact (w_ref06_word hok (n:=n) an_ref01_Range an_ref01_Or an_ref06_one hro  hm).e (pb rfl)
theorem hold_ref06_space {n:Nat} (hok:CallOk Mt (tabC T n)):Holds1 Mt K_ref06_space (n + 1):=by
 rintro ro H args ⟨⟩ r rfl hm hro
 exact (w_ref06_space hok (n:=n) an_ref01_Range an_ref01_Or an_ref06_one hro  hm).e (pb rfl)
theorem hold_ref06_Digit {n:Nat} (hok:CallOk Mt (tabC T n)):Holds1 Mt K_ref06_Digit (n + 1):=by
 rintro ro H args x0 r rfl hm hro
 exact (w_ref06_Digit hok (n:=n) hro  hm).e (pb rfl)
theorem hold_bits_TrailingZeros64 {n:Nat} (hok:CallOk Mt (tabC T n)):Holds1 Mt K_bits_TrailingZeros64 (n + 1):=by
 rintro ro H args x0 r ⟨rfl,f0⟩ hm hro
 exact (w_bits_TrailingZeros64 hok (n:=n) hro  hm f0).e (pb rfl)
theorem hold_bits_OnesCount64 {n:Nat} (hok:CallOk Mt (tabC T n)):Holds1 Mt K_bits_OnesCount64 (n + 1):=by
 rintro ro H args x0 r rfl hm hro
 exact (w_bits_OnesCount64 hok (n:=n) hro  hm).e (pb rfl)
theorem hold_stringslite_IndexByte {n:Nat} (hok:CallOk Mt (tabC T n)):Holds1 Mt K_stringslite_IndexByte (n + 1):=by
 rintro ro H args ⟨x0,x1⟩ r rfl hm hro
 exact (w_stringslite_IndexByte hok (n:=n) hro  hm).e (pb rfl)
theorem hold_lex_count {n:Nat} (hok:CallOk Mt (tabC T n)):Holds1 Mt K_lex_count (n + 1):=by
 rintro ro H args x0 r rfl hm hro
 exact (w_lex_count hok (n:=n) an_lex_digit hro  hm).e (pb rfl)
theorem hold_lex_digits {n:Nat} (hok:CallOk Mt (tabC T n)):Holds1 Mt K_lex_digits (n + 1):=by
 rintro ro H args ⟨⟩ r rfl hm hro
 exact (w_lex_digits hok (n:=n) an_class_Range hro  hm).e (pb rfl)
theorem hold_lex_words {n:Nat} (hok:CallOk Mt (tabC T n)):Holds1 Mt K_lex_words (n + 1):=by
 rintro ro H args ⟨⟩ r rfl hm hro
 exact (w_lex_words hok (n:=n) an_class_One an_class_Range an_class_Set_Or an_lex_digits hro  hm).e (pb rfl)
theorem hold_lex_spaces {n:Nat} (hok:CallOk Mt (tabC T n)):Holds1 Mt K_lex_spaces (n + 1):=by
 rintro ro H args ⟨⟩ r rfl hm hro
 exact (w_lex_spaces hok (n:=n) an_class_One an_class_Range an_class_Set_Or hro  hm).e (pb rfl)
theorem hold_lex_letter {n:Nat} (hok:CallOk Mt (tabC T n)):Holds1 Mt K_lex_letter (n + 1):=by
 rintro ro H args x0 r rfl hm hro
 exact (w_lex_letter hok (n:=n) an_class_Set_Has an_lex_words hro  hm).e (pb rfl)
theorem hold_ref06_count {n:Nat} (hok:CallOk Mt (tabC T n)):Holds1 Mt K_ref06_count (n + 1):=by
 rintro ro H args ⟨x0,x1⟩ r rfl hm hro
 exact (w_ref06_count hok (n:=n) hro  hm).e (pb rfl)
theorem allOk:∀ n,CallOk Mt (tabC T n):=by
 refine all_ok (fun f k h=>?_) (fun f k h=>?_) fun n hok f k h=>?_
 ·unfold T at h; split at h <;> first | (injection h with h; subst h; rfl) | cases h
 ·unfold T at h; split at h <;> first | (injection h with h; subst h; intro x; rfl) | cases h
 ·unfold T at h; split at h
  ·injection h with h; subst h; exact hold_law06_LexTells hok
  ·injection h with h; subst h; exact hold_lex_Lex hok
  ·injection h with h; subst h; exact hold_ref06_Lex hok
  ·injection h with h; subst h; exact hold_ref06_Same hok
  ·injection h with h; subst h; exact hold_law06_Ref hok
  ·injection h with h; subst h; exact hold_law06_fixed hok
  ·injection h with h; subst h; exact hold_lex_Class hok
  ·injection h with h; subst h; exact hold_ref06_Class hok
  ·injection h with h; subst h; exact hold_class_One hok
  ·injection h with h; subst h; exact hold_class_Of hok
  ·injection h with h; subst h; exact hold_class_Set_Has hok
  ·injection h with h; subst h; exact hold_class_Range hok
  ·injection h with h; subst h; exact hold_class_Set_Or hok
  ·injection h with h; subst h; exact hold_lex_token hok
  ·injection h with h; subst h; exact hold_ref06_token hok
  ·injection h with h; subst h; exact hold_class_Set_Not hok
  ·injection h with h; subst h; exact hold_strings_HasPrefix hok
  ·injection h with h; subst h; exact hold_lex_span hok
  ·injection h with h; subst h; exact hold_ref06_starts hok
  ·injection h with h; subst h; exact hold_ref06_item hok
  ·injection h with h; subst h; exact hold_ref01_Min hok
  ·injection h with h; subst h; exact hold_ref01_Len hok
  ·injection h with h; subst h; exact hold_ref01_Range hok
  ·injection h with h; subst h; exact hold_ref01_Or hok
  ·injection h with h; subst h; exact hold_ref01_Not hok
  ·injection h with h; subst h; exact hold_ref01_Words hok
  ·injection h with h; subst h; exact hold_class_Set_add hok
  ·injection h with h; subst h; exact hold_lex_simple hok
  ·injection h with h; subst h; exact hold_lex_opening hok
  ·injection h with h; subst h; exact hold_lex_quant hok
  ·injection h with h; subst h; exact hold_lex_escaped hok
  ·injection h with h; subst h; exact hold_ref06_flags hok
  ·injection h with h; subst h; exact hold_ref06_quant hok
  ·injection h with h; subst h; exact hold_ref06_one hok
  ·injection h with h; subst h; exact hold_ref06_escape hok
  ·injection h with h; subst h; exact hold_stringslite_HasPrefix hok
  ·injection h with h; subst h; exact hold_lex_item hok
  ·injection h with h; subst h; exact hold_class_Set_Min hok
  ·injection h with h; subst h; exact hold_class_Set_Len hok
  ·injection h with h; subst h; exact hold_strings_IndexByte hok
  ·injection h with h; subst h; exact hold_lex_hasRune hok
  ·injection h with h; subst h; exact hold_lex_counted hok
  ·injection h with h; subst h; exact hold_lex_digit hok
  ·injection h with h; subst h; exact hold_lex_escape hok
  ·injection h with h; subst h; exact hold_ref06_braces hok
  ·injection h with h; subst h; exact hold_ref06_word hok
  ·injection h with h; subst h; exact hold_ref06_space hok
  ·injection h with h; subst h; exact hold_ref06_Digit hok
  ·injection h with h; subst h; exact hold_bits_TrailingZeros64 hok
  ·injection h with h; subst h; exact hold_bits_OnesCount64 hok
  ·injection h with h; subst h; exact hold_stringslite_IndexByte hok
  ·injection h with h; subst h; exact hold_lex_count hok
  ·injection h with h; subst h; exact hold_lex_digits hok
  ·injection h with h; subst h; exact hold_lex_words hok
  ·injection h with h; subst h; exact hold_lex_spaces hok
  ·injection h with h; subst h; exact hold_lex_letter hok
  ·injection h with h; subst h; exact hold_ref06_count hok
  cases h
end Go.Proofs.YtcjnmmeibppblaaDoor
