import Derived.Test.YtcjnmmeibppblaaDoorTeV0
import Derived.Test.YtcjnmmeibppblaaDoorTeV1
import Derived.Test.YtcjnmmeibppblaaDoorTeV2
import Derived.Test.YtcjnmmeibppblaaDoorTeV3
import Derived.Test.YtcjnmmeibppblaaDoorTeV4
set_option maxRecDepth 100000
set_option linter.unusedVariables false
set_option linter.unusedSimpArgs false
namespace Go.Proofs.YtcjnmmeibppblaaDoor
open Go Go.AM
def m_class_Set_Or:Nat → class_Set → class_Set → Option (class_Set)
 | 0,_,_=>none
 | n + 1,x0,x1=>b_class_Set_Or n x0 x1
def m_class_Set_Not:Nat → class_Set → Option (class_Set)
 | 0,_=>none
 | n + 1,x0=>b_class_Set_Not n x0
def m_stringslite_HasPrefix:Nat → ByteArray → ByteArray → Option (Bool)
 | 0,_,_=>none
 | n + 1,x0,x1=>b_stringslite_HasPrefix n x0 x1
def m_strings_HasPrefix:Nat → ByteArray → ByteArray → Option (Bool)
 | 0,_,_=>none
 | n + 1,x0,x1=>b_strings_HasPrefix (m_stringslite_HasPrefix n) n x0 x1
def m_class_Set_add:Nat → class_Set → Int → Option (class_Set)
 | 0,_,_=>none
 | n + 1,x0,x1=>b_class_Set_add n x0 x1
def m_class_Range:Nat → Int → Int → Option (class_Set)
 | 0,_,_=>none
 | n + 1,x0,x1=>b_class_Range (m_class_Set_add n) n x0 x1
def m_class_One:Nat → Int → Option (class_Set)
 | 0,_=>none
 | n + 1,x0=>b_class_One (m_class_Set_add n) n x0
def m_stringslite_IndexByte:Nat → ByteArray → Int → Option (Int)
 | 0,_,_=>none
 | n + 1,x0,x1=>b_stringslite_IndexByte n x0 x1
def m_strings_IndexByte:Nat → ByteArray → Int → Option (Int)
 | 0,_,_=>none
 | n + 1,x0,x1=>b_strings_IndexByte (m_stringslite_IndexByte n) n x0 x1
def m_lex_digit:Nat → Int → Int → Option (Int)
 | 0,_,_=>none
 | n + 1,x0,x1=>b_lex_digit n x0 x1
def m_lex_digits:Nat → Option (class_Set)
 | 0=>none
 | n + 1=>b_lex_digits (m_class_Range n) n
def m_lex_words:Nat → Option (class_Set)
 | 0=>none
 | n + 1=>b_lex_words (m_class_One n) (m_class_Range n) (m_class_Set_Or n) (m_lex_digits n) n
def m_lex_spaces:Nat → Option (class_Set)
 | 0=>none
 | n + 1=>b_lex_spaces (m_class_One n) (m_class_Range n) (m_class_Set_Or n) n
def m_class_Set_Has:Nat → class_Set → Int → Option (Bool)
 | 0,_,_=>none
 | n + 1,x0,x1=>b_class_Set_Has n x0 x1
def m_lex_letter:Nat → Int → Option (Bool)
 | 0,_=>none
 | n + 1,x0=>b_lex_letter (m_class_Set_Has n) (m_lex_words n) n x0
def m_lex_escape:Nat → ByteArray → Option (class_Set × Int)
 | 0,_=>none
 | n + 1,x0=>b_lex_escape (m_class_One n) (m_class_Set_Not n) (m_strings_IndexByte n) (m_lex_digit n) (m_lex_digits n) (m_lex_words n) (m_lex_spaces n) (m_lex_letter n) n x0
def m_lex_item:Nat → ByteArray → Option (class_Set × Int)
 | 0,_=>none
 | n + 1,x0=>b_lex_item (m_class_One n) (m_strings_IndexByte n) (m_lex_escape n) n x0
def m_bits_TrailingZeros64:Nat → Int → Option (Int)
 | 0,_=>none
 | n + 1,x0=>b_bits_TrailingZeros64 n x0
def m_class_Set_Min:Nat → class_Set → Option (Int × Bool)
 | 0,_=>none
 | n + 1,x0=>b_class_Set_Min (m_bits_TrailingZeros64 n) n x0
def m_bits_OnesCount64:Nat → Int → Option (Int)
 | 0,_=>none
 | n + 1,x0=>b_bits_OnesCount64 n x0
def m_class_Set_Len:Nat → class_Set → Option (Int)
 | 0,_=>none
 | n + 1,x0=>b_class_Set_Len (m_bits_OnesCount64 n) n x0
def m_lex_span:Nat → ByteArray → Option (class_Set × Int)
 | 0,_=>none
 | n + 1,x0=>b_lex_span (m_class_Range n) (m_lex_item n) (m_class_Set_Min n) (m_class_Set_Len n) n x0
def m_lex_Class:Nat → ByteArray → Int → Option (class_Set × Int × Int)
 | 0,_,_=>none
 | n + 1,x0,x1=>b_lex_Class (m_class_Set_Or n) (m_class_Set_Not n) (m_strings_HasPrefix n) (m_lex_span n) n x0 x1
def m_lex_simple:Nat → Int → Option (Int × Bool)
 | 0,_=>none
 | n + 1,x0=>b_lex_simple (m_strings_IndexByte n) n x0
def m_lex_hasRune:Nat → ByteArray → Int → Option (Bool)
 | 0,_,_=>none
 | n + 1,x0,x1=>b_lex_hasRune n x0 x1
def m_lex_opening:Nat → ByteArray → Option (lex_Token × Int × Int)
 | 0,_=>none
 | n + 1,x0=>b_lex_opening (m_strings_HasPrefix n) (m_lex_hasRune n) n x0
def m_lex_count:Nat → ByteArray → Option (Int × Int)
 | 0,_=>none
 | n + 1,x0=>b_lex_count (m_lex_digit n) n x0
def m_lex_counted:Nat → ByteArray → Option (Int × Int × Int)
 | 0,_=>none
 | n + 1,x0=>b_lex_counted (m_lex_count n) n x0
def m_lex_quant:Nat → ByteArray → Option (lex_Token × Int × Int)
 | 0,_=>none
 | n + 1,x0=>b_lex_quant (m_strings_HasPrefix n) (m_lex_counted n) n x0
def m_lex_escaped:Nat → ByteArray → Option (lex_Token × Int × Int)
 | 0,_=>none
 | n + 1,x0=>b_lex_escaped (m_strings_HasPrefix n) (m_lex_digit n) (m_lex_escape n) n x0
def m_lex_token:Nat → ByteArray → Option (lex_Token × Int × Int)
 | 0,_=>none
 | n + 1,x0=>b_lex_token (m_lex_Class n) (m_class_One n) (m_lex_simple n) (m_lex_opening n) (m_lex_quant n) (m_lex_escaped n) n x0
def m_lex_Lex:Nat → ByteArray → Option ((Sl lex_Token) × Int)
 | 0,_=>none
 | n + 1,x0=>b_lex_Lex (m_lex_token n) n x0
def m_ref06_starts:Nat → ByteArray → Int → ByteArray → Option (Bool)
 | 0,_,_,_=>none
 | n + 1,x0,x1,x2=>b_ref06_starts n x0 x1 x2
def m_ref01_Range:Nat → Int → Int → Option (ref01_Set)
 | 0,_,_=>none
 | n + 1,x0,x1=>b_ref01_Range n x0 x1
def m_ref06_one:Nat → Int → Option (ref01_Set)
 | 0,_=>none
 | n + 1,x0=>b_ref06_one (m_ref01_Range n) n x0
def m_ref01_Not:Nat → ref01_Set → Option (ref01_Set)
 | 0,_=>none
 | n + 1,x0=>b_ref01_Not n x0
def m_ref01_Or:Nat → ref01_Set → ref01_Set → Option (ref01_Set)
 | 0,_,_=>none
 | n + 1,x0,x1=>b_ref01_Or n x0 x1
def m_ref06_word:Nat → Option (ref01_Set)
 | 0=>none
 | n + 1=>b_ref06_word (m_ref01_Range n) (m_ref01_Or n) (m_ref06_one n) n
def m_ref06_space:Nat → Option (ref01_Set)
 | 0=>none
 | n + 1=>b_ref06_space (m_ref01_Range n) (m_ref01_Or n) (m_ref06_one n) n
def m_ref06_Digit:Nat → Int → Option (Int)
 | 0,_=>none
 | n + 1,x0=>b_ref06_Digit n x0
def m_ref06_escape:Nat → ByteArray → Int → Option (ref01_Set × Int)
 | 0,_,_=>none
 | n + 1,x0,x1=>b_ref06_escape (m_ref01_Range n) (m_ref01_Not n) (m_ref06_one n) (m_ref06_word n) (m_ref06_space n) (m_ref06_Digit n) n x0 x1
def m_ref06_item:Nat → ByteArray → Int → Option (ref01_Set × Int)
 | 0,_,_=>none
 | n + 1,x0,x1=>b_ref06_item (m_ref06_one n) (m_ref06_escape n) n x0 x1
def m_ref01_Min:Nat → ref01_Set → Option (Int × Bool)
 | 0,_=>none
 | n + 1,x0=>b_ref01_Min n x0
def m_ref01_Len:Nat → ref01_Set → Option (Int)
 | 0,_=>none
 | n + 1,x0=>b_ref01_Len n x0
def m_ref01_Words:Nat → ref01_Set → Option ((Arr Int 4))
 | 0,_=>none
 | n + 1,x0=>b_ref01_Words n x0
def m_ref06_Class:Nat → ByteArray → Int → Option ((Arr Int 4) × Int × Int)
 | 0,_,_=>none
 | n + 1,x0,x1=>b_ref06_Class (m_ref06_starts n) (m_ref06_item n) (m_ref01_Min n) (m_ref01_Len n) (m_ref01_Range n) (m_ref01_Or n) (m_ref01_Not n) (m_ref01_Words n) n x0 x1
def m_ref06_flags:Nat → ByteArray → Int → Option (ref06_Token × Int × Int)
 | 0,_,_=>none
 | n + 1,x0,x1=>b_ref06_flags n x0 x1
def m_ref06_count:Nat → ByteArray → Int → Option (Int × Int)
 | 0,_,_=>none
 | n + 1,x0,x1=>b_ref06_count n x0 x1
def m_ref06_braces:Nat → ByteArray → Int → Option (ref06_Token × Int × Int)
 | 0,_,_=>none
 | n + 1,x0,x1=>b_ref06_braces (m_ref06_starts n) (m_ref06_count n) n x0 x1
def m_ref06_quant:Nat → ByteArray → Int → Option (ref06_Token × Int × Int)
 | 0,_,_=>none
 | n + 1,x0,x1=>b_ref06_quant (m_ref06_starts n) (m_ref06_braces n) n x0 x1
def m_ref06_token:Nat → ByteArray → Int → Option (ref06_Token × Int × Int)
 | 0,_,_=>none
 | n + 1,x0,x1=>b_ref06_token (m_ref06_Class n) (m_ref06_starts n) (m_ref01_Words n) (m_ref06_flags n) (m_ref06_quant n) (m_ref06_one n) (m_ref06_escape n) n x0 x1
def m_ref06_Lex:Nat → ByteArray → Option ((Sl ref06_Token) × Int)
 | 0,_=>none
 | n + 1,x0=>b_ref06_Lex (m_ref06_token n) n x0
def m_ref06_Same:Nat → (Sl ref06_Token) → (Sl ref06_Token) → Option (Bool)
 | 0,_,_=>none
 | n + 1,x0,x1=>b_ref06_Same n x0 x1
def m_law06_Ref:Nat → (Sl lex_Token) → Option ((Sl ref06_Token))
 | 0,_=>none
 | n + 1,x0=>b_law06_Ref n x0
def m_class_Of:Nat → ByteArray → Option (class_Set)
 | 0,_=>none
 | n + 1,x0=>b_class_Of (m_class_Set_add n) n x0
def m_law06_fixed:Nat → Option (Bool)
 | 0=>none
 | n + 1=>b_law06_fixed (m_lex_Lex n) (m_lex_Class n) (m_class_One n) (m_class_Of n) (m_class_Set_Not n) n
def m_law06_LexTells:Nat → ByteArray → Option (Bool)
 | 0,_=>none
 | n + 1,x0=>b_law06_LexTells (m_lex_Lex n) (m_ref06_Lex n) (m_ref06_Same n) (m_law06_Ref n) (m_law06_fixed n) n x0
def K_law06_LexTells:Co where
 f:=3
 X:=ByteArray
 R:=Bool
 rd:=fun ro H args x=>args = [(.string x)] ∧ TabH0 H
 inj:=by
  rintro ro H args x0 y0 ⟨h,f0⟩ ⟨h',g0⟩
  rw [h] at h'; simp only [List.cons.injEq,and_true] at h'
  have e0:=h'
  have z0:x0 = y0:=by injection e0
  subst z0; rfl
 m:=fun n x=>m_law06_LexTells n x
 lay:=fun r args H=>((.bool (r)),H)
def K_lex_Lex:Co where
 f:=10
 X:=ByteArray
 R:=(Sl lex_Token) × Int
 rd:=fun ro H args x=>args = [(.string x)] ∧ TabH0 H
 inj:=by
  rintro ro H args x0 y0 ⟨h,f0⟩ ⟨h',g0⟩
  rw [h] at h'; simp only [List.cons.injEq,and_true] at h'
  have e0:=h'
  have z0:x0 = y0:=by injection e0
  subst z0; rfl
 m:=fun n x=>m_lex_Lex n x
 lay:=fun r args H=>((.tuple [(slV r.1 H.length),(.int .i64 (r.2))].toArray),(H ++ slB lex_Token.c 46 r.1))
def K_ref06_Lex:Co where
 f:=11
 X:=ByteArray
 R:=(Sl ref06_Token) × Int
 rd:=fun ro H args x=>args = [(.string x)]
 inj:=by
  rintro ro H args x0 y0 h h'
  rw [h] at h'; simp only [List.cons.injEq,and_true] at h'
  have e0:=h'
  have z0:x0 = y0:=by injection e0
  subst z0; rfl
 m:=fun n x=>m_ref06_Lex n x
 lay:=fun r args H=>((.tuple [(slV r.1 H.length),(.int .i64 (r.2))].toArray),(H ++ slB ref06_Token.c 59 r.1))
def K_ref06_Same:Co where
 f:=12
 X:=(Sl ref06_Token) × (Sl ref06_Token)
 R:=Bool
 rd:=fun ro H args x=>∃ (b0:Nat) (b1:Nat),args = [(slV (x.1) b0),(slV (x.2) b1)] ∧ SlH H ref06_Token.c 59 (x.1) b0 ∧ SlH H ref06_Token.c 59 (x.2) b1
 inj:=by
  rintro ro H args ⟨x0,x1⟩ ⟨y0,y1⟩ ⟨b0,b1,h,f0,f1⟩ ⟨db0,db1,h',g0,g1⟩
  rw [h] at h'; simp only [List.cons.injEq,and_true] at h'
  obtain ⟨e0,e1⟩:=h'
  have z0:x0 = y0:=slV_inj e0 ref06_Token.enc.inj ref06_Token.enc.len f0 g0
  have z1:x1 = y1:=slV_inj e1 ref06_Token.enc.inj ref06_Token.enc.len f1 g1
  subst z0 z1; rfl
 m:=fun n x=>m_ref06_Same n (x.1) (x.2)
 lay:=fun r args H=>((.bool (r)),H)
def K_law06_Ref:Co where
 f:=13
 X:=(Sl lex_Token)
 R:=(Sl ref06_Token)
 rd:=fun ro H args x=>∃ (b0:Nat),args = [(slV x b0)] ∧ SlH H lex_Token.c 46 x b0
 inj:=by
  rintro ro H args x0 y0 ⟨b0,h,f0⟩ ⟨db0,h',g0⟩
  rw [h] at h'; simp only [List.cons.injEq,and_true] at h'
  have e0:=h'
  have z0:x0 = y0:=slV_inj e0 lex_Token.enc.inj lex_Token.enc.len f0 g0
  subst z0; rfl
 m:=fun n x=>m_law06_Ref n x
 lay:=fun r args H=>((slV r H.length),(H ++ slB ref06_Token.c 59 r))
def K_law06_fixed:Co where
 f:=14
 X:=Unit
 R:=Bool
 rd:=fun ro H args x=>args = [] ∧ TabH0 H
 inj:=by
  intros; rfl
 m:=fun n x=>m_law06_fixed n
 lay:=fun r args H=>((.bool (r)),H)
def K_lex_Class:Co where
 f:=15
 X:=ByteArray × Int
 R:=class_Set × Int × Int
 rd:=fun ro H args x=>args = [(.string (x.1)),(.int .i64 (x.2))] ∧ TabH0 H
 inj:=by
  rintro ro H args ⟨x0,x1⟩ ⟨y0,y1⟩ ⟨h,f0⟩ ⟨h',g0⟩
  rw [h] at h'; simp only [List.cons.injEq,and_true] at h'
  obtain ⟨e0,e1⟩:=h'
  have z0:x0 = y0:=by injection e0
  have z1:x1 = y1:=by injection e1
  subst z0 z1; rfl
 m:=fun n x=>m_lex_Class n (x.1) (x.2)
 lay:=fun r args H=>((.tuple [(vAgg (class_Set.c (r.1))),(.int .i64 (r.2.1)),(.int .i64 (r.2.2))].toArray),H)
def K_ref06_Class:Co where
 f:=16
 X:=ByteArray × Int
 R:=(Arr Int 4) × Int × Int
 rd:=fun ro H args x=>args = [(.string (x.1)),(.int .i64 (x.2))]
 inj:=by
  rintro ro H args ⟨x0,x1⟩ ⟨y0,y1⟩ h h'
  rw [h] at h'; simp only [List.cons.injEq,and_true] at h'
  obtain ⟨e0,e1⟩:=h'
  have z0:x0 = y0:=by injection e0
  have z1:x1 = y1:=by injection e1
  subst z0 z1; rfl
 m:=fun n x=>m_ref06_Class n (x.1) (x.2)
 lay:=fun r args H=>((.tuple [(vAgg ((cArr (n:=4) (cInt .u64)) (r.1))),(.int .i64 (r.2.1)),(.int .i64 (r.2.2))].toArray),H)
def K_class_One:Co where
 f:=17
 X:=Int
 R:=class_Set
 rd:=fun ro H args x=>args = [(.int .u8 x)]
 inj:=by
  rintro ro H args x0 y0 h h'
  rw [h] at h'; simp only [List.cons.injEq,and_true] at h'
  have e0:=h'
  have z0:x0 = y0:=by injection e0
  subst z0; rfl
 m:=fun n x=>m_class_One n x
 lay:=fun r args H=>((vAgg (class_Set.c (r))),H)
def K_class_Of:Co where
 f:=18
 X:=ByteArray
 R:=class_Set
 rd:=fun ro H args x=>args = [(.string x)]
 inj:=by
  rintro ro H args x0 y0 h h'
  rw [h] at h'; simp only [List.cons.injEq,and_true] at h'
  have e0:=h'
  have z0:x0 = y0:=by injection e0
  subst z0; rfl
 m:=fun n x=>m_class_Of n x
 lay:=fun r args H=>((vAgg (class_Set.c (r))),H)
def K_class_Set_Has:Co where
 f:=19
 X:=class_Set × Int
 R:=Bool
 rd:=fun ro H args x=>args = [(vAgg (class_Set.c (x.1))),(.int .u8 (x.2))]
 inj:=by
  rintro ro H args ⟨x0,x1⟩ ⟨y0,y1⟩ h h'
  rw [h] at h'; simp only [List.cons.injEq,and_true] at h'
  obtain ⟨e0,e1⟩:=h'
  have z0:x0 = y0:=class_Set.enc.inj _ _ (vAgg_inj e0)
  have z1:x1 = y1:=by injection e1
  subst z0 z1; rfl
 m:=fun n x=>m_class_Set_Has n (x.1) (x.2)
 lay:=fun r args H=>((.bool (r)),H)
def K_class_Range:Co where
 f:=20
 X:=Int × Int
 R:=class_Set
 rd:=fun ro H args x=>args = [(.int .u8 (x.1)),(.int .u8 (x.2))]
 inj:=by
  rintro ro H args ⟨x0,x1⟩ ⟨y0,y1⟩ h h'
  rw [h] at h'; simp only [List.cons.injEq,and_true] at h'
  obtain ⟨e0,e1⟩:=h'
  have z0:x0 = y0:=by injection e0
  have z1:x1 = y1:=by injection e1
  subst z0 z1; rfl
 m:=fun n x=>m_class_Range n (x.1) (x.2)
 lay:=fun r args H=>((vAgg (class_Set.c (r))),H)
def K_class_Set_Or:Co where
 f:=21
 X:=class_Set × class_Set
 R:=class_Set
 rd:=fun ro H args x=>args = [(vAgg (class_Set.c (x.1))),(vAgg (class_Set.c (x.2)))]
 inj:=by
  rintro ro H args ⟨x0,x1⟩ ⟨y0,y1⟩ h h'
  rw [h] at h'; simp only [List.cons.injEq,and_true] at h'
  obtain ⟨e0,e1⟩:=h'
  have z0:x0 = y0:=class_Set.enc.inj _ _ (vAgg_inj e0)
  have z1:x1 = y1:=class_Set.enc.inj _ _ (vAgg_inj e1)
  subst z0 z1; rfl
 m:=fun n x=>m_class_Set_Or n (x.1) (x.2)
 lay:=fun r args H=>((vAgg (class_Set.c (r))),H)
def K_lex_token:Co where
 f:=23
 X:=ByteArray
 R:=lex_Token × Int × Int
 rd:=fun ro H args x=>args = [(.string x)] ∧ TabH0 H
 inj:=by
  rintro ro H args x0 y0 ⟨h,f0⟩ ⟨h',g0⟩
  rw [h] at h'; simp only [List.cons.injEq,and_true] at h'
  have e0:=h'
  have z0:x0 = y0:=by injection e0
  subst z0; rfl
 m:=fun n x=>m_lex_token n x
 lay:=fun r args H=>((.tuple [(vAgg (lex_Token.c (r.1))),(.int .i64 (r.2.1)),(.int .i64 (r.2.2))].toArray),H)
def K_ref06_token:Co where
 f:=24
 X:=ByteArray × Int
 R:=ref06_Token × Int × Int
 rd:=fun ro H args x=>args = [(.string (x.1)),(.int .i64 (x.2))]
 inj:=by
  rintro ro H args ⟨x0,x1⟩ ⟨y0,y1⟩ h h'
  rw [h] at h'; simp only [List.cons.injEq,and_true] at h'
  obtain ⟨e0,e1⟩:=h'
  have z0:x0 = y0:=by injection e0
  have z1:x1 = y1:=by injection e1
  subst z0 z1; rfl
 m:=fun n x=>m_ref06_token n (x.1) (x.2)
 lay:=fun r args H=>((.tuple [(vAgg (ref06_Token.c (r.1))),(.int .i64 (r.2.1)),(.int .i64 (r.2.2))].toArray),H)
def K_class_Set_Not:Co where
 f:=25
 X:=class_Set
 R:=class_Set
 rd:=fun ro H args x=>args = [(vAgg (class_Set.c x))]
 inj:=by
  rintro ro H args x0 y0 h h'
  rw [h] at h'; simp only [List.cons.injEq,and_true] at h'
  have e0:=h'
  have z0:x0 = y0:=class_Set.enc.inj _ _ (vAgg_inj e0)
  subst z0; rfl
 m:=fun n x=>m_class_Set_Not n x
 lay:=fun r args H=>((vAgg (class_Set.c (r))),H)
def K_strings_HasPrefix:Co where
 f:=26
 X:=ByteArray × ByteArray
 R:=Bool
 rd:=fun ro H args x=>args = [(.string (x.1)),(.string (x.2))]
 inj:=by
  rintro ro H args ⟨x0,x1⟩ ⟨y0,y1⟩ h h'
  rw [h] at h'; simp only [List.cons.injEq,and_true] at h'
  obtain ⟨e0,e1⟩:=h'
  have z0:x0 = y0:=by injection e0
  have z1:x1 = y1:=by injection e1
  subst z0 z1; rfl
 m:=fun n x=>m_strings_HasPrefix n (x.1) (x.2)
 lay:=fun r args H=>((.bool (r)),H)
def K_lex_span:Co where
 f:=27
 X:=ByteArray
 R:=class_Set × Int
 rd:=fun ro H args x=>args = [(.string x)] ∧ TabH0 H
 inj:=by
  rintro ro H args x0 y0 ⟨h,f0⟩ ⟨h',g0⟩
  rw [h] at h'; simp only [List.cons.injEq,and_true] at h'
  have e0:=h'
  have z0:x0 = y0:=by injection e0
  subst z0; rfl
 m:=fun n x=>m_lex_span n x
 lay:=fun r args H=>((.tuple [(vAgg (class_Set.c (r.1))),(.int .i64 (r.2))].toArray),H)
def K_ref06_starts:Co where
 f:=28
 X:=ByteArray × Int × ByteArray
 R:=Bool
 rd:=fun ro H args x=>args = [(.string (x.1)),(.int .i64 (x.2.1)),(.string (x.2.2))]
 inj:=by
  rintro ro H args ⟨x0,x1,x2⟩ ⟨y0,y1,y2⟩ h h'
  rw [h] at h'; simp only [List.cons.injEq,and_true] at h'
  obtain ⟨e0,e1,e2⟩:=h'
  have z0:x0 = y0:=by injection e0
  have z1:x1 = y1:=by injection e1
  have z2:x2 = y2:=by injection e2
  subst z0 z1 z2; rfl
 m:=fun n x=>m_ref06_starts n (x.1) (x.2.1) (x.2.2)
 lay:=fun r args H=>((.bool (r)),H)
def K_ref06_item:Co where
 f:=29
 X:=ByteArray × Int
 R:=ref01_Set × Int
 rd:=fun ro H args x=>args = [(.string (x.1)),(.int .i64 (x.2))]
 inj:=by
  rintro ro H args ⟨x0,x1⟩ ⟨y0,y1⟩ h h'
  rw [h] at h'; simp only [List.cons.injEq,and_true] at h'
  obtain ⟨e0,e1⟩:=h'
  have z0:x0 = y0:=by injection e0
  have z1:x1 = y1:=by injection e1
  subst z0 z1; rfl
 m:=fun n x=>m_ref06_item n (x.1) (x.2)
 lay:=fun r args H=>((.tuple [(vAgg (ref01_Set.c (r.1))),(.int .i64 (r.2))].toArray),H)
def K_ref01_Min:Co where
 f:=30
 X:=ref01_Set
 R:=Int × Bool
 rd:=fun ro H args x=>args = [(vAgg (ref01_Set.c x))]
 inj:=by
  rintro ro H args x0 y0 h h'
  rw [h] at h'; simp only [List.cons.injEq,and_true] at h'
  have e0:=h'
  have z0:x0 = y0:=ref01_Set.enc.inj _ _ (vAgg_inj e0)
  subst z0; rfl
 m:=fun n x=>m_ref01_Min n x
 lay:=fun r args H=>((.tuple [(.int .u8 (r.1)),(.bool (r.2))].toArray),H)
def K_ref01_Len:Co where
 f:=31
 X:=ref01_Set
 R:=Int
 rd:=fun ro H args x=>args = [(vAgg (ref01_Set.c x))]
 inj:=by
  rintro ro H args x0 y0 h h'
  rw [h] at h'; simp only [List.cons.injEq,and_true] at h'
  have e0:=h'
  have z0:x0 = y0:=ref01_Set.enc.inj _ _ (vAgg_inj e0)
  subst z0; rfl
 m:=fun n x=>m_ref01_Len n x
 lay:=fun r args H=>((.int .i64 (r)),H)
def K_ref01_Range:Co where
 f:=32
 X:=Int × Int
 R:=ref01_Set
 rd:=fun ro H args x=>args = [(.int .u8 (x.1)),(.int .u8 (x.2))]
 inj:=by
  rintro ro H args ⟨x0,x1⟩ ⟨y0,y1⟩ h h'
  rw [h] at h'; simp only [List.cons.injEq,and_true] at h'
  obtain ⟨e0,e1⟩:=h'
  have z0:x0 = y0:=by injection e0
  have z1:x1 = y1:=by injection e1
  subst z0 z1; rfl
 m:=fun n x=>m_ref01_Range n (x.1) (x.2)
 lay:=fun r args H=>((vAgg (ref01_Set.c (r))),H)
def K_ref01_Or:Co where
 f:=33
 X:=ref01_Set × ref01_Set
 R:=ref01_Set
 rd:=fun ro H args x=>args = [(vAgg (ref01_Set.c (x.1))),(vAgg (ref01_Set.c (x.2)))]
 inj:=by
  rintro ro H args ⟨x0,x1⟩ ⟨y0,y1⟩ h h'
  rw [h] at h'; simp only [List.cons.injEq,and_true] at h'
  obtain ⟨e0,e1⟩:=h'
  have z0:x0 = y0:=ref01_Set.enc.inj _ _ (vAgg_inj e0)
  have z1:x1 = y1:=ref01_Set.enc.inj _ _ (vAgg_inj e1)
  subst z0 z1; rfl
 m:=fun n x=>m_ref01_Or n (x.1) (x.2)
 lay:=fun r args H=>((vAgg (ref01_Set.c (r))),H)
def K_ref01_Not:Co where
 f:=34
 X:=ref01_Set
 R:=ref01_Set
 rd:=fun ro H args x=>args = [(vAgg (ref01_Set.c x))]
 inj:=by
  rintro ro H args x0 y0 h h'
  rw [h] at h'; simp only [List.cons.injEq,and_true] at h'
  have e0:=h'
  have z0:x0 = y0:=ref01_Set.enc.inj _ _ (vAgg_inj e0)
  subst z0; rfl
 m:=fun n x=>m_ref01_Not n x
 lay:=fun r args H=>((vAgg (ref01_Set.c (r))),H)
def K_ref01_Words:Co where
 f:=35
 X:=ref01_Set
 R:=(Arr Int 4)
 rd:=fun ro H args x=>args = [(vAgg (ref01_Set.c x))]
 inj:=by
  rintro ro H args x0 y0 h h'
  rw [h] at h'; simp only [List.cons.injEq,and_true] at h'
  have e0:=h'
  have z0:x0 = y0:=ref01_Set.enc.inj _ _ (vAgg_inj e0)
  subst z0; rfl
 m:=fun n x=>m_ref01_Words n x
 lay:=fun r args H=>((vAgg ((cArr (n:=4) (cInt .u64)) (r))),H)
def K_class_Set_add:Co where
 f:=36
 X:=class_Set × Int
 R:=class_Set
 rd:=fun ro H args x=>∃ (b0:Nat),args = [(.pointer (some ⟨b0,0,none⟩)),(.int .u8 (x.2))] ∧ H[b0]? = some (.cells (class_Set.c (x.1)) 36) ∧ ro ≤ b0
 inj:=by
  rintro ro H args ⟨x0,x1⟩ ⟨y0,y1⟩ ⟨b0,h,f0,f1⟩ ⟨db0,h',g0,g1⟩
  rw [h] at h'; simp only [List.cons.injEq,and_true] at h'
  obtain ⟨e0,e1⟩:=h'
  have z0:x0 = y0:=by
   have e:b0 = db0:=by injection e0 with e; injection e with e; injection e
   subst e; rw [f0] at g0; injection g0 with q; injection q with q _; exact class_Set.enc.inj _ _ q
  have z1:x1 = y1:=by injection e1
  subst z0 z1; rfl
 m:=fun n x=>m_class_Set_add n (x.1) (x.2)
 lay:=fun r args H=>((.tuple [].toArray),(H.set (blkOf (args.getD 0 default)) (.cells (class_Set.c r) 36)))
def K_lex_simple:Co where
 f:=37
 X:=Int
 R:=Int × Bool
 rd:=fun ro H args x=>args = [(.int .u8 x)]
 inj:=by
  rintro ro H args x0 y0 h h'
  rw [h] at h'; simp only [List.cons.injEq,and_true] at h'
  have e0:=h'
  have z0:x0 = y0:=by injection e0
  subst z0; rfl
 m:=fun n x=>m_lex_simple n x
 lay:=fun r args H=>((.tuple [(.int .i64 (r.1)),(.bool (r.2))].toArray),H)
def K_lex_opening:Co where
 f:=38
 X:=ByteArray
 R:=lex_Token × Int × Int
 rd:=fun ro H args x=>args = [(.string x)]
 inj:=by
  rintro ro H args x0 y0 h h'
  rw [h] at h'; simp only [List.cons.injEq,and_true] at h'
  have e0:=h'
  have z0:x0 = y0:=by injection e0
  subst z0; rfl
 m:=fun n x=>m_lex_opening n x
 lay:=fun r args H=>((.tuple [(vAgg (lex_Token.c (r.1))),(.int .i64 (r.2.1)),(.int .i64 (r.2.2))].toArray),H)
def K_lex_quant:Co where
 f:=39
 X:=ByteArray
 R:=lex_Token × Int × Int
 rd:=fun ro H args x=>args = [(.string x)]
 inj:=by
  rintro ro H args x0 y0 h h'
  rw [h] at h'; simp only [List.cons.injEq,and_true] at h'
  have e0:=h'
  have z0:x0 = y0:=by injection e0
  subst z0; rfl
 m:=fun n x=>m_lex_quant n x
 lay:=fun r args H=>((.tuple [(vAgg (lex_Token.c (r.1))),(.int .i64 (r.2.1)),(.int .i64 (r.2.2))].toArray),H)
def K_lex_escaped:Co where
 f:=40
 X:=ByteArray
 R:=lex_Token × Int × Int
 rd:=fun ro H args x=>args = [(.string x)]
 inj:=by
  rintro ro H args x0 y0 h h'
  rw [h] at h'; simp only [List.cons.injEq,and_true] at h'
  have e0:=h'
  have z0:x0 = y0:=by injection e0
  subst z0; rfl
 m:=fun n x=>m_lex_escaped n x
 lay:=fun r args H=>((.tuple [(vAgg (lex_Token.c (r.1))),(.int .i64 (r.2.1)),(.int .i64 (r.2.2))].toArray),H)
def K_ref06_flags:Co where
 f:=41
 X:=ByteArray × Int
 R:=ref06_Token × Int × Int
 rd:=fun ro H args x=>args = [(.string (x.1)),(.int .i64 (x.2))]
 inj:=by
  rintro ro H args ⟨x0,x1⟩ ⟨y0,y1⟩ h h'
  rw [h] at h'; simp only [List.cons.injEq,and_true] at h'
  obtain ⟨e0,e1⟩:=h'
  have z0:x0 = y0:=by injection e0
  have z1:x1 = y1:=by injection e1
  subst z0 z1; rfl
 m:=fun n x=>m_ref06_flags n (x.1) (x.2)
 lay:=fun r args H=>((.tuple [(vAgg (ref06_Token.c (r.1))),(.int .i64 (r.2.1)),(.int .i64 (r.2.2))].toArray),H)
def K_ref06_quant:Co where
 f:=42
 X:=ByteArray × Int
 R:=ref06_Token × Int × Int
 rd:=fun ro H args x=>args = [(.string (x.1)),(.int .i64 (x.2))]
 inj:=by
  rintro ro H args ⟨x0,x1⟩ ⟨y0,y1⟩ h h'
  rw [h] at h'; simp only [List.cons.injEq,and_true] at h'
  obtain ⟨e0,e1⟩:=h'
  have z0:x0 = y0:=by injection e0
  have z1:x1 = y1:=by injection e1
  subst z0 z1; rfl
 m:=fun n x=>m_ref06_quant n (x.1) (x.2)
 lay:=fun r args H=>((.tuple [(vAgg (ref06_Token.c (r.1))),(.int .i64 (r.2.1)),(.int .i64 (r.2.2))].toArray),H)
def K_ref06_one:Co where
 f:=43
 X:=Int
 R:=ref01_Set
 rd:=fun ro H args x=>args = [(.int .u8 x)]
 inj:=by
  rintro ro H args x0 y0 h h'
  rw [h] at h'; simp only [List.cons.injEq,and_true] at h'
  have e0:=h'
  have z0:x0 = y0:=by injection e0
  subst z0; rfl
 m:=fun n x=>m_ref06_one n x
 lay:=fun r args H=>((vAgg (ref01_Set.c (r))),H)
def K_ref06_escape:Co where
 f:=44
 X:=ByteArray × Int
 R:=ref01_Set × Int
 rd:=fun ro H args x=>args = [(.string (x.1)),(.int .i64 (x.2))]
 inj:=by
  rintro ro H args ⟨x0,x1⟩ ⟨y0,y1⟩ h h'
  rw [h] at h'; simp only [List.cons.injEq,and_true] at h'
  obtain ⟨e0,e1⟩:=h'
  have z0:x0 = y0:=by injection e0
  have z1:x1 = y1:=by injection e1
  subst z0 z1; rfl
 m:=fun n x=>m_ref06_escape n (x.1) (x.2)
 lay:=fun r args H=>((.tuple [(vAgg (ref01_Set.c (r.1))),(.int .i64 (r.2))].toArray),H)
def K_stringslite_HasPrefix:Co where
 f:=45
 X:=ByteArray × ByteArray
 R:=Bool
 rd:=fun ro H args x=>args = [(.string (x.1)),(.string (x.2))]
 inj:=by
  rintro ro H args ⟨x0,x1⟩ ⟨y0,y1⟩ h h'
  rw [h] at h'; simp only [List.cons.injEq,and_true] at h'
  obtain ⟨e0,e1⟩:=h'
  have z0:x0 = y0:=by injection e0
  have z1:x1 = y1:=by injection e1
  subst z0 z1; rfl
 m:=fun n x=>m_stringslite_HasPrefix n (x.1) (x.2)
 lay:=fun r args H=>((.bool (r)),H)
def K_lex_item:Co where
 f:=46
 X:=ByteArray
 R:=class_Set × Int
 rd:=fun ro H args x=>args = [(.string x)]
 inj:=by
  rintro ro H args x0 y0 h h'
  rw [h] at h'; simp only [List.cons.injEq,and_true] at h'
  have e0:=h'
  have z0:x0 = y0:=by injection e0
  subst z0; rfl
 m:=fun n x=>m_lex_item n x
 lay:=fun r args H=>((.tuple [(vAgg (class_Set.c (r.1))),(.int .i64 (r.2))].toArray),H)
def K_class_Set_Min:Co where
 f:=47
 X:=class_Set
 R:=Int × Bool
 rd:=fun ro H args x=>args = [(vAgg (class_Set.c x))] ∧ TabH0 H
 inj:=by
  rintro ro H args x0 y0 ⟨h,f0⟩ ⟨h',g0⟩
  rw [h] at h'; simp only [List.cons.injEq,and_true] at h'
  have e0:=h'
  have z0:x0 = y0:=class_Set.enc.inj _ _ (vAgg_inj e0)
  subst z0; rfl
 m:=fun n x=>m_class_Set_Min n x
 lay:=fun r args H=>((.tuple [(.int .u8 (r.1)),(.bool (r.2))].toArray),H)
def K_class_Set_Len:Co where
 f:=48
 X:=class_Set
 R:=Int
 rd:=fun ro H args x=>args = [(vAgg (class_Set.c x))]
 inj:=by
  rintro ro H args x0 y0 h h'
  rw [h] at h'; simp only [List.cons.injEq,and_true] at h'
  have e0:=h'
  have z0:x0 = y0:=class_Set.enc.inj _ _ (vAgg_inj e0)
  subst z0; rfl
 m:=fun n x=>m_class_Set_Len n x
 lay:=fun r args H=>((.int .i64 (r)),H)
def K_strings_IndexByte:Co where
 f:=49
 X:=ByteArray × Int
 R:=Int
 rd:=fun ro H args x=>args = [(.string (x.1)),(.int .u8 (x.2))]
 inj:=by
  rintro ro H args ⟨x0,x1⟩ ⟨y0,y1⟩ h h'
  rw [h] at h'; simp only [List.cons.injEq,and_true] at h'
  obtain ⟨e0,e1⟩:=h'
  have z0:x0 = y0:=by injection e0
  have z1:x1 = y1:=by injection e1
  subst z0 z1; rfl
 m:=fun n x=>m_strings_IndexByte n (x.1) (x.2)
 lay:=fun r args H=>((.int .i64 (r)),H)
def K_lex_hasRune:Co where
 f:=50
 X:=ByteArray × Int
 R:=Bool
 rd:=fun ro H args x=>args = [(.string (x.1)),(.int .i32 (x.2))]
 inj:=by
  rintro ro H args ⟨x0,x1⟩ ⟨y0,y1⟩ h h'
  rw [h] at h'; simp only [List.cons.injEq,and_true] at h'
  obtain ⟨e0,e1⟩:=h'
  have z0:x0 = y0:=by injection e0
  have z1:x1 = y1:=by injection e1
  subst z0 z1; rfl
 m:=fun n x=>m_lex_hasRune n (x.1) (x.2)
 lay:=fun r args H=>((.bool (r)),H)
def K_lex_counted:Co where
 f:=51
 X:=ByteArray
 R:=Int × Int × Int
 rd:=fun ro H args x=>args = [(.string x)]
 inj:=by
  rintro ro H args x0 y0 h h'
  rw [h] at h'; simp only [List.cons.injEq,and_true] at h'
  have e0:=h'
  have z0:x0 = y0:=by injection e0
  subst z0; rfl
 m:=fun n x=>m_lex_counted n x
 lay:=fun r args H=>((.tuple [(.int .i64 (r.1)),(.int .i64 (r.2.1)),(.int .i64 (r.2.2))].toArray),H)
def K_lex_digit:Co where
 f:=52
 X:=Int × Int
 R:=Int
 rd:=fun ro H args x=>args = [(.int .u8 (x.1)),(.int .i64 (x.2))]
 inj:=by
  rintro ro H args ⟨x0,x1⟩ ⟨y0,y1⟩ h h'
  rw [h] at h'; simp only [List.cons.injEq,and_true] at h'
  obtain ⟨e0,e1⟩:=h'
  have z0:x0 = y0:=by injection e0
  have z1:x1 = y1:=by injection e1
  subst z0 z1; rfl
 m:=fun n x=>m_lex_digit n (x.1) (x.2)
 lay:=fun r args H=>((.int .i64 (r)),H)
def K_lex_escape:Co where
 f:=53
 X:=ByteArray
 R:=class_Set × Int
 rd:=fun ro H args x=>args = [(.string x)]
 inj:=by
  rintro ro H args x0 y0 h h'
  rw [h] at h'; simp only [List.cons.injEq,and_true] at h'
  have e0:=h'
  have z0:x0 = y0:=by injection e0
  subst z0; rfl
 m:=fun n x=>m_lex_escape n x
 lay:=fun r args H=>((.tuple [(vAgg (class_Set.c (r.1))),(.int .i64 (r.2))].toArray),H)
def K_ref06_braces:Co where
 f:=54
 X:=ByteArray × Int
 R:=ref06_Token × Int × Int
 rd:=fun ro H args x=>args = [(.string (x.1)),(.int .i64 (x.2))]
 inj:=by
  rintro ro H args ⟨x0,x1⟩ ⟨y0,y1⟩ h h'
  rw [h] at h'; simp only [List.cons.injEq,and_true] at h'
  obtain ⟨e0,e1⟩:=h'
  have z0:x0 = y0:=by injection e0
  have z1:x1 = y1:=by injection e1
  subst z0 z1; rfl
 m:=fun n x=>m_ref06_braces n (x.1) (x.2)
 lay:=fun r args H=>((.tuple [(vAgg (ref06_Token.c (r.1))),(.int .i64 (r.2.1)),(.int .i64 (r.2.2))].toArray),H)
def K_ref06_word:Co where
 f:=55
 X:=Unit
 R:=ref01_Set
 rd:=fun ro H args x=>args = []
 inj:=by
  intros; rfl
 m:=fun n x=>m_ref06_word n
 lay:=fun r args H=>((vAgg (ref01_Set.c (r))),H)
def K_ref06_space:Co where
 f:=56
 X:=Unit
 R:=ref01_Set
 rd:=fun ro H args x=>args = []
 inj:=by
  intros; rfl
 m:=fun n x=>m_ref06_space n
 lay:=fun r args H=>((vAgg (ref01_Set.c (r))),H)
def K_ref06_Digit:Co where
 f:=57
 X:=Int
 R:=Int
 rd:=fun ro H args x=>args = [(.int .u8 x)]
 inj:=by
  rintro ro H args x0 y0 h h'
  rw [h] at h'; simp only [List.cons.injEq,and_true] at h'
  have e0:=h'
  have z0:x0 = y0:=by injection e0
  subst z0; rfl
 m:=fun n x=>m_ref06_Digit n x
 lay:=fun r args H=>((.int .i64 (r)),H)
def K_bits_TrailingZeros64:Co where
 f:=58
 X:=Int
 R:=Int
 rd:=fun ro H args x=>args = [(.int .u64 x)] ∧ TabH0 H
 inj:=by
  rintro ro H args x0 y0 ⟨h,f0⟩ ⟨h',g0⟩
  rw [h] at h'; simp only [List.cons.injEq,and_true] at h'
  have e0:=h'
  have z0:x0 = y0:=by injection e0
  subst z0; rfl
 m:=fun n x=>m_bits_TrailingZeros64 n x
 lay:=fun r args H=>((.int .i64 (r)),H)
def K_bits_OnesCount64:Co where
 f:=59
 X:=Int
 R:=Int
 rd:=fun ro H args x=>args = [(.int .u64 x)]
 inj:=by
  rintro ro H args x0 y0 h h'
  rw [h] at h'; simp only [List.cons.injEq,and_true] at h'
  have e0:=h'
  have z0:x0 = y0:=by injection e0
  subst z0; rfl
 m:=fun n x=>m_bits_OnesCount64 n x
 lay:=fun r args H=>((.int .i64 (r)),H)
def K_stringslite_IndexByte:Co where
 f:=60
 X:=ByteArray × Int
 R:=Int
 rd:=fun ro H args x=>args = [(.string (x.1)),(.int .u8 (x.2))]
 inj:=by
  rintro ro H args ⟨x0,x1⟩ ⟨y0,y1⟩ h h'
  rw [h] at h'; simp only [List.cons.injEq,and_true] at h'
  obtain ⟨e0,e1⟩:=h'
  have z0:x0 = y0:=by injection e0
  have z1:x1 = y1:=by injection e1
  subst z0 z1; rfl
 m:=fun n x=>m_stringslite_IndexByte n (x.1) (x.2)
 lay:=fun r args H=>((.int .i64 (r)),H)
def K_lex_count:Co where
 f:=61
 X:=ByteArray
 R:=Int × Int
 rd:=fun ro H args x=>args = [(.string x)]
 inj:=by
  rintro ro H args x0 y0 h h'
  rw [h] at h'; simp only [List.cons.injEq,and_true] at h'
  have e0:=h'
  have z0:x0 = y0:=by injection e0
  subst z0; rfl
 m:=fun n x=>m_lex_count n x
 lay:=fun r args H=>((.tuple [(.int .i64 (r.1)),(.int .i64 (r.2))].toArray),H)
def K_lex_digits:Co where
 f:=62
 X:=Unit
 R:=class_Set
 rd:=fun ro H args x=>args = []
 inj:=by
  intros; rfl
 m:=fun n x=>m_lex_digits n
 lay:=fun r args H=>((vAgg (class_Set.c (r))),H)
def K_lex_words:Co where
 f:=63
 X:=Unit
 R:=class_Set
 rd:=fun ro H args x=>args = []
 inj:=by
  intros; rfl
 m:=fun n x=>m_lex_words n
 lay:=fun r args H=>((vAgg (class_Set.c (r))),H)
def K_lex_spaces:Co where
 f:=64
 X:=Unit
 R:=class_Set
 rd:=fun ro H args x=>args = []
 inj:=by
  intros; rfl
 m:=fun n x=>m_lex_spaces n
 lay:=fun r args H=>((vAgg (class_Set.c (r))),H)
def K_lex_letter:Co where
 f:=65
 X:=Int
 R:=Bool
 rd:=fun ro H args x=>args = [(.int .u8 x)]
 inj:=by
  rintro ro H args x0 y0 h h'
  rw [h] at h'; simp only [List.cons.injEq,and_true] at h'
  have e0:=h'
  have z0:x0 = y0:=by injection e0
  subst z0; rfl
 m:=fun n x=>m_lex_letter n x
 lay:=fun r args H=>((.bool (r)),H)
def K_ref06_count:Co where
 f:=66
 X:=ByteArray × Int
 R:=Int × Int
 rd:=fun ro H args x=>args = [(.string (x.1)),(.int .i64 (x.2))]
 inj:=by
  rintro ro H args ⟨x0,x1⟩ ⟨y0,y1⟩ h h'
  rw [h] at h'; simp only [List.cons.injEq,and_true] at h'
  obtain ⟨e0,e1⟩:=h'
  have z0:x0 = y0:=by injection e0
  have z1:x1 = y1:=by injection e1
  subst z0 z1; rfl
 m:=fun n x=>m_ref06_count n (x.1) (x.2)
 lay:=fun r args H=>((.tuple [(.int .i64 (r.1)),(.int .i64 (r.2))].toArray),H)
def T:FuncId → Option Co
 | 3=>some K_law06_LexTells
 | 10=>some K_lex_Lex
 | 11=>some K_ref06_Lex
 | 12=>some K_ref06_Same
 | 13=>some K_law06_Ref
 | 14=>some K_law06_fixed
 | 15=>some K_lex_Class
 | 16=>some K_ref06_Class
 | 17=>some K_class_One
 | 18=>some K_class_Of
 | 19=>some K_class_Set_Has
 | 20=>some K_class_Range
 | 21=>some K_class_Set_Or
 | 23=>some K_lex_token
 | 24=>some K_ref06_token
 | 25=>some K_class_Set_Not
 | 26=>some K_strings_HasPrefix
 | 27=>some K_lex_span
 | 28=>some K_ref06_starts
 | 29=>some K_ref06_item
 | 30=>some K_ref01_Min
 | 31=>some K_ref01_Len
 | 32=>some K_ref01_Range
 | 33=>some K_ref01_Or
 | 34=>some K_ref01_Not
 | 35=>some K_ref01_Words
 | 36=>some K_class_Set_add
 | 37=>some K_lex_simple
 | 38=>some K_lex_opening
 | 39=>some K_lex_quant
 | 40=>some K_lex_escaped
 | 41=>some K_ref06_flags
 | 42=>some K_ref06_quant
 | 43=>some K_ref06_one
 | 44=>some K_ref06_escape
 | 45=>some K_stringslite_HasPrefix
 | 46=>some K_lex_item
 | 47=>some K_class_Set_Min
 | 48=>some K_class_Set_Len
 | 49=>some K_strings_IndexByte
 | 50=>some K_lex_hasRune
 | 51=>some K_lex_counted
 | 52=>some K_lex_digit
 | 53=>some K_lex_escape
 | 54=>some K_ref06_braces
 | 55=>some K_ref06_word
 | 56=>some K_ref06_space
 | 57=>some K_ref06_Digit
 | 58=>some K_bits_TrailingZeros64
 | 59=>some K_bits_OnesCount64
 | 60=>some K_stringslite_IndexByte
 | 61=>some K_lex_count
 | 62=>some K_lex_digits
 | 63=>some K_lex_words
 | 64=>some K_lex_spaces
 | 65=>some K_lex_letter
 | 66=>some K_ref06_count
 | _=>none
theorem an_lex_Lex {n:Nat}:A_lex_Lex (tabC T n) (m_lex_Lex n):=fun ro H x0 r f0 hm=>ans_tab (k:=K_lex_Lex) rfl ro H _ x0 r ⟨rfl,f0⟩ hm
theorem an_ref06_Lex {n:Nat}:A_ref06_Lex (tabC T n) (m_ref06_Lex n):=fun ro H x0 r hm=>ans_tab (k:=K_ref06_Lex) rfl ro H _ x0 r rfl hm
theorem an_ref06_Same {n:Nat}:A_ref06_Same (tabC T n) (m_ref06_Same n):=fun ro H x0 b0 x1 b1 r f0 f1 hm=>ans_tab (k:=K_ref06_Same) rfl ro H _ ⟨x0,x1⟩ r ⟨b0,b1,rfl,f0,f1⟩ hm
theorem an_law06_Ref {n:Nat}:A_law06_Ref (tabC T n) (m_law06_Ref n):=fun ro H x0 b0 r f0 hm=>ans_tab (k:=K_law06_Ref) rfl ro H _ x0 r ⟨b0,rfl,f0⟩ hm
theorem an_law06_fixed {n:Nat}:A_law06_fixed (tabC T n) (m_law06_fixed n):=fun ro H  r f0 hm=>ans_tab (k:=K_law06_fixed) rfl ro H _ () r ⟨rfl,f0⟩ hm
theorem an_lex_Class {n:Nat}:A_lex_Class (tabC T n) (m_lex_Class n):=fun ro H x0 x1 r f0 hm=>ans_tab (k:=K_lex_Class) rfl ro H _ ⟨x0,x1⟩ r ⟨rfl,f0⟩ hm
theorem an_ref06_Class {n:Nat}:A_ref06_Class (tabC T n) (m_ref06_Class n):=fun ro H x0 x1 r hm=>ans_tab (k:=K_ref06_Class) rfl ro H _ ⟨x0,x1⟩ r rfl hm
theorem an_class_One {n:Nat}:A_class_One (tabC T n) (m_class_One n):=fun ro H x0 r hm=>ans_tab (k:=K_class_One) rfl ro H _ x0 r rfl hm
theorem an_class_Of {n:Nat}:A_class_Of (tabC T n) (m_class_Of n):=fun ro H x0 r hm=>ans_tab (k:=K_class_Of) rfl ro H _ x0 r rfl hm
theorem an_class_Set_Has {n:Nat}:A_class_Set_Has (tabC T n) (m_class_Set_Has n):=fun ro H x0 x1 r hm=>ans_tab (k:=K_class_Set_Has) rfl ro H _ ⟨x0,x1⟩ r rfl hm
theorem an_class_Range {n:Nat}:A_class_Range (tabC T n) (m_class_Range n):=fun ro H x0 x1 r hm=>ans_tab (k:=K_class_Range) rfl ro H _ ⟨x0,x1⟩ r rfl hm
theorem an_class_Set_Or {n:Nat}:A_class_Set_Or (tabC T n) (m_class_Set_Or n):=fun ro H x0 x1 r hm=>ans_tab (k:=K_class_Set_Or) rfl ro H _ ⟨x0,x1⟩ r rfl hm
theorem an_lex_token {n:Nat}:A_lex_token (tabC T n) (m_lex_token n):=fun ro H x0 r f0 hm=>ans_tab (k:=K_lex_token) rfl ro H _ x0 r ⟨rfl,f0⟩ hm
theorem an_ref06_token {n:Nat}:A_ref06_token (tabC T n) (m_ref06_token n):=fun ro H x0 x1 r hm=>ans_tab (k:=K_ref06_token) rfl ro H _ ⟨x0,x1⟩ r rfl hm
theorem an_class_Set_Not {n:Nat}:A_class_Set_Not (tabC T n) (m_class_Set_Not n):=fun ro H x0 r hm=>ans_tab (k:=K_class_Set_Not) rfl ro H _ x0 r rfl hm
theorem an_strings_HasPrefix {n:Nat}:A_strings_HasPrefix (tabC T n) (m_strings_HasPrefix n):=fun ro H x0 x1 r hm=>ans_tab (k:=K_strings_HasPrefix) rfl ro H _ ⟨x0,x1⟩ r rfl hm
theorem an_lex_span {n:Nat}:A_lex_span (tabC T n) (m_lex_span n):=fun ro H x0 r f0 hm=>ans_tab (k:=K_lex_span) rfl ro H _ x0 r ⟨rfl,f0⟩ hm
theorem an_ref06_starts {n:Nat}:A_ref06_starts (tabC T n) (m_ref06_starts n):=fun ro H x0 x1 x2 r hm=>ans_tab (k:=K_ref06_starts) rfl ro H _ ⟨x0,x1,x2⟩ r rfl hm
theorem an_ref06_item {n:Nat}:A_ref06_item (tabC T n) (m_ref06_item n):=fun ro H x0 x1 r hm=>ans_tab (k:=K_ref06_item) rfl ro H _ ⟨x0,x1⟩ r rfl hm
theorem an_ref01_Min {n:Nat}:A_ref01_Min (tabC T n) (m_ref01_Min n):=fun ro H x0 r hm=>ans_tab (k:=K_ref01_Min) rfl ro H _ x0 r rfl hm
theorem an_ref01_Len {n:Nat}:A_ref01_Len (tabC T n) (m_ref01_Len n):=fun ro H x0 r hm=>ans_tab (k:=K_ref01_Len) rfl ro H _ x0 r rfl hm
theorem an_ref01_Range {n:Nat}:A_ref01_Range (tabC T n) (m_ref01_Range n):=fun ro H x0 x1 r hm=>ans_tab (k:=K_ref01_Range) rfl ro H _ ⟨x0,x1⟩ r rfl hm
theorem an_ref01_Or {n:Nat}:A_ref01_Or (tabC T n) (m_ref01_Or n):=fun ro H x0 x1 r hm=>ans_tab (k:=K_ref01_Or) rfl ro H _ ⟨x0,x1⟩ r rfl hm
theorem an_ref01_Not {n:Nat}:A_ref01_Not (tabC T n) (m_ref01_Not n):=fun ro H x0 r hm=>ans_tab (k:=K_ref01_Not) rfl ro H _ x0 r rfl hm
theorem an_ref01_Words {n:Nat}:A_ref01_Words (tabC T n) (m_ref01_Words n):=fun ro H x0 r hm=>ans_tab (k:=K_ref01_Words) rfl ro H _ x0 r rfl hm
theorem an_class_Set_add {n:Nat}:A_class_Set_add (tabC T n) (m_class_Set_add n):=fun ro H x0 b0 x1 r f0 f1 hm=>ans_tab (k:=K_class_Set_add) rfl ro H _ ⟨x0,x1⟩ r ⟨b0,rfl,f0,f1⟩ hm
theorem an_lex_simple {n:Nat}:A_lex_simple (tabC T n) (m_lex_simple n):=fun ro H x0 r hm=>ans_tab (k:=K_lex_simple) rfl ro H _ x0 r rfl hm
theorem an_lex_opening {n:Nat}:A_lex_opening (tabC T n) (m_lex_opening n):=fun ro H x0 r hm=>ans_tab (k:=K_lex_opening) rfl ro H _ x0 r rfl hm
theorem an_lex_quant {n:Nat}:A_lex_quant (tabC T n) (m_lex_quant n):=fun ro H x0 r hm=>ans_tab (k:=K_lex_quant) rfl ro H _ x0 r rfl hm
theorem an_lex_escaped {n:Nat}:A_lex_escaped (tabC T n) (m_lex_escaped n):=fun ro H x0 r hm=>ans_tab (k:=K_lex_escaped) rfl ro H _ x0 r rfl hm
theorem an_ref06_flags {n:Nat}:A_ref06_flags (tabC T n) (m_ref06_flags n):=fun ro H x0 x1 r hm=>ans_tab (k:=K_ref06_flags) rfl ro H _ ⟨x0,x1⟩ r rfl hm
theorem an_ref06_quant {n:Nat}:A_ref06_quant (tabC T n) (m_ref06_quant n):=fun ro H x0 x1 r hm=>ans_tab (k:=K_ref06_quant) rfl ro H _ ⟨x0,x1⟩ r rfl hm
theorem an_ref06_one {n:Nat}:A_ref06_one (tabC T n) (m_ref06_one n):=fun ro H x0 r hm=>ans_tab (k:=K_ref06_one) rfl ro H _ x0 r rfl hm
theorem an_ref06_escape {n:Nat}:A_ref06_escape (tabC T n) (m_ref06_escape n):=fun ro H x0 x1 r hm=>ans_tab (k:=K_ref06_escape) rfl ro H _ ⟨x0,x1⟩ r rfl hm
theorem an_stringslite_HasPrefix {n:Nat}:A_stringslite_HasPrefix (tabC T n) (m_stringslite_HasPrefix n):=fun ro H x0 x1 r hm=>ans_tab (k:=K_stringslite_HasPrefix) rfl ro H _ ⟨x0,x1⟩ r rfl hm
theorem an_lex_item {n:Nat}:A_lex_item (tabC T n) (m_lex_item n):=fun ro H x0 r hm=>ans_tab (k:=K_lex_item) rfl ro H _ x0 r rfl hm
theorem an_class_Set_Min {n:Nat}:A_class_Set_Min (tabC T n) (m_class_Set_Min n):=fun ro H x0 r f0 hm=>ans_tab (k:=K_class_Set_Min) rfl ro H _ x0 r ⟨rfl,f0⟩ hm
theorem an_class_Set_Len {n:Nat}:A_class_Set_Len (tabC T n) (m_class_Set_Len n):=fun ro H x0 r hm=>ans_tab (k:=K_class_Set_Len) rfl ro H _ x0 r rfl hm
theorem an_strings_IndexByte {n:Nat}:A_strings_IndexByte (tabC T n) (m_strings_IndexByte n):=fun ro H x0 x1 r hm=>ans_tab (k:=K_strings_IndexByte) rfl ro H _ ⟨x0,x1⟩ r rfl hm
theorem an_lex_hasRune {n:Nat}:A_lex_hasRune (tabC T n) (m_lex_hasRune n):=fun ro H x0 x1 r hm=>ans_tab (k:=K_lex_hasRune) rfl ro H _ ⟨x0,x1⟩ r rfl hm
theorem an_lex_counted {n:Nat}:A_lex_counted (tabC T n) (m_lex_counted n):=fun ro H x0 r hm=>ans_tab (k:=K_lex_counted) rfl ro H _ x0 r rfl hm
theorem an_lex_digit {n:Nat}:A_lex_digit (tabC T n) (m_lex_digit n):=fun ro H x0 x1 r hm=>ans_tab (k:=K_lex_digit) rfl ro H _ ⟨x0,x1⟩ r rfl hm
theorem an_lex_escape {n:Nat}:A_lex_escape (tabC T n) (m_lex_escape n):=fun ro H x0 r hm=>ans_tab (k:=K_lex_escape) rfl ro H _ x0 r rfl hm
theorem an_ref06_braces {n:Nat}:A_ref06_braces (tabC T n) (m_ref06_braces n):=fun ro H x0 x1 r hm=>ans_tab (k:=K_ref06_braces) rfl ro H _ ⟨x0,x1⟩ r rfl hm
theorem an_ref06_word {n:Nat}:A_ref06_word (tabC T n) (m_ref06_word n):=fun ro H  r hm=>ans_tab (k:=K_ref06_word) rfl ro H _ () r rfl hm
theorem an_ref06_space {n:Nat}:A_ref06_space (tabC T n) (m_ref06_space n):=fun ro H  r hm=>ans_tab (k:=K_ref06_space) rfl ro H _ () r rfl hm
theorem an_ref06_Digit {n:Nat}:A_ref06_Digit (tabC T n) (m_ref06_Digit n):=fun ro H x0 r hm=>ans_tab (k:=K_ref06_Digit) rfl ro H _ x0 r rfl hm
theorem an_bits_TrailingZeros64 {n:Nat}:A_bits_TrailingZeros64 (tabC T n) (m_bits_TrailingZeros64 n):=fun ro H x0 r f0 hm=>ans_tab (k:=K_bits_TrailingZeros64) rfl ro H _ x0 r ⟨rfl,f0⟩ hm
theorem an_bits_OnesCount64 {n:Nat}:A_bits_OnesCount64 (tabC T n) (m_bits_OnesCount64 n):=fun ro H x0 r hm=>ans_tab (k:=K_bits_OnesCount64) rfl ro H _ x0 r rfl hm
theorem an_stringslite_IndexByte {n:Nat}:A_stringslite_IndexByte (tabC T n) (m_stringslite_IndexByte n):=fun ro H x0 x1 r hm=>ans_tab (k:=K_stringslite_IndexByte) rfl ro H _ ⟨x0,x1⟩ r rfl hm
theorem an_lex_count {n:Nat}:A_lex_count (tabC T n) (m_lex_count n):=fun ro H x0 r hm=>ans_tab (k:=K_lex_count) rfl ro H _ x0 r rfl hm
theorem an_lex_digits {n:Nat}:A_lex_digits (tabC T n) (m_lex_digits n):=fun ro H  r hm=>ans_tab (k:=K_lex_digits) rfl ro H _ () r rfl hm
theorem an_lex_words {n:Nat}:A_lex_words (tabC T n) (m_lex_words n):=fun ro H  r hm=>ans_tab (k:=K_lex_words) rfl ro H _ () r rfl hm
theorem an_lex_spaces {n:Nat}:A_lex_spaces (tabC T n) (m_lex_spaces n):=fun ro H  r hm=>ans_tab (k:=K_lex_spaces) rfl ro H _ () r rfl hm
theorem an_lex_letter {n:Nat}:A_lex_letter (tabC T n) (m_lex_letter n):=fun ro H x0 r hm=>ans_tab (k:=K_lex_letter) rfl ro H _ x0 r rfl hm
theorem an_ref06_count {n:Nat}:A_ref06_count (tabC T n) (m_ref06_count n):=fun ro H x0 x1 r hm=>ans_tab (k:=K_ref06_count) rfl ro H _ ⟨x0,x1⟩ r rfl hm
end Go.Proofs.YtcjnmmeibppblaaDoor
