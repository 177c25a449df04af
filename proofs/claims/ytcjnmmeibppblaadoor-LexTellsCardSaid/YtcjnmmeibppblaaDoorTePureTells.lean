import Derived.Test.YtcjnmmeibppblaaDoorTePure8
import Derived.Test.YtcjnmmeibppblaaDoorTeLaw2
set_option maxRecDepth 100000
set_option linter.unusedVariables false
set_option linter.unusedSimpArgs false
namespace Go.Proofs.YtcjnmmeibppblaaDoor.lexTells
open Go Go.AM
theorem fixed:m_law06_fixed 2000 = some true:=by kernel_rfl
theorem toks_len:∀ (k:Nat) (l:List Int) (ts:List STok),Byt l → toks k l = .ok ts → ts.length ≤ l.length:=by
 intro k
 induction k with
 | zero=>intro l ts _ h; cases h
 | succ k ih =>
  intro l ts hl ht
  rw [toks] at ht
  by_cases h0:l = []
  ·rw [if_pos h0] at ht; injection ht with ht; subst ht; simp
  rw [if_neg h0] at ht
  have hr:=tok_rng hl
  generalize tok l = x at hr ht
  match x,hr,ht with
  | .error e,hr,ht=>cases ht
  | .ok (t,m),hr,ht =>
   have hm:=hr t m rfl
   simp only [] at ht
   cases hx:toks k (l.drop m) with
   | error e=>rw [hx] at ht; cases ht
   | ok vs =>
    rw [hx] at ht
    injection ht with ht
    subst ht
    have:=ih _ _ (hl.drop m) hx
    rw [List.length_drop] at this
    rw [List.length_cons]; omega
theorem pure (x0:ByteArray) (_:x0.size ≤ maxLen):∃ n,m_law06_LexTells n x0 = some true:=by
 refine ⟨2001,?_⟩
 show b_law06_LexTells (m_lex_Lex 2000) (m_ref06_Lex 2000) (m_ref06_Same 2000) (m_law06_Ref 2000) (m_law06_fixed 2000) 2000 x0 = _
 unfold b_law06_LexTells
 have hmin:min ((x0.size:Int)) 1100 = ((min x0.size 1100:Nat):Int):=by omega
 obtain ⟨s,hs,hb⟩:=sub_eq (s:=x0) (a:=0) (b:=min x0.size 1100) (by omega) (by omega)
 have hz:s.size ≤ 1100:=by
  have:=congrArg List.length hb
  rw [B_len,List.length_take,List.length_drop,B_len] at this
  omega
 rw [hmin,show (0:Int) = ((0:Nat):Int) from rfl,hs,Option.bind_some,lex_eq (by omega),Option.bind_some,rlex_eq (by omega),Option.bind_some]
 cases hx:lexS (B s) with
 | error e =>
  have h1:m_law06_Ref 2000 (lexR [] (.error e)).1 = some (some []):=by kernel_rfl
  have h2:m_ref06_Same 2000 (some []) none = some true:=by kernel_rfl
  rw [h1,Option.bind_some,h2,Option.bind_some]
  simp only [lexR,decide_true,Bool.and_self,cond_true]
  rw [fixed]
  rfl
 | ok ts =>
  have hl:ts.length ≤ 1100:=by
   rw [lexS] at hx
   split at hx
   ·cases hx
   ·have:=toks_len _ _ _ (B_byt s) hx
    rw [B_len] at this
    omega
  have hsl:Sl.l (lexR [] (.ok ts)).1 = ts.map toLex:=by simp only [lexR,List.nil_append]; exact slOf_l _
  rw [ref_eq (by rw [hsl]; simp; omega) (by rw [hsl]; simp; omega),hsl,Option.bind_some,List.map_map]
  have:(toRef ∘ toLex) = fun t=>toRef (toLex t):=rfl
  rw [this,same_eq (by simp; omega) (by simp; omega),Option.bind_some]
  simp only [lexR,decide_true,Bool.and_self,cond_true]
  rw [fixed]
  rfl
end Go.Proofs.YtcjnmmeibppblaaDoor.lexTells
