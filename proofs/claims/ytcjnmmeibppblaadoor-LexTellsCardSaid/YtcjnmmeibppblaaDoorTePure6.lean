import Derived.Test.YtcjnmmeibppblaaDoorTePure5
set_option maxRecDepth 100000
set_option linter.unusedVariables false
set_option linter.unusedSimpArgs false
namespace Go.Proofs.YtcjnmmeibppblaaDoor
open Go Go.AM
theorem pre_len {h l:List Int} (e:pre h l = true):h.length ≤ l.length:=by
 have:=congrArg List.length (of_decide_eq_true e)
 rw [List.length_take] at this
 omega
theorem flg_rng {l:List Int}:∀ {fl f:List Int},flg fl l = some f → f.length + 1 ≤ fl.length + l.length:=by
 induction l with
 | nil=>intro fl f h; cases h
 | cons c r ih =>
  intro fl f h
  rw [flg] at h
  by_cases h1:c = 58 ∧ fl ≠ []
  ·rw [if_pos h1] at h; injection h with h; subst h; simp
  ·rw [if_neg h1] at h
   by_cases h2:(c ≠ 105 ∧ c ≠ 109 ∧ c ≠ 115) ∨ c ∈ fl
   ·rw [if_pos h2] at h; cases h
   ·rw [if_neg h2] at h
    have:=ih h
    simp at this ⊢
    omega
def Res (l:List Int) (x:Except Int (STok × Nat)):Prop:=∀ t k,x = .ok (t,k) → 1 ≤ k ∧ k ≤ l.length
theorem res_ok {l:List Int} {t:STok} {k:Nat} (h:1 ≤ k) (h':k ≤ l.length):Res l (.ok (t,k)):=fun t' k' e=>by
 injection e with e; injection e with _ e2; omega
theorem res_err {l:List Int} {e:Int}:Res l (.error e):=fun t' k' e=>nomatch e
theorem opn_rng {c:Int} {r:List Int}:Res (c :: r) (opn (c :: r)):=by
 rw [opn]
 by_cases h0:pre [40,63] (c :: r) = false
 ·rw [if_pos h0]; exact res_ok (by omega) (by simp)
 rw [if_neg h0]
 by_cases h1:pre [40,63,58] (c :: r) = true
 ·rw [if_pos h1]; exact res_ok (by omega) (pre_len h1)
 rw [if_neg h1]
 by_cases h2:pre [40,63,61] (c :: r) = true
 ·rw [if_pos h2]; exact res_ok (by omega) (pre_len h2)
 rw [if_neg h2]
 by_cases h3:pre [40,63,33] (c :: r) = true
 ·rw [if_pos h3]; exact res_ok (by omega) (pre_len h3)
 rw [if_neg h3]
 by_cases h4:pre [40,63,60,61] (c :: r) = true
 ·rw [if_pos h4]; exact res_ok (by omega) (pre_len h4)
 rw [if_neg h4]
 by_cases h5:pre [40,63,60,33] (c :: r) = true
 ·rw [if_pos h5]; exact res_ok (by omega) (pre_len h5)
 rw [if_neg h5]
 by_cases h6:pre [40,63,62] (c :: r) = true
 ·rw [if_pos h6]; exact res_ok (by omega) (pre_len h6)
 rw [if_neg h6]
 have hp:=pre_len (by simpa using h0:pre [40,63] (c :: r) = true)
 cases hf:flg [] ((c :: r).drop 2) with
 | none=>exact res_err
 | some f =>
  have:=flg_rng hf
  simp only [List.length_drop,List.length_nil] at this
  exact res_ok (by omega) (by simp only [List.length_cons,List.length_nil] at hp ⊢ this; omega)
theorem md_rng (l:List Int):(md l).2 ≤ l.length ∧ (md l).2 ≤ 1 ∧ 0 ≤ (md l).1 ∧ (md l).1 ≤ 2:=by
 rw [md]
 by_cases h0:pre [63] l = true
 ·have:=pre_len h0
  rw [if_pos h0]; simp at this ⊢; omega
 rw [if_neg h0]
 by_cases h1:pre [43] l = true
 ·have:=pre_len h1
  rw [if_pos h1]; simp at this ⊢; omega
 rw [if_neg h1]
 simp
theorem rep_rng {l:List Int} {a b:Int} {k:Nat} (h1:1 ≤ k) (h2:k ≤ l.length):Res l (rep a b l k):=by
 have:=(md_rng (l.drop k)).1
 rw [List.length_drop] at this
 exact res_ok (by omega) (by omega)
theorem hd_lt {l:List Int} {k:Nat} {c:Int} (h:(l.drop k).head? = some c):k < l.length:=by
 rw [List.head?_drop] at h
 rcases Nat.lt_or_ge k l.length with h' | h'
 ·exact h'
 ·rw [List.getElem?_eq_none h'] at h; cases h
theorem brc_rng {r:List Int} {a b:Int} {k:Nat} (h:brc r = some (a,b,k)):3 ≤ k ∧ k ≤ r.length + 1 ∧ 0 ≤ a ∧ -1 ≤ b ∧ a ≤ 999 ∧ b ≤ 999:=by
 rw [brc] at h
 have h1:=cnt_rng r
 have h2:=cnt_rng (r.drop ((cnt r).2 + 1))
 by_cases e0:(cnt r).2 = 0
 ·rw [if_pos e0] at h; cases h
 rw [if_neg e0] at h
 by_cases e1:(r.drop (cnt r).2).head? = some 44
 ·rw [if_pos e1] at h
  by_cases e2:((r.drop ((cnt r).2 + 1)).drop (cnt (r.drop ((cnt r).2 + 1))).2).head? = some 125
  ·rw [if_pos e2] at h
   have:=hd_lt e2
   rw [List.length_drop] at this
   simp only [Option.some.injEq,Prod.mk.injEq] at h
   obtain ⟨rfl,rfl,rfl⟩:=h
   refine ⟨by omega,by omega,by omega,?_,by omega,?_⟩
   ·split <;> omega
   ·split <;> omega
  ·rw [if_neg e2] at h; cases h
 ·rw [if_neg e1] at h
  by_cases e2:(r.drop (cnt r).2).head? = some 125
  ·rw [if_pos e2] at h
   have:=hd_lt e2
   simp only [Option.some.injEq,Prod.mk.injEq] at h
   obtain ⟨rfl,rfl,rfl⟩:=h
   omega
  ·rw [if_neg e2] at h; cases h
theorem qnt_rng {c:Int} {r:List Int}:Res (c :: r) (qnt (c :: r)):=by
 rw [qnt]
 by_cases h1:c = 43
 ·rw [if_pos h1]; exact rep_rng (by omega) (by simp)
 rw [if_neg h1]
 by_cases h2:c = 63
 ·rw [if_pos h2]; exact rep_rng (by omega) (by simp)
 rw [if_neg h2]
 by_cases h3:c = 123
 ·rw [if_pos h3]
  cases hb:brc r with
  | none=>exact res_err
  | some x =>
   obtain ⟨a,b,k⟩:=x
   have:=brc_rng hb
   simp only []
   by_cases h4:100 < Max.max a b
   ·rw [if_pos h4]; exact res_err
   rw [if_neg h4]
   by_cases h5:b ≠ -1 ∧ b < a
   ·rw [if_pos h5]; exact res_err
   rw [if_neg h5]
   exact rep_rng (by omega) (by simp; omega)
 ·rw [if_neg h3]; exact rep_rng (by omega) (by simp)
theorem escd_rng {c:Int} {r:List Int} (hr:Byt r):Res (c :: r) (escd r):=by
 rw [escd.eq_def]
 by_cases h1:pre [98] r = true
 ·have:=pre_len h1
  rw [if_pos h1]; exact res_ok (by omega) (by simp at this ⊢; omega)
 rw [if_neg h1]
 by_cases h2:pre [66] r = true
 ·have:=pre_len h2
  rw [if_pos h2]; exact res_ok (by omega) (by simp at this ⊢; omega)
 rw [if_neg h2]
 cases r with
 | nil=>exact res_err
 | cons d r =>
  simp only []
  by_cases h3:49 ≤ d ∧ d ≤ 57
  ·rw [if_pos h3]; exact res_ok (by omega) (by simp)
  rw [if_neg h3]
  cases he:esc (d :: r) with
  | none=>exact res_err
  | some x =>
   obtain ⟨a,k⟩:=x
   have:=esc_rng hr he
   exact res_ok (by omega) (by simp at this ⊢; omega)
theorem tok_rng {l:List Int} (hl:Byt l):Res l (tok l):=by
 cases l with
 | nil=>exact res_err
 | cons c r =>
  have hr:Byt r:=fun c hc=>hl c (by simp [hc])
  rw [tok]
  by_cases h1:c = 46
  ·rw [if_pos h1]; exact res_ok (by omega) (by simp)
  rw [if_neg h1]
  by_cases h2:c = 94
  ·rw [if_pos h2]; exact res_ok (by omega) (by simp)
  rw [if_neg h2]
  by_cases h3:c = 36
  ·rw [if_pos h3]; exact res_ok (by omega) (by simp)
  rw [if_neg h3]
  by_cases h4:c = 124
  ·rw [if_pos h4]; exact res_ok (by omega) (by simp)
  rw [if_neg h4]
  by_cases h5:c = 41
  ·rw [if_pos h5]; exact res_ok (by omega) (by simp)
  rw [if_neg h5]
  by_cases h6:c = 40
  ·rw [if_pos h6]; exact opn_rng
  rw [if_neg h6]
  by_cases h7:c = 42 ∨ c = 43 ∨ c = 63 ∨ c = 123
  ·rw [if_pos h7]; exact qnt_rng
  rw [if_neg h7]
  by_cases h8:c = 91
  ·rw [if_pos h8]
   cases hc:cls (c :: r) with
   | none=>exact res_err
   | some x =>
    obtain ⟨P,k⟩:=x
    have:=cls_rng hl hc
    exact res_ok (by omega) (by omega)
  rw [if_neg h8]
  by_cases h9:c = 92
  ·rw [if_pos h9]; exact escd_rng hr
  rw [if_neg h9]
  by_cases h10:c = 93 ∨ c = 125
  ·rw [if_pos h10]; exact res_err
  rw [if_neg h10]
  exact res_ok (by omega) (by simp)
theorem mode_eq {n:Nat} {s:ByteArray} {k:Nat} {a b:Int} {z:lex_Token} {c:T_lex_counted} (hn:9 ≤ n) (hz:s.size ≤ 100000) (hk:k ≤ s.size) :
  b_lex_quant_1 (m_strings_HasPrefix n) c n s z ⟨16,class_Set.zero,a,b,0,0,⟨#[]⟩⟩ (k:Int) = some (tokR (rep a b (B s) k)):=by
 rw [b_lex_quant_1]
 obtain ⟨u,hu,hb,hus⟩:=sub_drop s (t:=k) hk
 rw [hu,Option.bind_some,prefix_eq _ _ (by omega),prefix_eq _ _ (by omega),Option.bind_some,Option.bind_some,hb,show B ⟨#[63]⟩ = [63] from rfl,show B ⟨#[43]⟩ = [43] from rfl,wp1 (by omega)]
 simp only [rep,md]
 cases h0:pre [63] ((B s).drop k) with
 | true =>
  simp only [cond_true,if_true,b_lex_quant_2,tokR]
  rw [lexMk]
 | false =>
  simp only [cond_false,Bool.false_eq_true,if_false]
  cases h1:pre [43] ((B s).drop k) with
  | true =>
   simp only [cond_true,if_true,b_lex_quant_2,tokR]
   rw [lexMk]
  | false =>
   simp only [cond_false,Bool.false_eq_true,if_false,b_lex_quant_2,tokR]
   rw [lexMk]
   rfl
theorem qnt_eq {n:Nat} {s:ByteArray} {c:Int} {r:List Int} (hn:40 ≤ n) (hz:s.size ≤ 100000) (hs:B s = c :: r):m_lex_quant n s = some (tokR (qnt (c :: r))):=by
 obtain ⟨n,rfl⟩:∃ m,n = m + 1:=⟨n - 1,by omega⟩
 show b_lex_quant (m_strings_HasPrefix n) (m_lex_counted n) n s = _
 unfold b_lex_quant
 obtain ⟨e0,e1,c0,c1⟩:=Go.Proofs.YtcjnmmeibppblaaDoor.hd hs
 have hl:s.size = r.length + 1:=by rw [← B_len,hs]; simp
 rw [e0,Option.bind_some,qnt]
 have hm:∀ (a b:Int),b_lex_quant_1 (m_strings_HasPrefix n) (m_lex_counted n) n s lex_Token.zero ⟨16,class_Set.zero,a,b,0,0,⟨#[]⟩⟩ 1 = some (tokR (rep a b (c :: r) 1)):=fun a b=>by
  rw [← hs]
  exact mode_eq (k:=1) (by omega) hz (by omega)
 by_cases h1:c = 43
 ·simp only [h1,decide_true,cond_true,if_true]
  rw [← h1]
  exact hm 1 (-1)
 simp only [h1,decide_false,cond_false,if_false]
 by_cases h2:c = 63
 ·simp only [h2,decide_true,cond_true,if_true]
  rw [← h2]
  exact hm 0 1
 simp only [h2,decide_false,cond_false,if_false]
 by_cases h3:c = 123
 ·simp only [h3,decide_true,cond_true,if_true]
  rw [brc_eq (by omega) hz hs,Option.bind_some]
  cases hb:brc r with
  | none=>rfl
  | some x =>
   obtain ⟨a,b,k⟩:=x
   have hr:=brc_rng hb
   simp only [brcR]
   have hk0:¬ ((k:Int) = 0):=by omega
   simp only [hk0,decide_false,cond_false]
   by_cases h4:100 < Max.max a b
   ·simp only [h4,decide_true,cond_true,if_true]; rfl
   simp only [h4,decide_false,cond_false,if_false]
   rw [← h3,← hs]
   by_cases h5:b = -1
   ·simp only [h5,decide_true,Bool.not_true,Bool.false_and,cond_false]
    rw [if_neg (by intro h; exact h.1 rfl)]
    exact mode_eq (by omega) hz (by omega)
   by_cases h6:b < a
   ·simp only [h5,h6,decide_true,decide_false,Bool.not_false,Bool.and_self,cond_true]
    rw [if_pos (by exact ⟨h5,trivial⟩)]
    rfl
   ·simp only [h5,h6,decide_false,Bool.and_false,cond_false]
    rw [if_neg (by intro h; exact h.2)]
    exact mode_eq (by omega) hz (by omega)
 ·simp only [h3,decide_false,cond_false,if_false]
  exact hm 0 (-1)
theorem escd_eq {n:Nat} {s:ByteArray} {c:Int} {r:List Int} (hn:350 ≤ n) (hz:s.size ≤ 100000) (hs:B s = c :: r):m_lex_escaped n s = some (tokR (escd r)):=by
 obtain ⟨n,rfl⟩:∃ m,n = m + 1:=⟨n - 1,by omega⟩
 show b_lex_escaped (m_strings_HasPrefix n) (m_lex_digit n) (m_lex_escape n) n s = _
 unfold b_lex_escaped
 have hl:s.size = r.length + 1:=by rw [← B_len,hs]; simp
 obtain ⟨u,hu,hb,hus⟩:=sub_drop s (t:=1) (by omega)
 have hb1:B u = r:=by rw [hb,hs]; rfl
 rw [show (1:Int) = ((1:Nat):Int) from rfl,hu,Option.bind_some,prefix_eq _ _ (by omega),prefix_eq _ _ (by omega),Option.bind_some,Option.bind_some,hb1,show B ⟨#[98]⟩ = [98] from rfl,show B ⟨#[66]⟩ = [66] from rfl,escd.eq_def]
 cases h1:pre [98] r with
 | true=>simp only [cond_true,if_true,tokR]; exact congrArg some (Prod.ext (lexMk 4 0 0 0 0) rfl)
 | false =>
 simp only [cond_false,Bool.false_eq_true,if_false]
 cases h2:pre [66] r with
 | true=>simp only [cond_true,if_true,tokR]; exact congrArg some (Prod.ext (lexMk 5 0 0 0 0) rfl)
 | false =>
 simp only [cond_false,Bool.false_eq_true,if_false]
 rw [esc_eq (by omega),hb1]
 cases r with
 | nil =>
  have:u = (⟨#[]⟩:ByteArray):=B_nil.2 hb1
  simp only [this,decide_true,Bool.not_true,cond_false,Option.bind_some]
  rfl
 | cons d r =>
  obtain ⟨e0,e1,c0,c1⟩:=Go.Proofs.YtcjnmmeibppblaaDoor.hd hb1
  rw [e0,e1]
  simp only [Bool.not_false,cond_true,Option.bind_some]
  rw [dig10 (by omega) c0 c1]
  simp only [Option.bind_some]
  by_cases h3:49 ≤ d ∧ d ≤ 57
  ·have h4:48 ≤ d ∧ d ≤ 57:=⟨by omega,h3.2⟩
   have h5:(0:Int) < d - 48:=by omega
   rw [if_pos h3]
   simp only [if_pos h4,h5,decide_true,cond_true,Option.bind_some,tokR]
   exact congrArg some (Prod.ext (lexMk 17 0 0 0 _) rfl)
  ·rw [if_neg h3]
   have h5:¬ ((0:Int) < (if 48 ≤ d ∧ d ≤ 57 then d - 48 else -1)):=by split <;> omega
   simp only [h5,decide_false,cond_false]
   cases he:esc (d :: r) with
   | none=>rfl
   | some x =>
    obtain ⟨a,k⟩:=x
    have hk:=esc_rng (fun c hc=>B_rng (s:=u) (by rw [hb1]; exact hc)) he
    have hk2:k ≤ u.size:=by rw [← B_len,hb1]; exact hk.2.1
    have hk0:¬ ((k:Int) = 0):=by omega
    simp only [escR,hk0,decide_false,cond_false]
    rw [show IntKind.i64.wrap ((k:Int) + ((1:Nat):Int)) = ((k + 1:Nat):Int) from wp1 (by omega)]
    rfl
theorem simple_eq {n:Nat} {c:Int} (h:4 ≤ n) (h0:0 ≤ c) (h1:c < 256):m_lex_simple n c = some (if c = 46 then (1,true) else if c = 94 then (2,true) else if c = 36 then (3,true) else if c = 124 then (6,true) else if c = 41 then (15,true) else (0,false)):=by
 obtain ⟨n,rfl⟩:∃ m,n = m + 4:=⟨n - 4,by omega⟩
 have e:((List.range 256).all fun c=>m_lex_simple (n + 4) (c:Int) == some (if (c:Int) = 46 then (1,true) else if (c:Int) = 94 then (2,true) else if (c:Int) = 36 then (3,true) else if (c:Int) = 124 then (6,true) else if (c:Int) = 41 then (15,true) else (0,false))) = true:=by kernel_rfl
 exact beq_iff_eq.1 (all256 (f:=fun c=>m_lex_simple (n + 4) c == some (if c = 46 then (1,true) else if c = 94 then (2,true) else if c = 36 then (3,true) else if c = 124 then (6,true) else if c = 41 then (15,true) else (0,false))) e h0 h1)
theorem tok2_eq {n:Nat} {s:ByteArray} {c:Int} {r:List Int} {z:lex_Token} (hn:380 + s.size ≤ n) (hz:s.size ≤ 100000) (hs:B s = c :: r) (h1:c ≠ 46) (h2:c ≠ 94) (h3:c ≠ 36) (h4:c ≠ 124) (h5:c ≠ 41) (h6:c ≠ 40) :
  b_lex_token_2 (m_lex_Class n) (m_class_One n) (m_lex_simple n) (m_lex_opening n) (m_lex_quant n) (m_lex_escaped n) n s z c (decide (c = 42 ∨ c = 43 ∨ c = 63 ∨ c = 123)) = some (tokR (tok (c :: r))):=by
 obtain ⟨e0,e1,c0,c1⟩:=Go.Proofs.YtcjnmmeibppblaaDoor.hd hs
 rw [b_lex_token_2,tok,if_neg h1,if_neg h2,if_neg h3,if_neg h4,if_neg h5,if_neg h6]
 by_cases h7:c = 42 ∨ c = 43 ∨ c = 63 ∨ c = 123
 ·simp only [h7,decide_true,cond_true,if_true]
  rw [qnt_eq (by omega) hz hs,Option.bind_some]
 simp only [h7,decide_false,cond_false,if_false]
 by_cases h8:c = 91
 ·simp only [h8,decide_true,cond_true,if_true]
  have h91:((B s).drop 0).head? = some 91:=by rw [List.drop_zero,hs,h8]; rfl
  have e:=class_eq (n:=n) (s:=s) (at_:=0) (by omega) hz h91
  rw [List.drop_zero,hs,h8] at e
  rw [show (0:Int) = ((0:Nat):Int) from rfl,e,Option.bind_some]
  cases cls (91 :: r) with
  | none=>rfl
  | some x =>
   obtain ⟨P,k⟩:=x
   simp only [clsR,tokR,Bool.false_xor,Nat.zero_add,toLex]
   rfl
 simp only [h8,decide_false,cond_false,if_false]
 by_cases h9:c = 92
 ·simp only [h9,decide_true,cond_true,if_true]
  rw [escd_eq (by omega) hz hs,Option.bind_some]
 simp only [h9,decide_false,cond_false,if_false]
 by_cases h10:c = 93
 ·subst h10; rfl
 by_cases h11:c = 125
 ·subst h11; rfl
 simp only [h10,h11,decide_false,cond_false,if_false,or_self]
 rw [e0,Option.bind_some,one_W (by omega) c0 c1,Option.bind_some]
 rfl
theorem tok_eq {n:Nat} {s:ByteArray} (hn:390 + s.size ≤ n) (hz:s.size ≤ 100000) (hs:B s ≠ []):m_lex_token n s = some (tokR (tok (B s))):=by
 obtain ⟨n,rfl⟩:∃ m,n = m + 1:=⟨n - 1,by omega⟩
 show b_lex_token (m_lex_Class n) (m_class_One n) (m_lex_simple n) (m_lex_opening n) (m_lex_quant n) (m_lex_escaped n) n s = _
 unfold b_lex_token
 cases hb:B s with
 | nil=>exact absurd hb hs
 | cons c r =>
  obtain ⟨e0,e1,c0,c1⟩:=Go.Proofs.YtcjnmmeibppblaaDoor.hd hb
  rw [e0,Option.bind_some,simple_eq (by omega) c0 c1,Option.bind_some]
  by_cases h1:c = 46
  ·subst h1; exact congrArg some (Prod.ext (lexMk 1 0 0 0 0) rfl)
  by_cases h2:c = 94
  ·subst h2; exact congrArg some (Prod.ext (lexMk 2 0 0 0 0) rfl)
  by_cases h3:c = 36
  ·subst h3; exact congrArg some (Prod.ext (lexMk 3 0 0 0 0) rfl)
  by_cases h4:c = 124
  ·subst h4; exact congrArg some (Prod.ext (lexMk 6 0 0 0 0) rfl)
  by_cases h5:c = 41
  ·subst h5; exact congrArg some (Prod.ext (lexMk 15 0 0 0 0) rfl)
  simp only [if_neg h1,if_neg h2,if_neg h3,if_neg h4,if_neg h5,cond_false]
  by_cases h6:c = 40
  ·simp only [h6,decide_true,cond_true]
   rw [opn_eq (by omega) hz,Option.bind_some,hb,h6]
   rfl
  simp only [h6,decide_false,cond_false]
  have e:=tok2_eq (n:=n) (z:=lex_Token.zero) (by omega) hz hb h1 h2 h3 h4 h5 h6
  by_cases h7:c = 42
  ·simp only [h7,decide_true,cond_true]; rw [h7] at e; simpa using e
  by_cases h8:c = 43
  ·simp only [h7,h8,decide_true,decide_false,cond_true,cond_false]; rw [h8] at e; simpa using e
  by_cases h9:c = 63
  ·simp only [h7,h8,h9,decide_true,decide_false,cond_true,cond_false]; rw [h9] at e; simpa using e
  simp only [h7,h8,h9,decide_false,cond_false]
  simp only [h7,h8,h9,false_or] at e
  exact e
def toks:Nat → List Int → Except Int (List STok)
 | 0,_=>.error 0
 | k + 1,l=>if l = [] then .ok [] else match tok l with
  | .error e=>.error e
  | .ok (t,m)=>match toks k (l.drop m) with
   | .error e=>.error e
   | .ok ts=>.ok (t :: ts)
def lexS (l:List Int):Except Int (List STok):=if 1000 < l.length then .error 4 else toks (l.length + 1) l
def slOf {α:Type}:List α → Sl α
 | []=>none
 | x :: l=>some (x :: l)
theorem slOf_l {α:Type} (l:List α):Sl.l (slOf l) = l:=by cases l <;> rfl
theorem slOf_app {α:Type} (l:List α) (x:α) (h:l.length ≤ 100000):Sl.app 88 (slOf l) (some [x]) = some (slOf (l ++ [x])):=by
 rw [Sl.app,slOf_l]
 have h1:¬ ((Sl.l (some [x])).length = 0):=by show ¬ ((1:Nat) = 0); decide
 have h2:(l.length + (Sl.l (some [x])).length) * 88 ≤ roomMost:=by
  show (l.length + 1) * 88 ≤ roomMost
  have:(100001 * 88:Nat) ≤ roomMost:=by decide +kernel
  omega
 rw [if_neg h1,if_pos h2]
 cases l <;> rfl
def lexR (acc:List lex_Token):Except Int (List STok) → Sl lex_Token × Int
 | .error e=>(none,e)
 | .ok ts=>(slOf (acc ++ ts.map toLex),0)
theorem tok_err (l:List Int) {e:Int} (h:tok l = .error e):e = 3 ∨ e = 4:=by
 cases l with
 | nil=>injection h with h; omega
 | cons c r =>
  rw [tok] at h
  have fo:∀ {x:STok × Nat},(Except.ok x:Except Int (STok × Nat)) = .error e → e = 3 ∨ e = 4:=fun h=>nomatch h
  have fe:∀ {d:Int},d = 3 ∨ d = 4 → (Except.error d:Except Int (STok × Nat)) = .error e → e = 3 ∨ e = 4:=fun hd h=>by injection h with h; omega
  have fr:∀ {a b:Int} {l:List Int} {k:Nat},rep a b l k = .error e → e = 3 ∨ e = 4:=fun h=>nomatch h
  iterate 5
   split at h
   ·exact fo h
  split at h
  ·rw [opn] at h
   iterate 7
    split at h
    ·exact fo h
   split at h
   ·exact fe (by omega) h
   ·exact fo h
  split at h
  ·rw [qnt] at h
   split at h
   ·exact fr h
   split at h
   ·exact fr h
   split at h
   ·split at h
    ·exact fe (by omega) h
    ·split at h
     ·exact fe (by omega) h
     split at h
     ·exact fe (by omega) h
     ·exact fr h
   ·exact fr h
  split at h
  ·split at h
   ·exact fe (by omega) h
   ·exact fo h
  split at h
  ·rw [escd.eq_def] at h
   split at h
   ·exact fo h
   split at h
   ·exact fo h
   split at h
   ·exact fe (by omega) h
   ·split at h
    ·exact fo h
    split at h
    ·exact fe (by omega) h
    ·exact fo h
  split at h
  ·exact fe (by omega) h
  ·exact fo h
theorem lex_loop {n:Nat} (hn:1400 ≤ n):∀ (k j:Nat) (s:ByteArray) (acc:List lex_Token),s.size ≤ 1000 → s.size < k → k ≤ j → acc.length + s.size ≤ 1000 →
  b_lex_Lex_1 (m_lex_token n) n j s (slOf acc) = some (lexR acc (toks k (B s))):=by
 intro k
 induction k with
 | zero=>intro j s acc _ h; omega
 | succ k ih =>
  intro j s acc h1 h2 h3 h4
  obtain ⟨j,rfl⟩:∃ m,j = m + 1:=⟨j - 1,by omega⟩
  rw [b_lex_Lex_1.eq_2,toks]
  by_cases hs:B s = []
  ·have:s = (⟨#[]⟩:ByteArray):=B_nil.2 hs
   rw [if_pos hs]
   simp only [this,decide_true,Bool.not_true,cond_false,lexR,List.map_nil,List.append_nil]
  ·have hne:¬ (s = (⟨#[]⟩:ByteArray)):=fun h=>hs (B_nil.1 h)
   rw [if_neg hs]
   simp only [hne,decide_false,Bool.not_false,cond_true]
   rw [tok_eq (by omega) (by omega) hs,Option.bind_some]
   have hr:=tok_rng (B_byt s)
   have he:=fun e=>tok_err (B s) (e:=e)
   generalize tok (B s) = x at hr he
   match x,hr,he with
   | .error e,hr,he =>
    have:=he e rfl
    have h0:¬ (e = 0):=by omega
    simp only [tokR,h0,decide_false,Bool.not_false,cond_true]
    rfl
   | .ok (t,m),hr,he =>
    have hm:=hr t m rfl
    rw [B_len] at hm
    simp only [tokR,decide_true,Bool.not_true,cond_false]
    obtain ⟨u,hu,hb,hus⟩:=sub_drop s (t:=m) hm.2
    have hul:u.size = s.size - m:=by rw [← B_len,hb,List.length_drop,B_len]
    rw [slOf_app _ _ (by omega),Option.bind_some,hu,Option.bind_some,ih j u _ (by omega) (by omega) (by omega) (by simp; omega),hb]
    cases toks k ((B s).drop m) with
    | error e=>rfl
    | ok ts=>simp [lexR]
theorem lex_eq {n:Nat} {s:ByteArray} (hn:1410 ≤ n):m_lex_Lex n s = some (lexR [] (lexS (B s))):=by
 obtain ⟨n,rfl⟩:∃ m,n = m + 1:=⟨n - 1,by omega⟩
 show b_lex_Lex (m_lex_token n) n s = _
 unfold b_lex_Lex
 rw [lexS,B_len]
 by_cases h:1000 < s.size
 ·have h':(1000:Int) < (s.size:Int):=by omega
  rw [if_pos h]
  simp only [h',decide_true,cond_true]
  rfl
 ·have h':¬ ((1000:Int) < (s.size:Int)):=by omega
  rw [if_neg h]
  simp only [h',decide_false,cond_false]
  exact lex_loop (by omega) _ _ _ [] (by omega) (by omega) (by omega) (by simp; omega)
end Go.Proofs.YtcjnmmeibppblaaDoor
