import Derived.Test.YtcjnmmeibppblaaDoorTePure4
set_option maxRecDepth 100000
set_option linter.unusedVariables false
set_option linter.unusedSimpArgs false
namespace Go.Proofs.YtcjnmmeibppblaaDoor
open Go Go.AM
def toLex (t:STok):lex_Token:=⟨t.kind,W t.set,t.min,t.max,t.mode,t.n,strOf (some t.flags)⟩
def tokR:Except Int (STok × Nat) → lex_Token × Int × Int
 | .error e=>(lex_Token.zero,0,e)
 | .ok (t,k)=>(toLex t,(k:Int),0)
theorem strB (s:ByteArray):strOf (some (B s)) = s:=B_inj (B_strOf fun x hx=>B_rng hx)
theorem lexMk (k a b m c:Int):(⟨k,class_Set.zero,a,b,m,c,⟨#[]⟩⟩:lex_Token) = toLex { kind:=k,min:=a,max:=b,mode:=m,n:=c }:=by
 simp only [toLex,W_none]
 rfl
theorem get_B {s:ByteArray} {i:Nat} {c:Int} (h:(B s)[i]? = some c):((s.get! i).toNat:Int) = c ∧ i < s.size:=by
 simp only [B,bytesOf,List.getElem?_map] at h
 cases hq:s.data.toList[i]? with
 | none=>rw [hq] at h; cases h
 | some b =>
  rw [hq] at h
  injection h with h
  have hi:i < s.data.toList.length:=by
   rcases Nat.lt_or_ge i s.data.toList.length with h' | h'
   ·exact h'
   ·rw [List.getElem?_eq_none h'] at hq; cases hq
  have:s.get! i = b:=by
   show s.data[i]! = b
   have h2:s.data[i]? = some b:=by simpa using hq
   simp [getElem!_def,h2]
  rw [this]
  exact ⟨h,by simpa using hi⟩
theorem dec_lo {s:ByteArray} {i:Nat} {c:Int} (h:(B s)[i]? = some c) (hc:c < 128):Utf8.decode s i = (c.toNat,1):=by
 have h1:=(get_B h).1
 have h2:(s.get! (i + 0)).toNat < 0x80:=by rw [Nat.add_zero]; omega
 unfold Utf8.decode
 simp only [h2,if_true]
 rw [Nat.add_zero]
 congr 1
 omega
theorem dec_hi {s:ByteArray} {i:Nat} {c:Int} (h:(B s)[i]? = some c) (hc:128 ≤ c):128 ≤ (Utf8.decode s i).1:=by
 have h1:=(get_B h).1
 have h2:¬ (s.get! (i + 0)).toNat < 0x80:=by rw [Nat.add_zero]; omega
 unfold Utf8.decode
 simp only [h2,if_false,Utf8.runeError]
 repeat' split
 all_goals first | (simp; done) | (simp at *; omega)
theorem hasRune_loop {n:Nat} {s:ByteArray} {r:Int} (hs:∀ c ∈ B s,c < 128):∀ (k i:Nat),i ≤ s.size → s.size - i < k → b_lex_hasRune_1 n k r s i = some (decide (r ∈ (B s).drop i)):=by
 intro k
 induction k with
 | zero=>intro i _ h; omega
 | succ k ih =>
  intro i hi hk
  rw [b_lex_hasRune_1.eq_2]
  by_cases h:i < s.size
  ·have hg:(B s)[i]? = some ((B s)[i]'(by rw [B_len]; exact h)):=List.getElem?_eq_getElem _
   have hd:(B s).drop i = ((B s)[i]'(by rw [B_len]; exact h)) :: (B s).drop (i + 1):=List.drop_eq_getElem_cons _
   have hm:(B s)[i]'(by rw [B_len]; exact h) ∈ B s:=List.getElem_mem _
   have h0:=(B_rng hm).1
   have h1:=hs _ hm
   generalize (B s)[i]'(by rw [B_len]; exact h) = c at hg hd hm h0 h1
   rw [dec_lo hg h1,hd]
   simp only [h,decide_true,cond_true]
   rw [show ((c.toNat:Nat):Int) = c by omega]
   by_cases he:c = r
   ·simp only [he,decide_true,cond_true]; simp
   ·simp only [he,decide_false,cond_false]
    rw [ih (i + 1) (by omega) (by omega)]
    have he':¬ r = c:=fun h=>he h.symm
    simp [he']
  ·have:(B s).drop i = []:=List.drop_eq_nil_of_le (by rw [B_len]; omega)
   simp only [h,decide_false,cond_false,this]
   rfl
theorem hasRune_eq {n:Nat} {s:ByteArray} {r:Int} (hn:s.size + 2 ≤ n) (hs:∀ c ∈ B s,c < 128):m_lex_hasRune n s r = some (decide (r ∈ B s)):=by
 obtain ⟨n,rfl⟩:∃ m,n = m + 1:=⟨n - 1,by omega⟩
 show b_lex_hasRune n s r = _
 unfold b_lex_hasRune
 rw [hasRune_loop hs n 0 (by omega) (by omega)]
 rfl
theorem enc_lo {c:Int} (h0:0 ≤ c) (h1:c < 128):B (Utf8.encode c) = [c]:=by
 have hv:Utf8.valid c = true:=by simp [Utf8.valid]; omega
 unfold Utf8.encode
 simp only [hv,if_true,show c.toNat < 0x80 by omega]
 show [((UInt8.ofNat c.toNat).toNat:Int)] = [c]
 rw [UInt8.toNat_ofNat',Nat.mod_eq_of_lt (by omega)]
 congr 1
 omega
def flgR:Option (List Int) → lex_Token × Int × Int
 | none=>(lex_Token.zero,0,3)
 | some fl=>(toLex { kind:=14,flags:=fl },((3 + fl.length:Nat):Int),0)
theorem flg_loop {n:Nat} {s:ByteArray} (hn:s.size + 9 ≤ n) (hz:s.size ≤ 100000) (z:lex_Token):∀ (k i:Nat) (x:ByteArray),i ≤ s.size → s.size - i < k → x.size ≤ i → (∀ c ∈ B x,c < 128) →
  b_lex_opening_2 (m_strings_HasPrefix n) (m_lex_hasRune n) n k z x s i = some (flgR (flg (B x) ((B s).drop i))):=by
 intro k
 induction k with
 | zero=>intro i x _ h; omega
 | succ k ih =>
  intro i x hi hk hx hlo
  rw [b_lex_opening_2.eq_2]
  by_cases h:i < s.size
  ·have hg:(B s)[i]? = some ((B s)[i]'(by rw [B_len]; exact h)):=List.getElem?_eq_getElem _
   have hd:(B s).drop i = ((B s)[i]'(by rw [B_len]; exact h)) :: (B s).drop (i + 1):=List.drop_eq_getElem_cons _
   have hm:(B s)[i]'(by rw [B_len]; exact h) ∈ B s:=List.getElem_mem _
   have h0:=B_rng hm
   generalize (B s)[i]'(by rw [B_len]; exact h) = c at hg hd hm h0
   rw [hd,flg]
   simp only [h,decide_true,cond_true]
   by_cases hc:c < 128
   ·rw [dec_lo hg hc,hasRune_eq (by omega) hlo]
    simp only [show ((c.toNat:Nat):Int) = c by omega,Option.bind_some]
    have hnil:(x = (⟨#[]⟩:ByteArray)) ↔ (B x = []):=B_nil
    by_cases h58:c = 58 ∧ B x ≠ []
    ·rw [if_pos h58]
     have hne:¬ (x = (⟨#[]⟩:ByteArray)):=fun e=>h58.2 (hnil.1 e)
     simp only [h58.1,hne,decide_true,decide_false,Bool.not_false,Bool.and_true,cond_true]
     simp only [flgR,toLex,strB,B_len]
     rw [w64 (by omega) (by omega),← W_none]
     simp [lex_Token.zero]
    ·rw [if_neg h58]
     have e1:(decide (c = 58) && !decide (x = (⟨#[]⟩:ByteArray))) = false:=by
      by_cases h1:c = 58
      ·have h2:x = (⟨#[]⟩:ByteArray):=hnil.2 (Decidable.byContradiction fun h3=>h58 ⟨h1,h3⟩)
       simp [h2]
      ·simp [h1]
     rw [e1,cond_false]
     have e2:(bif (!decide (c = 105) && !decide (c = 109)) && !decide (c = 115) then some true else some (decide (c ∈ B x))) = some (decide ((c ≠ 105 ∧ c ≠ 109 ∧ c ≠ 115) ∨ c ∈ B x)):=by
      by_cases h1:c = 105
      ·simp [h1]
      by_cases h2:c = 109
      ·simp [h2]
      by_cases h3:c = 115
      ·simp [h3]
      simp [h1,h2,h3]
     rw [e2,Option.bind_some]
     by_cases h4:(c ≠ 105 ∧ c ≠ 109 ∧ c ≠ 115) ∨ c ∈ B x
     ·rw [if_pos h4]
      simp only [h4,decide_true,cond_true]
      rfl
     ·rw [if_neg h4]
      simp only [h4,decide_false,cond_false]
      have hb:=enc_lo h0.1 hc
      have hs1:(Utf8.encode c).size = 1:=by rw [← B_len,hb]; rfl
      rw [sadd_eq (by omega),Option.bind_some,ih (i + 1) _ (by omega) (by omega) (by rw [← B_len,B_append,List.length_append,B_len,B_len]; omega) (fun d hd=>by
       rw [B_append,List.mem_append] at hd
       rcases hd with hd | hd
       ·exact hlo d hd
       ·rw [hb] at hd; simp at hd; omega),B_append,hb]
   ·have hh:=dec_hi hg (by omega)
    have n1:¬ ((((Utf8.decode s i).1:Nat):Int) = 58):=by omega
    have n2:¬ ((((Utf8.decode s i).1:Nat):Int) = 105):=by omega
    have n3:¬ ((((Utf8.decode s i).1:Nat):Int) = 109):=by omega
    have n4:¬ ((((Utf8.decode s i).1:Nat):Int) = 115):=by omega
    simp only [n1,n2,n3,n4,decide_false,Bool.false_and,cond_false,Bool.not_false,Bool.and_self,cond_true,Option.bind_some]
    rw [if_neg (by intro h; omega),if_pos (Or.inl ⟨by omega,by omega,by omega⟩)]
    rfl
  ·have:(B s).drop i = []:=List.drop_eq_nil_of_le (by rw [B_len]; omega)
   simp only [h,decide_false,cond_false,this,flg]
   rfl
theorem lt6:(decide ((0:Int) < 6) = true) ∧ (decide ((1:Int) < 6) = true) ∧ (decide ((2:Int) < 6) = true) ∧ (decide ((3:Int) < 6) = true) ∧ (decide ((4:Int) < 6) = true) ∧ (decide ((5:Int) < 6) = true) ∧ (decide ((6:Int) < 6) = false):=by decide
theorem ck6:(ck 6 0 = some 0) ∧ (ck 6 1 = some 1) ∧ (ck 6 2 = some 2) ∧ (ck 6 3 = some 3) ∧ (ck 6 4 = some 4) ∧ (ck 6 5 = some 5):=⟨rfl,rfl,rfl,rfl,rfl,rfl⟩
theorem wp6:(IntKind.i64.wrap (0 + 1) = 1) ∧ (IntKind.i64.wrap (1 + 1) = 2) ∧ (IntKind.i64.wrap (2 + 1) = 3) ∧ (IntKind.i64.wrap (3 + 1) = 4) ∧ (IntKind.i64.wrap (4 + 1) = 5) ∧ (IntKind.i64.wrap (5 + 1) = 6) ∧ (IntKind.i64.wrap (8 + 0) = 8) ∧ (IntKind.i64.wrap (8 + 1) = 9) ∧ (IntKind.i64.wrap (8 + 2) = 10) ∧ (IntKind.i64.wrap (8 + 3) = 11) ∧ (IntKind.i64.wrap (8 + 4) = 12) ∧ (IntKind.i64.wrap (8 + 5) = 13):=by decide +kernel
def hds:Arr ByteArray 6:=⟨[(⟨#[40,63,58]⟩:ByteArray),(⟨#[40,63,61]⟩:ByteArray),(⟨#[40,63,33]⟩:ByteArray),(⟨#[40,63,60,61]⟩:ByteArray),(⟨#[40,63,60,33]⟩:ByteArray),(⟨#[40,63,62]⟩:ByteArray)],rfl⟩
theorem hds_nth:(hds.nth 0 = ⟨#[40,63,58]⟩) ∧ (hds.nth 1 = ⟨#[40,63,61]⟩) ∧ (hds.nth 2 = ⟨#[40,63,33]⟩) ∧ (hds.nth 3 = ⟨#[40,63,60,61]⟩) ∧ (hds.nth 4 = ⟨#[40,63,60,33]⟩) ∧ (hds.nth 5 = ⟨#[40,63,62]⟩):=⟨rfl,rfl,rfl,rfl,rfl,rfl⟩
theorem opn_eq {n:Nat} {s:ByteArray} (hn:s.size + 30 ≤ n) (hz:s.size ≤ 100000):m_lex_opening n s = some (tokR (opn (B s))):=by
 obtain ⟨n,rfl⟩:∃ m,n = m + 8:=⟨n - 8,by omega⟩
 show b_lex_opening (m_strings_HasPrefix (n + 7)) (m_lex_hasRune (n + 7)) (n + 7) s = _
 unfold b_lex_opening
 rw [prefix_eq _ _ (by omega),Option.bind_some,show B ⟨#[40,63]⟩ = [40,63] from rfl]
 change (bif !pre [40,63] (B s) then _ else b_lex_opening_1 (m_strings_HasPrefix (n + 7)) (m_lex_hasRune (n + 7)) (n + 7) (n + 7) s lex_Token.zero hds 0) = _
 rw [opn]
 cases h0:pre [40,63] (B s) with
 | false=>simp only [Bool.not_false,cond_true,if_true,tokR]; exact congrArg some (Prod.ext (lexMk 7 0 0 0 0) rfl)
 | true =>
  simp only [Bool.not_true,cond_false,Bool.true_eq_false,if_false]
  rw [b_lex_opening_1.eq_2]
  simp only [lt6,cond_true,ck6,Option.bind_some,hds_nth,wp6]
  rw [prefix_eq _ _ (by omega),Option.bind_some,show B ⟨#[40,63,58]⟩ = [40,63,58] from rfl]
  cases h1:pre [40,63,58] (B s) with
  | true=>simp only [cond_true,if_true,tokR]; exact congrArg some (Prod.ext (lexMk 8 0 0 0 0) rfl)
  | false =>
  simp only [cond_false,Bool.false_eq_true,if_false]
  rw [b_lex_opening_1.eq_2]
  simp only [lt6,cond_true,ck6,Option.bind_some,hds_nth,wp6]
  rw [prefix_eq _ _ (by omega),Option.bind_some,show B ⟨#[40,63,61]⟩ = [40,63,61] from rfl]
  cases h2:pre [40,63,61] (B s) with
  | true=>simp only [cond_true,if_true,tokR]; exact congrArg some (Prod.ext (lexMk 9 0 0 0 0) rfl)
  | false =>
  simp only [cond_false,Bool.false_eq_true,if_false]
  rw [b_lex_opening_1.eq_2]
  simp only [lt6,cond_true,ck6,Option.bind_some,hds_nth,wp6]
  rw [prefix_eq _ _ (by omega),Option.bind_some,show B ⟨#[40,63,33]⟩ = [40,63,33] from rfl]
  cases h3:pre [40,63,33] (B s) with
  | true=>simp only [cond_true,if_true,tokR]; exact congrArg some (Prod.ext (lexMk 10 0 0 0 0) rfl)
  | false =>
  simp only [cond_false,Bool.false_eq_true,if_false]
  rw [b_lex_opening_1.eq_2]
  simp only [lt6,cond_true,ck6,Option.bind_some,hds_nth,wp6]
  rw [prefix_eq _ _ (by omega),Option.bind_some,show B ⟨#[40,63,60,61]⟩ = [40,63,60,61] from rfl]
  cases h4:pre [40,63,60,61] (B s) with
  | true=>simp only [cond_true,if_true,tokR]; exact congrArg some (Prod.ext (lexMk 11 0 0 0 0) rfl)
  | false =>
  simp only [cond_false,Bool.false_eq_true,if_false]
  rw [b_lex_opening_1.eq_2]
  simp only [lt6,cond_true,ck6,Option.bind_some,hds_nth,wp6]
  rw [prefix_eq _ _ (by omega),Option.bind_some,show B ⟨#[40,63,60,33]⟩ = [40,63,60,33] from rfl]
  cases h5:pre [40,63,60,33] (B s) with
  | true=>simp only [cond_true,if_true,tokR]; exact congrArg some (Prod.ext (lexMk 12 0 0 0 0) rfl)
  | false =>
  simp only [cond_false,Bool.false_eq_true,if_false]
  rw [b_lex_opening_1.eq_2]
  simp only [lt6,cond_true,ck6,Option.bind_some,hds_nth,wp6]
  rw [prefix_eq _ _ (by omega),Option.bind_some,show B ⟨#[40,63,62]⟩ = [40,63,62] from rfl]
  cases h6:pre [40,63,62] (B s) with
  | true=>simp only [cond_true,if_true,tokR]; exact congrArg some (Prod.ext (lexMk 13 0 0 0 0) rfl)
  | false =>
  simp only [cond_false,Bool.false_eq_true,if_false]
  rw [b_lex_opening_1.eq_2]
  simp only [lt6,cond_false]
  have h2':2 ≤ s.size:=by
   have:=congrArg List.length (of_decide_eq_true h0)
   rw [List.length_take,B_len] at this
   simp at this
   omega
  obtain ⟨u,hu,hb,hus⟩:=sub_drop s (t:=2) h2'
  rw [show (2:Int) = ((2:Nat):Int) from rfl,hu,Option.bind_some,flg_loop (n:=n + 7) (by omega) (by omega) lex_Token.zero (n + 7) 0 ⟨#[]⟩ (by omega) (by omega) (by decide) (fun c hc=>by cases hc),hb]
  rw [show B ⟨#[]⟩ = [] from rfl,List.drop_zero]
  cases flg [] ((B s).drop 2) with
  | none=>rfl
  | some fl=>rfl
def mx:Nat → Int
 | 0=>999
 | 1=>99
 | 2=>9
 | _=>0
theorem cntk_rng (l:List Int):∀ (j:Nat) (n:Int) (i:Nat),j ≤ 3 → 0 ≤ n → n ≤ mx j → 0 ≤ (cntk j l n i).1 ∧ (cntk j l n i).1 ≤ 999 ∧ i ≤ (cntk j l n i).2 ∧ (cntk j l n i).2 ≤ i + j ∧ (cntk j l n i).2 ≤ i + l.length:=by
 induction l with
 | nil =>
  intro j n i hj h0 h1
  have:n ≤ 999:=by
   match j,hj,h1 with
   | 0,_,h1=>exact h1
   | 1,_,h1=>simp only [mx] at h1; omega
   | 2,_,h1=>simp only [mx] at h1; omega
   | 3,_,h1=>simp only [mx] at h1; omega
  cases j with
  | zero=>simp [cntk]; omega
  | succ j=>simp [cntk]; omega
 | cons c r ih =>
  intro j n i hj h0 h1
  have h9:n ≤ 999:=by
   match j,hj,h1 with
   | 0,_,h1=>exact h1
   | 1,_,h1=>simp only [mx] at h1; omega
   | 2,_,h1=>simp only [mx] at h1; omega
   | 3,_,h1=>simp only [mx] at h1; omega
  cases j with
  | zero=>simp [cntk]; omega
  | succ j =>
   rw [cntk]
   by_cases hc:48 ≤ c ∧ c ≤ 57
   ·rw [if_pos hc]
    have:n * 10 + (c - 48) ≤ mx j:=by
     match j,hj,h1 with
     | 0,_,h1=>simp only [mx] at h1 ⊢; omega
     | 1,_,h1=>simp only [mx] at h1 ⊢; omega
     | 2,_,h1=>simp only [mx] at h1 ⊢; omega
    have:=ih j (n * 10 + (c - 48)) (i + 1) (by omega) (by omega) this
    simp only [List.length_cons]
    omega
   ·rw [if_neg hc]
    simp
    omega
theorem cnt_rng (l:List Int):0 ≤ (cnt l).1 ∧ (cnt l).1 ≤ 999 ∧ (cnt l).2 ≤ 3 ∧ (cnt l).2 ≤ l.length:=by
 have:=cntk_rng l 3 0 0 (by omega) (by omega) (by decide)
 simp only [Nat.zero_add] at this
 exact ⟨this.1,this.2.1,this.2.2.2.1,this.2.2.2.2⟩
def iN (x:Int × Nat):Int × Int:=(x.1,(x.2:Int))
theorem cnt_loop {n:Nat} {s:ByteArray} (hn:9 ≤ n) (hz:s.size ≤ 100000):∀ (j k i:Nat) (a:Int),i + j = 3 → j < k → 0 ≤ a → a ≤ mx j →
  b_lex_count_1 (m_lex_digit n) n k s a (i:Int) = some (iN (cntk j ((B s).drop i) a i)):=by
 intro j
 induction j with
 | zero =>
  intro k i a hi hk h0 h1
  obtain ⟨k,rfl⟩:∃ m,k = m + 1:=⟨k - 1,by omega⟩
  rw [b_lex_count_1.eq_2]
  have:¬ ((i:Int) < 3):=by omega
  simp only [this,decide_false,Bool.and_false,cond_false,Option.bind_some]
  rfl
 | succ j ih =>
  intro k i a hi hk h0 h1
  obtain ⟨k,rfl⟩:∃ m,k = m + 1:=⟨k - 1,by omega⟩
  rw [b_lex_count_1.eq_2]
  have h3:((i:Int) < 3):=by omega
  by_cases h:i < s.size
  ·have hg:(B s)[i]? = some ((B s)[i]'(by rw [B_len]; exact h)):=List.getElem?_eq_getElem _
   have hd:(B s).drop i = ((B s)[i]'(by rw [B_len]; exact h)) :: (B s).drop (i + 1):=List.drop_eq_getElem_cons _
   have hm:=B_rng (s:=s) (List.getElem_mem (by rw [B_len]; exact h:i < (B s).length))
   generalize (B s)[i]'(by rw [B_len]; exact h) = c at hg hd hm
   have hlt:((i:Int) < (s.size:Int)):=by omega
   simp only [hlt,h3,decide_true,Bool.and_self,cond_true]
   rw [bt_nat,hg,hd,cntk]
   simp only [Option.bind_some]
   rw [dig10 (by omega) hm.1 hm.2]
   simp only [Option.bind_some]
   by_cases hc:48 ≤ c ∧ c ≤ 57
   ·simp only [if_pos hc]
    have hp:(0:Int) ≤ c - 48:=by omega
    simp only [hp,decide_true,cond_true]
    have hmx:a * 10 + (c - 48) ≤ mx j:=by
     match j,hi,h1 with
     | 0,_,h1=>simp only [mx] at h1 ⊢; omega
     | 1,_,h1=>simp only [mx] at h1 ⊢; omega
     | 2,_,h1=>simp only [mx] at h1 ⊢; omega
    have h999:a ≤ 999:=by
     match j,hi,h1 with
     | 0,_,h1=>simp only [mx] at h1; omega
     | 1,_,h1=>simp only [mx] at h1; omega
     | 2,_,h1=>simp only [mx] at h1; omega
    rw [w64 (n:=a * 10) (by omega) (by omega),w64 (n:=a * 10 + (c - 48)) (by omega) (by omega),wp1 (by omega)]
    exact ih k (i + 1) _ (by omega) (by omega) (by omega) hmx
   ·simp only [if_neg hc]
    simp only [show decide ((0:Int) ≤ -1) = false by decide,cond_false]
    rfl
  ·have hlt:¬ ((i:Int) < (s.size:Int)):=by omega
   have:(B s).drop i = []:=List.drop_eq_nil_of_le (by rw [B_len]; omega)
   simp only [hlt,decide_false,Bool.false_and,cond_false,Option.bind_some,this]
   rfl
theorem cnt_eq {n:Nat} {s:ByteArray} (hn:20 ≤ n) (hz:s.size ≤ 100000):m_lex_count n s = some (iN (cnt (B s))):=by
 obtain ⟨n,rfl⟩:∃ m,n = m + 1:=⟨n - 1,by omega⟩
 show b_lex_count (m_lex_digit n) n s = _
 unfold b_lex_count
 have:=cnt_loop (n:=n) (s:=s) (by omega) hz 3 n 0 0 (by omega) (by omega) (by omega) (by decide)
 exact this
def brcR:Option (Int × Int × Nat) → Int × Int × Int
 | none=>(0,0,0)
 | some (a,b,k)=>(a,b,(k:Int))
theorem brc_end {n:Nat} {c:T_lex_count} {s:ByteArray} (hz:s.size ≤ 100000) (a b:Int) {i t:Nat} (hi:i ≠ 0) (ht:t ≤ 100000) :
  b_lex_counted_1 c n s a (i:Int) (t:Int) b = some (brcR (if ((B s).drop t).head? = some 125 then some (a,b,t + 1) else none)):=by
 rw [b_lex_counted_1]
 have h0:¬ ((i:Int) = 0):=by omega
 by_cases h:t < s.size
 ·have h1:¬ ((s.size:Int) ≤ (t:Int)):=by omega
  simp only [h0,h1,decide_false,Bool.or_self,cond_false]
  have hh:∃ d,((B s).drop t).head? = some d:=by
   rw [List.head?_drop]
   exact ⟨_,List.getElem?_eq_getElem (by rw [B_len]; exact h)⟩
  obtain ⟨d,hd⟩:=hh
  rw [drop_hd,hd,Option.bind_some,Option.bind_some]
  by_cases h2:d = 125
  ·simp only [h2,decide_true,Bool.not_true,cond_false,if_true]
   rw [wp1 (by omega)]
   rfl
  ·have h3:¬ (some d = some (125:Int)):=by simpa using h2
   simp only [h2,h3,decide_false,Bool.not_false,cond_true,if_false]
   rfl
 ·have h1:((s.size:Int) ≤ (t:Int)):=by omega
  rw [drop_none h]
  simp only [h0,h1,decide_false,decide_true,Bool.or_true,cond_true,Option.bind_some]
  rfl
theorem brc_eq {n:Nat} {s:ByteArray} {c:Int} {r:List Int} (hn:30 ≤ n) (hz:s.size ≤ 100000) (hs:B s = c :: r):m_lex_counted n s = some (brcR (brc r)):=by
 obtain ⟨n,rfl⟩:∃ m,n = m + 1:=⟨n - 1,by omega⟩
 show b_lex_counted (m_lex_count n) n s = _
 unfold b_lex_counted
 have hl:s.size = r.length + 1:=by rw [← B_len,hs]; simp
 obtain ⟨u,hu,hb,hus⟩:=sub_drop s (t:=1) (by omega)
 have hb1:B u = r:=by rw [hb,hs]; rfl
 rw [show (1:Int) = ((1:Nat):Int) from rfl,hu,Option.bind_some,cnt_eq (by omega) (by omega),Option.bind_some,hb1,brc]
 have hr:=cnt_rng r
 have dr:∀ t,(B s).drop (1 + t) = r.drop t:=fun t=>by rw [← List.drop_drop,hs]; rfl
 generalize hc:cnt r = x at hr
 obtain ⟨a,i⟩:=x
 simp only [iN]
 have e1:IntKind.i64.wrap (((1:Nat):Int) + (i:Int)) = ((1 + i:Nat):Int):=by rw [w64 (by omega) (by omega)]; omega
 simp only [e1]
 by_cases hi:i = 0
 ·subst hi
  simp only [show ¬ ((0:Int) < ((0:Nat):Int)) by omega,decide_false,Bool.false_and,cond_false,Option.bind_some,if_true]
  rw [b_lex_counted_1]
  simp only [show (((0:Nat):Int) = 0) from rfl,decide_true,Bool.true_or,cond_true,Option.bind_some]
  rfl
 ·have hp:(0:Int) < (i:Int):=by omega
  rw [if_neg hi]
  by_cases hlt:1 + i < s.size
  ·have hlt':(((1 + i:Nat):Int) < (s.size:Int)):=by omega
   simp only [hp,hlt',decide_true,Bool.and_self,cond_true]
   have hh:∃ d,((B s).drop (1 + i)).head? = some d:=by
    rw [List.head?_drop]
    exact ⟨_,List.getElem?_eq_getElem (by rw [B_len]; exact hlt)⟩
   obtain ⟨d,hd⟩:=hh
   rw [drop_hd,hd,Option.bind_some,Option.bind_some]
   rw [dr] at hd
   rw [hd]
   by_cases h44:d = 44
   ·subst h44
    simp only [decide_true,cond_true,if_true]
    have e2:IntKind.i64.wrap (((1 + i:Nat):Int) + ((1:Nat):Int)) = ((1 + (i + 1):Nat):Int):=by rw [w64 (by omega) (by omega)]; omega
    obtain ⟨v,hv,hvb,hvs⟩:=sub_drop s (t:=1 + (i + 1)) (by omega)
    rw [e2,hv,Option.bind_some,cnt_eq (by omega) (by omega),Option.bind_some,hvb,dr]
    have hr2:=cnt_rng (r.drop (i + 1))
    generalize hc2:cnt (r.drop (i + 1)) = y at hr2
    obtain ⟨b,j⟩:=y
    simp only [iN]
    have e3:IntKind.i64.wrap (((1 + (i + 1):Nat):Int) + (j:Int)) = ((1 + (i + 1 + j):Nat):Int):=by rw [w64 (by omega) (by omega)]; omega
    simp only [e3]
    rw [List.drop_drop]
    by_cases hj:j = 0
    ·subst hj
     simp only [show (((0:Nat):Int) = 0) from rfl,decide_true,cond_true,if_true]
     rw [brc_end hz _ _ hi (by omega),dr]
     rfl
    ·have hj':¬ ((j:Int) = 0):=by omega
     simp only [hj,hj',decide_false,cond_false,if_false]
     rw [brc_end hz _ _ hi (by omega),dr]
     rw [show 1 + (i + 1 + j) + 1 = 1 + i + 1 + j + 1 by omega]
   ·have h44':¬ (some d = some (44:Int)):=by simpa using h44
    simp only [h44,h44',decide_false,cond_false,if_false]
    rw [brc_end hz _ _ hi (by omega),dr,hd]
  ·have hlt':¬ (((1 + i:Nat):Int) < (s.size:Int)):=by omega
   simp only [hlt',decide_false,Bool.and_false,cond_false,Option.bind_some]
   rw [brc_end hz _ _ hi (by omega),dr]
   have:=drop_none hlt
   rw [dr] at this
   rw [this]
   rfl
end Go.Proofs.YtcjnmmeibppblaaDoor
