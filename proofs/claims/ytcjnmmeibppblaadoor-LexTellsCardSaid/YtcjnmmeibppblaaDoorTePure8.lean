import Derived.Test.YtcjnmmeibppblaaDoorTePure7
import Derived.Test.YtcjnmmeibppblaaDoorTePureSame
set_option maxRecDepth 100000
set_option linter.unusedVariables false
set_option linter.unusedSimpArgs false
namespace Go.Proofs.YtcjnmmeibppblaaDoor
open Go Go.AM
theorem refMk (k a b m c:Int):(⟨k,ref06_Token.zero.f_Set,a,b,m,c,⟨#[]⟩⟩:ref06_Token) = toRef (toLex { kind:=k,min:=a,max:=b,mode:=m,n:=c }):=by
 have:ref06_Token.zero.f_Set = (W fun _=>false).f_W:=by kernel_rfl
 rw [this]
 rfl
def rtokR (a:Nat):Except Int (STok × Nat) → ref06_Token × Int × Int
 | .error e=>(ref06_Token.zero,0,e)
 | .ok (t,k)=>(toRef (toLex t),((a + k:Nat):Int),0)
theorem w48 {n c:Int} (h0:0 ≤ n) (h1:n ≤ 1000) (c0:0 ≤ c) (c1:c < 256):IntKind.i64.wrap ((IntKind.i64.wrap ((IntKind.i64.wrap (10 * n)) + (IntKind.i64.wrap c))) - 48) = n * 10 + (c - 48):=by
 rw [w64 (n:=10 * n) (by omega) (by omega),w64 (n:=c) (by omega) (by omega),w64 (n:=10 * n + c) (by omega) (by omega),w64 (by omega) (by omega)]
 omega
theorem rcount_loop {m:Nat} {s:ByteArray} (hz:s.size ≤ 100000) {a:Nat} (ha:a ≤ 100001):∀ (j k:Nat) (n:Int) (i:Nat),j + i = 3 → j < k → 0 ≤ n → n ≤ mx j →
  b_ref06_count_1 m k s (a:Int) n ((a + i:Nat):Int) = some ((cntk j ((B s).drop (a + i)) n i).1,((a + (cntk j ((B s).drop (a + i)) n i).2:Nat):Int)):=by
 intro j
 induction j with
 | zero =>
  intro k n i hi hk h0 h1
  obtain ⟨k,rfl⟩:∃ m,k = m + 1:=⟨k - 1,by omega⟩
  rw [b_ref06_count_1.eq_2,w64 (n:=(a:Int) + 3) (by omega) (by omega)]
  have:¬ (((a + i:Nat):Int) < (a:Int) + 3):=by omega
  simp only [this,decide_false,Bool.and_false,cond_false,Option.bind_some]
  have:∀ l,cntk 0 l n i = (n,i):=fun l=>by cases l <;> rfl
  rw [this]
 | succ j ih =>
  intro k n i hi hk h0 h1
  obtain ⟨k,rfl⟩:∃ m,k = m + 1:=⟨k - 1,by omega⟩
  have h9:n ≤ 99:=by
   match j,hi,h1 with
   | 0,_,h1=>simp only [mx] at h1; omega
   | 1,_,h1=>simp only [mx] at h1; omega
   | 2,_,h1=>simp only [mx] at h1; omega
   | j + 3,hi,_=>omega
  rw [b_ref06_count_1.eq_2,w64 (n:=(a:Int) + 3) (by omega) (by omega)]
  have g3:(((a + i:Nat):Int) < (a:Int) + 3):=by omega
  cases hl:(B s).drop (a + i) with
  | nil =>
   have:s.size ≤ a + i:=by have:=congrArg List.length hl; rw [List.length_drop,B_len,List.length_nil] at this; omega
   have:¬ (((a + i:Nat):Int) < (s.size:Int)):=by omega
   simp only [this,decide_false,Bool.false_and,cond_false,Option.bind_some]
   rfl
  | cons c r =>
   have:a + i < s.size:=by have:=congrArg List.length hl; rw [List.length_drop,B_len,List.length_cons] at this; omega
   have g1:(((a + i:Nat):Int) < (s.size:Int)):=by omega
   have hc:=B_rng (List.mem_of_mem_drop (l:=B s) (i:=a + i) (a:=c) (by rw [hl]; simp))
   have hb:bt s ((a + i:Nat):Int) = some c:=by rw [drop_hd,hl]; rfl
   simp only [g1,g3,decide_true,Bool.and_self,cond_true,hb,Option.bind_some]
   rw [cntk]
   have e:(bif decide (48 ≤ c) then some (decide (c ≤ 57)) else some false) = some (decide (48 ≤ c ∧ c ≤ 57)):=by
    by_cases h:48 ≤ c <;> simp [h]
   rw [e,Option.bind_some]
   by_cases h:48 ≤ c ∧ c ≤ 57
   ·rw [decide_eq_true h,cond_true,if_pos h,w48 h0 (by omega) hc.1 hc.2,wp1 (by omega)]
    have hr:(B s).drop (a + (i + 1)) = r:=by rw [show a + (i + 1) = (a + i) + 1 by omega,← List.drop_drop,hl]; rfl
    have:=ih k (n * 10 + (c - 48)) (i + 1) (by omega) (by omega) (by omega) (by
     match j,hi,h1 with
     | 0,_,h1=>simp only [mx] at h1 ⊢; omega
     | 1,_,h1=>simp only [mx] at h1 ⊢; omega
     | 2,_,h1=>simp only [mx] at h1 ⊢; omega
     | j + 3,hi,_=>omega)
    rw [hr] at this
    exact this
   ·rw [decide_eq_false h,cond_false,if_neg h]
theorem rcount_eq {n:Nat} {s:ByteArray} {a:Nat} (hn:6 ≤ n) (hz:s.size ≤ 100000) (ha:a ≤ 100001):m_ref06_count n s (a:Int) = some ((cnt ((B s).drop a)).1,((a + (cnt ((B s).drop a)).2:Nat):Int)):=by
 obtain ⟨n,rfl⟩:∃ m,n = m + 1:=⟨n - 1,by omega⟩
 show b_ref06_count n s (a:Int) = _
 unfold b_ref06_count
 have:=rcount_loop (m:=n) hz ha 3 n 0 0 (by omega) (by omega) (by omega) (by simp [mx])
 rw [Nat.add_zero] at this
 exact this
def rbrR (a:Nat):Option (Int × Int × Nat) → ref06_Token × Int × Int
 | none=>(ref06_Token.zero,0,3)
 | some (x,y,k)=>if 100 < Max.max x y then (ref06_Token.zero,0,4) else if y ≠ -1 ∧ y < x then (ref06_Token.zero,0,3) else (toRef (toLex { kind:=16,min:=x,max:=y }),((a + k:Nat):Int),0)
theorem rbr_end {n:Nat} {s:ByteArray} {x y:Int} {i a k:Nat} {z:ref06_Token} (hn:9 ≤ n) (hz:s.size ≤ 100000) (hi:i ≤ 100010) (hk:i + 1 = a + k) (hy:-1 ≤ y) :
  b_ref06_braces_1 (m_ref06_starts n) (m_ref06_count n) n s z x (i:Int) y = some (rbrR a (if ((B s).drop i).head? = some 125 then some (x,y,k) else none)):=by
 rw [b_ref06_braces_1]
 have hst:=starts_eq (n:=n) (s:=s) (h:=⟨#[125]⟩) (a:=i) (by omega) (by omega) hz (by decide) (by decide)
 rw [show B ⟨#[125]⟩ = [125] from rfl,pre1] at hst
 rw [hst,Option.bind_some]
 by_cases h:((B s).drop i).head? = some 125
 ·rw [decide_eq_true h,if_pos h]
  simp only [Bool.not_true,cond_false,rbrR]
  by_cases h1:100 < Max.max x y
  ·have e:(decide (100 < x) || decide (100 < y)) = true:=by rw [Bool.or_eq_true,decide_eq_true_iff,decide_eq_true_iff]; omega
   rw [e,if_pos h1]; rfl
  ·have e:(decide (100 < x) || decide (100 < y)) = false:=by rw [Bool.or_eq_false_iff,decide_eq_false_iff_not,decide_eq_false_iff_not]; omega
   rw [e,if_neg h1,cond_false]
   by_cases h2:y ≠ -1 ∧ y < x
   ·have e:(decide (0 ≤ y) && decide (y < x)) = true:=by rw [Bool.and_eq_true,decide_eq_true_iff,decide_eq_true_iff]; omega
    rw [e,if_pos h2]; rfl
   ·have e:(decide (0 ≤ y) && decide (y < x)) = false:=by rw [Bool.and_eq_false_iff,decide_eq_false_iff_not,decide_eq_false_iff_not]; omega
    rw [e,if_neg h2,cond_false,wp1 (by omega),hk]
    exact congrArg some (Prod.ext (refMk 16 x y 0 0) rfl)
 ·rw [decide_eq_false h,if_neg h]
  rfl
theorem rbraces_eq {n:Nat} {s:ByteArray} {a:Nat} {r:List Int} (hn:10 ≤ n) (hz:s.size ≤ 100000) (hr:(B s).drop a = 123 :: r):m_ref06_braces n s (a:Int) = some (rbrR a (brc r)):=by
 obtain ⟨n,rfl⟩:∃ m,n = m + 1:=⟨n - 1,by omega⟩
 show b_ref06_braces (m_ref06_starts n) (m_ref06_count n) n s (a:Int) = _
 unfold b_ref06_braces
 have hl:s.size = a + 1 + r.length:=by
  have:=congrArg List.length hr
  rw [List.length_drop,B_len,List.length_cons] at this
  omega
 have hr1:(B s).drop (a + 1) = r:=by rw [← List.drop_drop,hr]; rfl
 rw [wp1 (by omega),rcount_eq (by omega) hz (by omega),Option.bind_some,hr1]
 have c1:=cntk_rng r 3 0 0 (by omega) (by omega) (by simp [mx])
 simp only [brc,cnt]
 simp only [show (cntk 3 r 0 0) = cnt r from rfl] at c1 ⊢
 by_cases h0:(cnt r).2 = 0
 ·rw [h0,if_pos rfl]
  simp only [Nat.add_zero,decide_true,cond_true]
  rfl
 have e0:¬ (((a + 1 + (cnt r).2:Nat):Int) = ((a + 1:Nat):Int)):=by omega
 rw [if_neg h0]
 simp only [e0,decide_false,cond_false]
 have hst:=starts_eq (n:=n) (s:=s) (h:=⟨#[44]⟩) (a:=a + 1 + (cnt r).2) (by omega) (by omega) hz (by decide) (by decide)
 rw [show B ⟨#[44]⟩ = [44] from rfl,pre1,← List.drop_drop,hr1] at hst
 rw [hst,Option.bind_some]
 by_cases h44:(r.drop (cnt r).2).head? = some 44
 ·rw [decide_eq_true h44,cond_true,if_pos h44,wp1 (by omega),rcount_eq (by omega) hz (by omega),Option.bind_some]
  have hd:(B s).drop (a + 1 + (cnt r).2 + 1) = r.drop ((cnt r).2 + 1):=by rw [show a + 1 + (cnt r).2 + 1 = (a + 1) + ((cnt r).2 + 1) by omega,← List.drop_drop,hr1]
  have hlt:=hd_lt h44
  rw [hd]
  have c2:=cntk_rng (r.drop ((cnt r).2 + 1)) 3 0 0 (by omega) (by omega) (by simp [mx])
  simp only [show (cntk 3 (r.drop ((cnt r).2 + 1)) 0 0) = cnt (r.drop ((cnt r).2 + 1)) from rfl] at c2 ⊢
  have hd2:(B s).drop (a + 1 + (cnt r).2 + 1 + (cnt (r.drop ((cnt r).2 + 1))).2) = (r.drop ((cnt r).2 + 1)).drop (cnt (r.drop ((cnt r).2 + 1))).2:=by rw [← List.drop_drop,hd]
  by_cases h2:(cnt (r.drop ((cnt r).2 + 1))).2 = 0
  ·have e1:(((a + 1 + (cnt r).2 + 1 + (cnt (r.drop ((cnt r).2 + 1))).2:Nat):Int) = ((a + 1 + (cnt r).2 + 1:Nat):Int)):=by omega
   rw [decide_eq_true e1,cond_true,b_ref06_braces_2,rbr_end (a:=a) (k:=1 + (cnt r).2 + 1 + (cnt (r.drop ((cnt r).2 + 1))).2 + 1) (by omega) hz (by omega) (by omega) (by omega),hd2,if_pos h2]
  ·have e1:¬ (((a + 1 + (cnt r).2 + 1 + (cnt (r.drop ((cnt r).2 + 1))).2:Nat):Int) = ((a + 1 + (cnt r).2 + 1:Nat):Int)):=by omega
   rw [decide_eq_false e1,cond_false,b_ref06_braces_2,rbr_end (a:=a) (k:=1 + (cnt r).2 + 1 + (cnt (r.drop ((cnt r).2 + 1))).2 + 1) (by omega) hz (by omega) (by omega) (by omega),hd2,if_neg h2]
 ·rw [decide_eq_false h44,cond_false,if_neg h44,rbr_end (a:=a) (k:=1 + (cnt r).2 + 1) (by omega) hz (by omega) (by omega) (by omega),← List.drop_drop,hr1]
theorem rmode_eq {n:Nat} {s:ByteArray} {l:List Int} {a k:Nat} {x y:Int} {z:ref06_Token} (hn:9 ≤ n) (hz:s.size ≤ 100000) (hl:(B s).drop a = l) (hk:a + k ≤ s.size) :
  b_ref06_quant_3 (m_ref06_starts n) (m_ref06_braces n) n s z ⟨16,ref06_Token.zero.f_Set,x,y,0,0,⟨#[]⟩⟩ ((a + k:Nat):Int) = some (rtokR a (rep x y l k)):=by
 rw [b_ref06_quant_3]
 have h1:=starts_eq (n:=n) (s:=s) (h:=⟨#[63]⟩) (a:=a + k) (by omega) (by omega) hz (by decide) (by decide)
 have h2:=starts_eq (n:=n) (s:=s) (h:=⟨#[43]⟩) (a:=a + k) (by omega) (by omega) hz (by decide) (by decide)
 rw [show B ⟨#[63]⟩ = [63] from rfl,← List.drop_drop,hl] at h1
 rw [show B ⟨#[43]⟩ = [43] from rfl,← List.drop_drop,hl] at h2
 rw [h1,h2,Option.bind_some,Option.bind_some,wp1 (by omega)]
 simp only [rep,md]
 cases h0:pre [63] (l.drop k) with
 | true =>
  simp only [cond_true,if_true,b_ref06_quant_4,rtokR]
  rw [refMk]; rfl
 | false =>
  simp only [cond_false,Bool.false_eq_true,if_false]
  cases h1:pre [43] (l.drop k) with
  | true =>
   simp only [cond_true,if_true,b_ref06_quant_4,rtokR]
   rw [refMk]; rfl
  | false =>
   simp only [cond_false,Bool.false_eq_true,if_false,b_ref06_quant_4,rtokR]
   rw [refMk]; rfl
theorem rquant_eq {n:Nat} {s:ByteArray} {a:Nat} {c:Int} {r:List Int} (hn:12 ≤ n) (hz:s.size ≤ 100000) (hr:(B s).drop a = c :: r):m_ref06_quant n s (a:Int) = some (rtokR a (qnt (c :: r))):=by
 obtain ⟨n,rfl⟩:∃ m,n = m + 1:=⟨n - 1,by omega⟩
 show b_ref06_quant (m_ref06_starts n) (m_ref06_braces n) n s (a:Int) = _
 unfold b_ref06_quant
 have hl:s.size = a + 1 + r.length:=by
  have:=congrArg List.length hr
  rw [List.length_drop,B_len,List.length_cons] at this
  omega
 have hb:bt s (a:Int) = some c:=by rw [drop_hd,hr]; rfl
 have hm:∀ (x y:Int),b_ref06_quant_3 (m_ref06_starts n) (m_ref06_braces n) n s ref06_Token.zero ⟨16,ref06_Token.zero.f_Set,x,y,0,0,⟨#[]⟩⟩ ((a + 1:Nat):Int) = some (rtokR a (rep x y (c :: r) 1)):=fun x y=>rmode_eq (by omega) hz hr (by omega)
 rw [hb,Option.bind_some,wp1 (by omega),qnt]
 by_cases h1:c = 43
 ·simp only [h1,decide_true,cond_true,if_true,b_ref06_quant_1,b_ref06_quant_2,hb,Option.bind_some,show decide ((43:Int) = 63) = false by decide,show decide ((43:Int) = 123) = false by decide,cond_false]
  rw [← h1]
  exact hm 1 (-1)
 simp only [h1,decide_false,cond_false,if_false,b_ref06_quant_1,hb,Option.bind_some]
 by_cases h2:c = 63
 ·simp only [h2,decide_true,cond_true,if_true,b_ref06_quant_2,hb,Option.bind_some,show decide ((63:Int) = 123) = false by decide,cond_false]
  rw [← h2]
  exact hm 0 1
 simp only [h2,decide_false,cond_false,if_false,b_ref06_quant_2,hb,Option.bind_some]
 by_cases h3:c = 123
 ·simp only [h3,decide_true,cond_true,if_true]
  rw [rbraces_eq (by omega) hz (by rw [hr,h3]),Option.bind_some]
  cases hbr:brc r with
  | none=>rfl
  | some x =>
   obtain ⟨x,y,k⟩:=x
   have hrg:=brc_rng hbr
   simp only [rbrR]
   by_cases h4:100 < Max.max x y
   ·simp only [h4,if_true]; rfl
   simp only [h4,if_false]
   by_cases h5:y ≠ -1 ∧ y < x
   ·rw [if_pos h5,if_pos h5]
    rfl
   ·rw [if_neg h5,if_neg h5]
    simp only [decide_true,Bool.not_true,cond_false]
    rw [← refMk]
    exact rmode_eq (by omega) hz (by rw [hr,h3]) (by omega)
 ·simp only [h3,decide_false,cond_false,if_false]
  exact hm 0 (-1)
theorem refMkF (x:ByteArray):(⟨14,ref06_Token.zero.f_Set,0,0,0,0,x⟩:ref06_Token) = toRef (toLex { kind:=14,flags:=B x }):=by
 have:ref06_Token.zero.f_Set = (W fun _=>false).f_W:=by kernel_rfl
 simp only [toRef,toLex,strB,this]
def rflgR (a:Nat):Option (List Int) → ref06_Token × Int × Int
 | none=>(ref06_Token.zero,0,3)
 | some fl=>(toRef (toLex { kind:=14,flags:=fl }),((a + 3 + fl.length:Nat):Int),0)
theorem rdup {n:Nat} {q:ByteArray → ref06_Token → ByteArray → Int → Option (ref06_Token × Int × Int)} {s x:ByteArray} {z:ref06_Token} {i c:Int} (hx:x.size ≤ 100000):∀ (k j:Nat),j ≤ x.size → x.size - j < k →
  (c ∈ (B x).drop j → b_ref06_flags_2 n q k s z x i c (j:Int) = some (ref06_Token.zero,0,3)) ∧
  (c ∉ (B x).drop j → b_ref06_flags_2 n q k s z x i c (j:Int) = (sadd x (strOf (some [c]))).bind fun v=>q s z v (IntKind.i64.wrap (i + 1))):=by
 intro k
 induction k with
 | zero=>intro j _ h; omega
 | succ k ih =>
  intro j hj hk
  rw [b_ref06_flags_2.eq_2]
  by_cases h:j < x.size
  ·have h1:(j:Int) < (x.size:Int):=by omega
   have hd:(B x).drop j = ((B x)[j]'(by rw [B_len]; exact h)) :: (B x).drop (j + 1):=List.drop_eq_getElem_cons _
   have hb:bt x (j:Int) = some ((B x)[j]'(by rw [B_len]; exact h)):=by rw [bt_nat]; exact List.getElem?_eq_getElem _
   generalize (B x)[j]'(by rw [B_len]; exact h) = d at hd hb
   have ih':=ih (j + 1) (by omega) (by omega)
   rw [decide_eq_true h1,cond_true,hb,Option.bind_some,hd,wp1 (by omega)]
   by_cases e:d = c
   ·rw [decide_eq_true e,cond_true]
    exact ⟨fun _=>rfl,fun hn=>absurd (by rw [e]; exact List.mem_cons_self) hn⟩
   ·rw [decide_eq_false e,cond_false]
    refine ⟨fun hm=>ih'.1 ?_,fun hm=>ih'.2 fun h=>hm (List.mem_cons_of_mem _ h)⟩
    rcases List.mem_cons.1 hm with h | h
    ·exact absurd h.symm e
    ·exact h
  ·have h1:¬ ((j:Int) < (x.size:Int)):=by omega
   have hd:(B x).drop j = []:=List.drop_eq_nil_of_le (by rw [B_len]; omega)
   rw [decide_eq_false h1,cond_false,hd]
   exact ⟨fun hm=>absurd hm List.not_mem_nil,fun _=>rfl⟩
theorem rflg_loop {n:Nat} {s:ByteArray} (hn:s.size + 9 ≤ n) (hz:s.size ≤ 100000) (z:ref06_Token) {a:Nat}:∀ (k i:Nat) (x:ByteArray),i ≤ s.size → s.size - i < k → a + 2 + x.size = i →
  b_ref06_flags_1 n k s z x (i:Int) = some (rflgR a (flg (B x) ((B s).drop i))):=by
 intro k
 induction k with
 | zero=>intro i x _ h; omega
 | succ k ih =>
  intro i x hi hk hx
  rw [b_ref06_flags_1.eq_2]
  by_cases h:i < s.size
  ·have h1:(i:Int) < (s.size:Int):=by omega
   have hd:(B s).drop i = ((B s)[i]'(by rw [B_len]; exact h)) :: (B s).drop (i + 1):=List.drop_eq_getElem_cons _
   have hb:bt s (i:Int) = some ((B s)[i]'(by rw [B_len]; exact h)):=by rw [bt_nat]; exact List.getElem?_eq_getElem _
   have hm:(B s)[i]'(by rw [B_len]; exact h) ∈ B s:=List.getElem_mem _
   have h0:=B_rng hm
   generalize (B s)[i]'(by rw [B_len]; exact h) = c at hd hb hm h0
   rw [hd,flg]
   simp only [h1,decide_true,cond_true,hb,Option.bind_some]
   have hnil:(x = (⟨#[]⟩:ByteArray)) ↔ (B x = []):=B_nil
   by_cases h58:c = 58 ∧ B x ≠ []
   ·rw [if_pos h58]
    have hne:¬ (x = (⟨#[]⟩:ByteArray)):=fun e=>h58.2 (hnil.1 e)
    simp only [h58.1,hne,decide_true,decide_false,Bool.not_false,Bool.and_true,cond_true]
    rw [wp1 (by omega)]
    simp only [rflgR,B_len]
    have e2:a + 3 + x.size = i + 1:=by omega
    rw [e2]
    exact congrArg some (Prod.ext (refMkF x) rfl)
   ·rw [if_neg h58]
    have e1:(decide (c = 58) && !decide (x = (⟨#[]⟩:ByteArray))) = false:=by
     by_cases h1:c = 58
     ·have h2:x = (⟨#[]⟩:ByteArray):=hnil.2 (Decidable.byContradiction fun h3=>h58 ⟨h1,h3⟩)
      simp [h2]
     ·simp [h1]
    rw [e1,cond_false]
    by_cases h4:c ≠ 105 ∧ c ≠ 109 ∧ c ≠ 115
    ·rw [if_pos (.inl h4)]
     simp only [h4.1,h4.2.1,h4.2.2,decide_false,Bool.not_false,Bool.and_self,cond_true]
     rfl
    ·have e2:((!decide (c = 105) && !decide (c = 109)) && !decide (c = 115)) = false:=by
      by_cases h1:c = 105
      ·simp [h1]
      by_cases h2:c = 109
      ·simp [h2]
      by_cases h3:c = 115
      ·simp [h3]
      exact absurd ⟨h1,h2,h3⟩ h4
     have hdup:=rdup (n:=n) (q:=b_ref06_flags_1 n k) (s:=s) (x:=x) (z:=z) (i:=(i:Int)) (c:=c) (by omega) n 0 (by omega) (by omega)
     rw [List.drop_zero] at hdup
     rw [e2,cond_false,show (0:Int) = ((0:Nat):Int) from rfl]
     by_cases h5:c ∈ B x
     ·rw [hdup.1 h5,if_pos (.inr h5)]; rfl
     ·rw [hdup.2 h5,if_neg (by intro h; rcases h with h | h; exact h4 h; exact h5 h)]
      have hs1:B (strOf (some [c])) = [c]:=B_strOf fun d hd=>by simp at hd; omega
      have hs2:(strOf (some [c])).size = 1:=by rw [← B_len,hs1]; rfl
      rw [sadd_eq (by omega),Option.bind_some,wp1 (by omega),ih (i + 1) _ (by omega) (by omega) (by rw [← B_len,B_append,List.length_append,B_len,B_len,hs2]; omega),B_append,hs1]
  ·have h1:¬ ((i:Int) < (s.size:Int)):=by omega
   have hd:(B s).drop i = []:=List.drop_eq_nil_of_le (by rw [B_len]; omega)
   simp only [h1,decide_false,cond_false,hd,flg]
   rfl
theorem rflags_eq {n:Nat} {s:ByteArray} {a:Nat} (hn:s.size + 10 ≤ n) (hz:s.size ≤ 100000) (ha:a + 2 ≤ s.size):m_ref06_flags n s (a:Int) = some (rflgR a (flg [] ((B s).drop (a + 2)))):=by
 obtain ⟨n,rfl⟩:∃ m,n = m + 1:=⟨n - 1,by omega⟩
 show b_ref06_flags n s (a:Int) = _
 unfold b_ref06_flags
 rw [w64 (n:=(a:Int) + 2) (by omega) (by omega),show (a:Int) + 2 = ((a + 2:Nat):Int) by omega]
 exact rflg_loop (a:=a) (by omega) hz _ n (a + 2) ⟨#[]⟩ (by omega) (by omega) rfl
def fnd:List (List Int × Int) → List Int → Option (Int × Nat)
 | [],_=>none
 | (h,k) :: t,l=>if pre h l = true then some (k,h.length) else fnd t l
def heads:List (List Int × Int):=[([46],1),([94],2),([36],3),([92,98],4),([92,66],5),([124],6),([40,63,58],8),([40,63,61],9),([40,63,33],10),([40,63,60,61],11),([40,63,60,33],12),([40,63,62],13),([41],15)]
def rest:List Int → Except Int (STok × Nat)
 | []=>.error 3
 | c :: r =>
  if pre [40,63] (c :: r) = true then (match flg [] ((c :: r).drop 2) with | none=>.error 3 | some fl=>.ok ({ kind:=14,flags:=fl },3 + fl.length))
  else if c = 40 then .ok ({ kind:=7 },1)
  else if c = 42 ∨ c = 43 ∨ c = 63 ∨ c = 123 then qnt (c :: r)
  else if c = 91 then match cls (c :: r) with
   | none=>.error 3
   | some (P,k)=>.ok ({ set:=P },k)
  else if c = 93 ∨ c = 125 then .error 3
  else if c ≠ 92 then .ok ({ set:=one c },1)
  else match r with
  | []=>.error 3
  | d :: _=>if 49 ≤ d ∧ d ≤ 57 then .ok ({ kind:=17,n:=d - 48 },2)
   else match esc r with
    | none=>.error 3
    | some (a,k)=>.ok ({ set:=a.p },k + 1)
theorem preC {h c:Int} {t r:List Int}:pre (h :: t) (c :: r) = (decide (c = h) && pre t r):=by
 simp only [pre,List.length_cons,List.take_succ_cons,List.cons.injEq]
 by_cases e:c = h <;> simp [e]
theorem preN {r:List Int}:pre [] r = true:=by simp [pre]
theorem tok_rest (c:Int) (r:List Int):tok (c :: r) = match fnd heads (c :: r) with | some (k,m)=>.ok ({ kind:=k },m) | none=>rest (c :: r):=by
 have ne:∀ {a b:Int},a ≠ b → decide (a = b) = false:=fun h=>decide_eq_false h
 rw [tok]
 simp only [heads,fnd,preC,preN,Bool.and_true,decide_eq_true_eq,List.length_cons,List.length_nil,Nat.zero_add,Nat.reduceAdd]
 by_cases h1:c = 46
 ·simp only [h1,if_true]
 simp only [h1,if_false]
 by_cases h2:c = 94
 ·simp only [h2,if_true]
 simp only [h2,if_false]
 by_cases h3:c = 36
 ·simp only [h3,if_true]
 simp only [h3,if_false]
 by_cases h4:c = 124
 ·subst h4; simp
 simp only [h4,if_false]
 by_cases h5:c = 41
 ·subst h5; simp
 simp only [h5,if_false]
 by_cases h6:c = 40
 ·subst h6
  cases r with
  | nil=>rfl
  | cons d r =>
   have e92:decide ((40:Int) = 92) = false:=rfl
   simp only [e92,Bool.false_and,Bool.false_eq_true,if_false,decide_true,Bool.true_and,if_true,opn,preC,preN,Bool.and_true,rest]
   by_cases hd:d = 63
   ·simp only [hd,decide_true,Bool.true_and,Bool.true_eq_false,if_false,if_true]
    repeat (first | rfl | split)
   ·simp only [hd,decide_false,Bool.false_and,Bool.false_eq_true,if_false,if_true]
 simp only [h6,decide_false,Bool.false_and,Bool.false_eq_true,if_false]
 by_cases h7:c = 92
 ·subst h7
  have q1:¬ ((92:Int) = 42 ∨ (92:Int) = 43 ∨ (92:Int) = 63 ∨ (92:Int) = 123):=by omega
  have q2:¬ ((92:Int) = 91):=by omega
  have q3:¬ ((92:Int) = 93 ∨ (92:Int) = 125):=by omega
  have q4:¬ ((92:Int) = 40):=by omega
  simp only [q1,q2,if_false,if_true,decide_true,Bool.true_and,escd.eq_def,rest,preC,q3,q4,decide_false,Bool.false_and,Bool.false_eq_true,ne_eq,not_true_eq_false]
  cases pre [98] r with
  | true=>rfl
  | false =>
   simp only [Bool.false_eq_true,if_false]
   cases pre [66] r with
   | true=>rfl
   | false=>rfl
 simp only [h7,decide_false,Bool.false_and,Bool.false_eq_true,if_false,rest,preC,h6]
 by_cases h8:c = 42 ∨ c = 43 ∨ c = 63 ∨ c = 123
 ·simp only [h8,if_true]
 simp only [h8,if_false]
 by_cases h9:c = 91
 ·simp only [h9,if_true]
  cases cls (91 :: r) <;> rfl
 simp only [h9,if_false]
 by_cases h10:c = 93 ∨ c = 125
 ·simp only [h10,if_true]
 simp only [h10,if_false,ne_eq,h7,not_false_eq_true,if_true]
def restOf (n:Nat) (s:ByteArray) (a:Nat) (z:ref06_Token) (c:Int) (hs:List ByteArray) (ks:List Int):Option (ref06_Token × Int × Int) :=
 b_ref06_token_1 (m_ref06_Class n) (m_ref06_starts n) (m_ref01_Words n) (m_ref06_flags n) (m_ref06_quant n) (m_ref06_one n) (m_ref06_escape n) n 1 s (a:Int) z c (some hs) (some ks) (hs.length:Int)
theorem heads_loop {n:Nat} {s:ByteArray} {a:Nat} {z:ref06_Token} {c:Int} {hs:List ByteArray} {ks:List Int} (hn:1 ≤ n) (hz:s.size ≤ 100000) (ha:a ≤ 100000) (hlen:hs.length = ks.length) (hsz:∀ h ∈ hs,1 ≤ h.size ∧ h.size ≤ 1000) (hh:hs.length ≤ 100) :
  ∀ (k i:Nat),i ≤ hs.length → hs.length - i < k → b_ref06_token_1 (m_ref06_Class n) (m_ref06_starts n) (m_ref01_Words n) (m_ref06_flags n) (m_ref06_quant n) (m_ref06_one n) (m_ref06_escape n) n k s (a:Int) z c (some hs) (some ks) (i:Int) =
   match fnd (((hs.drop i).map B).zip (ks.drop i)) ((B s).drop a) with
   | some (kd,m)=>some (toRef (toLex { kind:=kd }),((a + m:Nat):Int),0)
   | none=>restOf n s a z c hs ks:=by
 intro k
 induction k with
 | zero=>intro i _ h; omega
 | succ k ih =>
  intro i hi hk
  by_cases h:i < hs.length
  ·have h1:(i:Int) < Sl.len (some hs):=by rw [Sl.len]; show (i:Int) < (hs.length:Int); omega
   rw [b_ref06_token_1.eq_2,decide_eq_true h1,cond_true,ck_ok (show i < (Sl.l (some hs)).length from h),Option.bind_some,nth_l (some hs) (show i < (Sl.l (some hs)).length from h)]
   have hd:hs.drop i = hs[i] :: hs.drop (i + 1):=List.drop_eq_getElem_cons h
   have kd:ks.drop i = ks[i]'(by omega) :: ks.drop (i + 1):=List.drop_eq_getElem_cons (by omega)
   have hsi:=hsz hs[i] (List.getElem_mem _)
   show (m_ref06_starts n s (a:Int) hs[i]).bind _ = _
   rw [starts_eq hn (by omega) hz hsi.1 hsi.2,Option.bind_some,hd,kd,List.map_cons,List.zip_cons_cons,fnd]
   cases hp:pre (B hs[i]) ((B s).drop a) with
   | true =>
    simp only [cond_true,if_true]
    rw [ck_ok (show i < (Sl.l (some ks)).length by show i < ks.length; omega),Option.bind_some,nth_l (some ks) (show i < (Sl.l (some ks)).length by show i < ks.length; omega),B_len]
    show some (_,IntKind.i64.wrap ((a:Int) + ((hs[i].size:Nat):Int)),0) = _
    rw [w64 (by omega) (by omega)]
    refine congrArg some (Prod.ext (refMk _ 0 0 0 0) (Prod.ext ?_ rfl))
    show (a:Int) + (hs[i].size:Int) = ((a + hs[i].size:Nat):Int)
    omega
   | false =>
    simp only [cond_false,Bool.false_eq_true,if_false]
    rw [wp1 (by omega)]
    exact ih (i + 1) (by omega) (by omega)
  ·obtain rfl:i = hs.length:=by omega
   rw [List.drop_length,List.map_nil,List.zip_nil_left,fnd,restOf,b_ref06_token_1.eq_2,b_ref06_token_1.eq_2]
   have h1:¬ ((hs.length:Int) < Sl.len (some hs)):=by rw [Sl.len]; show ¬ ((hs.length:Int) < (hs.length:Int)); omega
   simp only [h1,decide_false,cond_false]
theorem rest_eq {n:Nat} {s:ByteArray} {a:Nat} {z:ref06_Token} {c:Int} {r:List Int} {hs:List ByteArray} {ks:List Int} (hn:330 + s.size ≤ n) (hz:s.size ≤ 100000) (hr:(B s).drop a = c :: r):restOf n s a z c hs ks = some (rtokR a (rest (c :: r))):=by
 have hl:s.size = a + 1 + r.length:=by
  have:=congrArg List.length hr
  rw [List.length_drop,B_len,List.length_cons] at this
  omega
 have h1:¬ ((hs.length:Int) < Sl.len (some hs)):=by rw [Sl.len]; show ¬ ((hs.length:Int) < (hs.length:Int)); omega
 have hc:=B_rng (List.mem_of_mem_drop (l:=B s) (i:=a) (a:=c) (by rw [hr]; simp))
 rw [restOf,b_ref06_token_1.eq_2,decide_eq_false h1,cond_false]
 have hst:=starts_eq (n:=n) (s:=s) (h:=⟨#[40,63]⟩) (a:=a) (by omega) (by omega) hz (by decide) (by decide)
 rw [show B ⟨#[40,63]⟩ = [40,63] from rfl,hr] at hst
 rw [hst,Option.bind_some]
 simp only [rest.eq_def]
 cases hp:pre [40,63] (c :: r) with
 | true =>
  have:=pre_len hp
  simp only [List.length_cons,List.length_nil] at this
  simp only [cond_true,if_true]
  rw [rflags_eq (by omega) hz (by omega),Option.bind_some,← List.drop_drop,hr]
  cases flg [] ((c :: r).drop 2) with
  | none=>rfl
  | some fl=>simp only [rflgR,rtokR,Nat.add_assoc]
 | false =>
 simp only [cond_false,Bool.false_eq_true,if_false]
 by_cases h6:c = 40
 ·simp only [h6,decide_true,cond_true,if_true]
  rw [wp1 (by omega)]
  exact congrArg some (Prod.ext (refMk 7 0 0 0 0) rfl)
 simp only [h6,decide_false,cond_false,if_false]
 have e8:((((decide (c = 42)) || (decide (c = 43))) || (decide (c = 63))) || (decide (c = 123))) = decide (c = 42 ∨ c = 43 ∨ c = 63 ∨ c = 123):=by simp [Bool.or_assoc]
 rw [e8]
 by_cases h8:c = 42 ∨ c = 43 ∨ c = 63 ∨ c = 123
 ·simp only [h8,decide_true,cond_true,if_true]
  rw [rquant_eq (by omega) hz hr,Option.bind_some]
 simp only [h8,decide_false,cond_false,if_false]
 by_cases h9:c = 91
 ·simp only [h9,decide_true,cond_true,if_true]
  rw [rclass_eq (by omega) hz (by rw [hr,h9]; rfl),Option.bind_some,hr,h9]
  cases cls (91 :: r) with
  | none=>rfl
  | some x =>
   obtain ⟨P,k⟩:=x
   simp only [rclsR,rtokR,Bool.false_xor,toRef,toLex]
   rfl
 simp only [h9,decide_false,cond_false,if_false]
 have e10:(decide (c = 93) || decide (c = 125)) = decide (c = 93 ∨ c = 125):=by simp
 rw [e10]
 by_cases h10:c = 93 ∨ c = 125
 ·simp only [h10,decide_true,cond_true,if_true]; rfl
 simp only [h10,decide_false,cond_false,if_false]
 by_cases h7:c = 92
 ·simp only [h7,decide_true,Bool.not_true,cond_false,ne_eq,not_true_eq_false,if_false]
  have hr1:(B s).drop (a + 1) = r:=by rw [← List.drop_drop,hr]; rfl
  rw [wp1 (by omega)]
  cases r with
  | nil =>
   have g:¬ (((a + 1:Nat):Int) < (s.size:Int)):=by simp only [List.length_nil] at hl; omega
   simp only [g,decide_false,cond_false,Option.bind_some]
   rw [resc_eq (by omega) hz hr]
   rfl
  | cons d r =>
   have g:(((a + 1:Nat):Int) < (s.size:Int)):=by simp only [List.length_cons] at hl; omega
   have hb:bt s ((a + 1:Nat):Int) = some d:=by rw [drop_hd,hr1]; rfl
   have hd:=B_rng (List.mem_of_mem_drop (l:=B s) (i:=a) (a:=d) (by rw [hr]; simp))
   simp only [g,decide_true,cond_true,hb,Option.bind_some]
   have e:(bif decide (49 ≤ d) then some (decide (d ≤ 57)) else some false) = some (decide (49 ≤ d ∧ d ≤ 57)):=by
    by_cases h:49 ≤ d <;> simp [h]
   rw [e,Option.bind_some]
   by_cases h:49 ≤ d ∧ d ≤ 57
   ·rw [decide_eq_true h,cond_true,if_pos h,w64 (n:=d) (by omega) (by omega),w64 (n:=d - 48) (by omega) (by omega),w64 (n:=(a:Int) + 2) (by omega) (by omega)]
    refine congrArg some (Prod.ext (refMk 17 0 0 0 _) rfl)
   ·rw [decide_eq_false h,cond_false,if_neg h,resc_eq (by omega) hz hr,Option.bind_some]
    cases he:esc (d :: r) with
    | none=>rfl
    | some x =>
     obtain ⟨x,k⟩:=x
     have e0:¬ (((a + 1 + k:Nat):Int) = 0):=by omega
     simp only [rescR,e0,decide_false,cond_false]
     rw [rwords _ (by omega),Option.bind_some]
     simp only [rtokR,toRef,toLex]
     rw [show a + 1 + k = a + (k + 1) by omega]
     rfl
 ·simp only [h7,decide_false,Bool.not_false,cond_true,ne_eq,not_false_eq_true,if_true]
  rw [rone_eq (by omega) hc.1 hc.2,Option.bind_some,rwords _ (by omega),Option.bind_some,wp1 (by omega)]
  rfl
theorem rtok_eq {n:Nat} {s:ByteArray} {a:Nat} {c:Int} {r:List Int} (hn:340 + s.size ≤ n) (hz:s.size ≤ 100000) (hr:(B s).drop a = c :: r):m_ref06_token n s (a:Int) = some (rtokR a (tok (c :: r))):=by
 obtain ⟨n,rfl⟩:∃ m,n = m + 1:=⟨n - 1,by omega⟩
 show b_ref06_token (m_ref06_Class n) (m_ref06_starts n) (m_ref01_Words n) (m_ref06_flags n) (m_ref06_quant n) (m_ref06_one n) (m_ref06_escape n) n s (a:Int) = _
 unfold b_ref06_token
 have hl:s.size = a + 1 + r.length:=by
  have:=congrArg List.length hr
  rw [List.length_drop,B_len,List.length_cons] at this
  omega
 have hb:bt s (a:Int) = some c:=by rw [drop_hd,hr]; rfl
 rw [hb,Option.bind_some,show (0:Int) = ((0:Nat):Int) from rfl,heads_loop (by omega) hz (by omega) rfl (by decide) (by decide) n 0 (by decide) (by show 13 - 0 < n; omega),hr,rest_eq (by omega) hz hr]
 show (match fnd heads (c :: r) with | some (kd,m)=>some (toRef (toLex { kind:=kd }),((a + m:Nat):Int),0) | none=>some (rtokR a (rest (c :: r)))) = _
 rw [tok_rest]
 cases fnd heads (c :: r) with
 | none=>rfl
 | some x=>rfl
def rlexR (acc:List ref06_Token):Except Int (List STok) → Sl ref06_Token × Int
 | .error e=>(none,e)
 | .ok ts=>(some (acc ++ ts.map fun t=>toRef (toLex t)),0)
theorem rlex_loop {n:Nat} (hn:1400 ≤ n) {s:ByteArray} (hz:s.size ≤ 1000):∀ (k j a:Nat) (acc:List ref06_Token),a ≤ s.size → s.size - a < k → k ≤ j → acc.length ≤ a →
  b_ref06_Lex_1 (m_ref06_token n) n j s (some acc) (a:Int) = some (rlexR acc (toks k ((B s).drop a))):=by
 intro k
 induction k with
 | zero=>intro j a acc _ h; omega
 | succ k ih =>
  intro j a acc h1 h2 h3 h4
  obtain ⟨j,rfl⟩:∃ m,j = m + 1:=⟨j - 1,by omega⟩
  rw [b_ref06_Lex_1.eq_2,toks]
  cases hr:(B s).drop a with
  | nil =>
   have:s.size ≤ a:=by have:=congrArg List.length hr; rw [List.length_drop,B_len,List.length_nil] at this; omega
   have:¬ ((a:Int) < (s.size:Int)):=by omega
   simp only [this,decide_false,cond_false,if_true,rlexR,List.map_nil,List.append_nil]
  | cons c r =>
   have:a < s.size:=by have:=congrArg List.length hr; rw [List.length_drop,B_len,List.length_cons] at this; omega
   have hlt:((a:Int) < (s.size:Int)):=by omega
   rw [decide_eq_true hlt,cond_true,rtok_eq (by omega) (by omega) hr,Option.bind_some,if_neg (by simp)]
   have hby:Byt (c :: r):=by rw [← hr]; exact (B_byt s).drop a
   have htr:=tok_rng hby
   have hte:=fun e=>tok_err (c :: r) (e:=e)
   have hlen:(c :: r).length = s.size - a:=by rw [← hr,List.length_drop,B_len]
   generalize tok (c :: r) = x at htr hte
   match x,htr,hte with
   | .error e,htr,hte =>
    have:=hte e rfl
    have h0:¬ (e = 0):=by omega
    simp only [rtokR,h0,decide_false,Bool.not_false,cond_true]
    rfl
   | .ok (t,m),htr,hte =>
    have hm:=htr t m rfl
    simp only [rtokR,decide_true,Bool.not_true,cond_false]
    rw [some_app _ _ (by simp; omega),Option.bind_some,ih j (a + m) _ (by omega) (by omega) (by omega) (by simp; omega),← List.drop_drop,hr]
    cases toks k ((c :: r).drop m) with
    | error e=>rfl
    | ok ts=>simp [rlexR]
theorem rlex_eq {n:Nat} {s:ByteArray} (hn:1410 ≤ n):m_ref06_Lex n s = some (match lexS (B s) with | .error e=>(none,e) | .ok ts=>(some (ts.map fun t=>toRef (toLex t)),0)):=by
 obtain ⟨n,rfl⟩:∃ m,n = m + 1:=⟨n - 1,by omega⟩
 show b_ref06_Lex (m_ref06_token n) n s = _
 unfold b_ref06_Lex
 rw [lexS,B_len]
 by_cases h:1000 < s.size
 ·have h':(1000:Int) < (s.size:Int):=by omega
  rw [if_pos h,decide_eq_true h']
  rfl
 ·have h':¬ ((1000:Int) < (s.size:Int)):=by omega
  rw [if_neg h,decide_eq_false h',cond_false]
  have e:=rlex_loop (n:=n) (by omega) (s:=s) (by omega) (s.size + 1) n 0 [] (by omega) (by omega) (by omega) (by simp)
  rw [List.drop_zero] at e
  refine e.trans ?_
  cases toks (s.size + 1) (B s) with
  | error e=>rfl
  | ok ts=>rfl
end Go.Proofs.YtcjnmmeibppblaaDoor
