import Derived.Test.YtcjnmmeibppblaaDoorTeTab
import Derived.Test.YtcjnmmeibppblaaDoorTePure0
set_option maxRecDepth 100000
set_option linter.unusedVariables false
set_option linter.unusedSimpArgs false
namespace Go.Proofs.YtcjnmmeibppblaaDoor
open Go Go.AM
def W (P:Nat → Bool):class_Set:=⟨⟨[wd P 0,wd P 1,wd P 2,wd P 3],rfl⟩⟩
def one (c:Int):Nat → Bool:=fun i=>i == c.toNat
def rng (a b:Int):Nat → Bool:=fun i=>decide (a ≤ (i:Int)) && decide ((i:Int) ≤ b)
theorem W_congr {P Q:Nat → Bool} (h:∀ i,i < 256 → P i = Q i):W P = W Q:=by
 unfold W
 have e0:wd P 0 = wd Q 0:=wd_congr fun i _ _=>h i (by omega)
 have e1:wd P 1 = wd Q 1:=wd_congr fun i _ _=>h i (by omega)
 have e2:wd P 2 = wd Q 2:=wd_congr fun i _ _=>h i (by omega)
 have e3:wd P 3 = wd Q 3:=wd_congr fun i _ _=>h i (by omega)
 simp only [e0,e1,e2,e3]
theorem W_none:class_Set.zero = W fun _=>false:=by kernel_rfl
theorem get4 (a b c d:Int) (h:[a,b,c,d].length = 4):(Arr.nth ⟨[a,b,c,d],h⟩ 0 = a) ∧ (Arr.nth ⟨[a,b,c,d],h⟩ 1 = b) ∧ (Arr.nth ⟨[a,b,c,d],h⟩ 2 = c) ∧ (Arr.nth ⟨[a,b,c,d],h⟩ 3 = d):=⟨rfl,rfl,rfl,rfl⟩
theorem put4 (a b c d v:Int) (h:[a,b,c,d].length = 4):(Arr.put ⟨[a,b,c,d],h⟩ 0 v = ⟨[v,b,c,d],rfl⟩) ∧ (Arr.put ⟨[a,b,c,d],h⟩ 1 v = ⟨[a,v,c,d],rfl⟩) ∧ (Arr.put ⟨[a,b,c,d],h⟩ 2 v = ⟨[a,b,v,d],rfl⟩) ∧ (Arr.put ⟨[a,b,c,d],h⟩ 3 v = ⟨[a,b,c,v],rfl⟩):=⟨rfl,rfl,rfl,rfl⟩
theorem ck4:(ck 4 0 = some 0) ∧ (ck 4 1 = some 1) ∧ (ck 4 2 = some 2) ∧ (ck 4 3 = some 3):=⟨rfl,rfl,rfl,rfl⟩
theorem wp:(IntKind.i64.wrap (0 + 1) = 1) ∧ (IntKind.i64.wrap (1 + 1) = 2) ∧ (IntKind.i64.wrap (2 + 1) = 3) ∧ (IntKind.i64.wrap (3 + 1) = 4):=by decide +kernel
theorem lt4:(decide ((0:Int) < 4) = true) ∧ (decide ((1:Int) < 4) = true) ∧ (decide ((2:Int) < 4) = true) ∧ (decide ((3:Int) < 4) = true) ∧ (decide ((4:Int) < 4) = false):=by decide
theorem or_W {n:Nat} (P Q:Nat → Bool) (h:6 ≤ n):m_class_Set_Or n (W P) (W Q) = some (W fun i=>P i || Q i):=by
 obtain ⟨n,rfl⟩:∃ m,n = m + 6:=⟨n - 6,by omega⟩
 show b_class_Set_Or (n + 5) _ _ = _
 unfold b_class_Set_Or W
 rw [b_class_Set_Or_1.eq_2]
 simp only [lt4,cond_true,ck4,Option.bind_some,get4,put4,or_wd,wp]
 rw [b_class_Set_Or_1.eq_2]
 simp only [lt4,cond_true,ck4,Option.bind_some,get4,put4,or_wd,wp]
 rw [b_class_Set_Or_1.eq_2]
 simp only [lt4,cond_true,ck4,Option.bind_some,get4,put4,or_wd,wp]
 rw [b_class_Set_Or_1.eq_2]
 simp only [lt4,cond_true,ck4,Option.bind_some,get4,put4,or_wd,wp]
 rw [b_class_Set_Or_1.eq_2]
 simp only [lt4,cond_false]
theorem not_W {n:Nat} (P:Nat → Bool) (h:6 ≤ n):m_class_Set_Not n (W P) = some (W fun i=>!P i):=by
 obtain ⟨n,rfl⟩:∃ m,n = m + 6:=⟨n - 6,by omega⟩
 show b_class_Set_Not (n + 5) _ = _
 unfold b_class_Set_Not W
 rw [b_class_Set_Not_1.eq_2]
 simp only [lt4,cond_true,ck4,Option.bind_some,get4,put4,com_wd,wp]
 rw [b_class_Set_Not_1.eq_2]
 simp only [lt4,cond_true,ck4,Option.bind_some,get4,put4,com_wd,wp]
 rw [b_class_Set_Not_1.eq_2]
 simp only [lt4,cond_true,ck4,Option.bind_some,get4,put4,com_wd,wp]
 rw [b_class_Set_Not_1.eq_2]
 simp only [lt4,cond_true,ck4,Option.bind_some,get4,put4,com_wd,wp]
 rw [b_class_Set_Not_1.eq_2]
 simp only [lt4,cond_false]
theorem quo64 {c:Nat} (h:c < 256):quoO .u8 (c:Int) 64 = some ((c / 64:Nat):Int):=by
 simp only [quoO,show ¬ ((64:Int) = 0) by decide,if_false]
 rw [Int.tdiv_eq_ediv_of_nonneg (by omega),wrap_u8 (by omega) (by omega)]
 simp
theorem rem64 {c:Nat}:remO (c:Int) 64 = some ((c % 64:Nat):Int):=by
 simp only [remO,show ¬ ((64:Int) = 0) by decide,if_false]
 rw [Int.tmod_eq_emod_of_nonneg (by omega)]
 simp
theorem shl1 {m:Nat} (h:m < 64):shlO .u64 1 (m:Int) = some ((2 ^ m:Nat):Int):=by
 rw [shlO,if_pos (by omega)]
 have e:min ((m:Int)).toNat IntKind.u64.bits = m:=by
  have:IntKind.u64.bits = 64:=rfl
  omega
 rw [e]
 congr 1
 have:=u64_nat (x:=2 ^ m) (Nat.pow_lt_pow_right (by decide) h)
 rw [← this]
 congr 1
 simp
theorem shr_W {x:Int} {m:Nat} (h:m < 64):shrO .u64 x (m:Int) = some (x.fdiv (2 ^ m)):=by
 rw [shrO,if_pos (by omega)]
 have e:min ((m:Int)).toNat IntKind.u64.bits = m:=by
  have:IntKind.u64.bits = 64:=rfl
  omega
 rw [e]
theorem nth_W (P:Nat → Bool) {j:Nat} (h:j < 4):(W P).f_W.nth j = wd P j:=by
 match j,h with
 | 0,_=>rfl
 | 1,_=>rfl
 | 2,_=>rfl
 | 3,_=>rfl
theorem put_W (P Q:Nat → Bool) {j:Nat} (h:j < 4) (hj:∀ k,k < 4 → k ≠ j → wd P k = wd Q k):({ W P with f_W:=(W P).f_W.put j (wd Q j) }:class_Set) = W Q:=by
 match j,h with
 | 0,_=>simp only [W,put4,hj 1 (by decide) (by decide),hj 2 (by decide) (by decide),hj 3 (by decide) (by decide)]
 | 1,_=>simp only [W,put4,hj 0 (by decide) (by decide),hj 2 (by decide) (by decide),hj 3 (by decide) (by decide)]
 | 2,_=>simp only [W,put4,hj 0 (by decide) (by decide),hj 1 (by decide) (by decide),hj 3 (by decide) (by decide)]
 | 3,_=>simp only [W,put4,hj 0 (by decide) (by decide),hj 1 (by decide) (by decide),hj 2 (by decide) (by decide)]
theorem add_W {n:Nat} (P:Nat → Bool) {c:Int} (h:1 ≤ n) (h0:0 ≤ c) (h1:c < 256):m_class_Set_add n (W P) c = some (W fun i=>P i || one c i):=by
 obtain ⟨n,rfl⟩:∃ m,n = m + 1:=⟨n - 1,by omega⟩
 obtain ⟨c,rfl⟩:∃ m:Nat,c = m:=⟨c.toNat,by omega⟩
 show b_class_Set_add n _ _ = _
 unfold b_class_Set_add
 have hq:c / 64 < 4:=by omega
 have hm:c % 64 < 64:=Nat.mod_lt _ (by decide)
 rw [quo64 (by omega),Option.bind_some,ck_ok hq,Option.bind_some,rem64,Option.bind_some,shl1 hm,Option.bind_some,nth_W P hq,add_wd _ _ _ hm]
 have e:∀ i,(i == 64 * (c / 64) + c % 64) = one (c:Int) i:=fun i=>by
  rw [one,show 64 * (c / 64) + c % 64 = c by omega]
  simp
 simp only [e]
 congr 1
 refine put_W _ _ hq fun k hk hkj=>wd_congr fun i hi hi'=>?_
 have:¬ i = c:=by omega
 simp [one,this]
theorem has_W {n:Nat} (P:Nat → Bool) {c:Int} (h:1 ≤ n) (h0:0 ≤ c) (h1:c < 256):m_class_Set_Has n (W P) c = some (P c.toNat):=by
 obtain ⟨n,rfl⟩:∃ m,n = m + 1:=⟨n - 1,by omega⟩
 obtain ⟨c,rfl⟩:∃ m:Nat,c = m:=⟨c.toNat,by omega⟩
 show b_class_Set_Has n _ _ = _
 unfold b_class_Set_Has
 have hq:c / 64 < 4:=by omega
 have hm:c % 64 < 64:=Nat.mod_lt _ (by decide)
 rw [quo64 (by omega),Option.bind_some,ck_ok hq,Option.bind_some,rem64,Option.bind_some,shr_W hm,Option.bind_some,nth_W P hq,has_wd _ _ _ hm]
 simp [show 64 * (c / 64) + c % 64 = c by omega]
theorem one_W {n:Nat} {c:Int} (h:2 ≤ n) (h0:0 ≤ c) (h1:c < 256):m_class_One n c = some (W (one c)):=by
 obtain ⟨n,rfl⟩:∃ m,n = m + 1:=⟨n - 1,by omega⟩
 show b_class_One (m_class_Set_add n) n _ = _
 unfold b_class_One
 rw [W_none,add_W _ (by omega) h0 h1]
 simp
theorem range_loop {n:Nat} {b:Int} (hn:1 ≤ n) (b0:0 ≤ b) (hb:b < 256):∀ (k:Nat) (a:Int) (P:Nat → Bool) (z:class_Set),0 ≤ a → a ≤ 256 → 257 - a < k →
  b_class_Range_1 (m_class_Set_add n) n k b z (W P) a = some (W fun i=>P i || rng a b i):=by
 intro k
 induction k with
 | zero=>intro a P z h0 h1 hk; omega
 | succ k ih =>
  intro a P z h0 h1 hk
  rw [b_class_Range_1.eq_2]
  have e1:IntKind.i64.wrap b = b:=w64 (by omega) (by omega)
  by_cases hab:a ≤ b
  ·simp only [e1,hab,decide_true,cond_true]
   rw [wrap_u8 h0 (by omega),add_W _ hn h0 (by omega),Option.bind_some,w64 (by omega) (by omega),ih _ _ _ (by omega) (by omega) (by omega)]
   refine congrArg some (W_congr fun i _=>?_)
   by_cases hi:(i:Int) = a
   ·subst hi; simp [one,rng,hab]
   ·have h2:(i == a.toNat) = false:=by rw [beq_eq_false_iff_ne]; omega
    have h3:(a + 1 ≤ (i:Int)) ↔ (a ≤ (i:Int)):=by omega
    simp [one,rng,h2,h3]
  ·simp only [e1,hab,decide_false,cond_false]
   refine congrArg some (W_congr fun i _=>?_)
   simp only [rng]
   by_cases h4:a ≤ (i:Int)
   ·have:¬ ((i:Int) ≤ b):=by omega
    simp [this]
   ·simp [h4]
theorem range_W {n:Nat} {a b:Int} (h:270 ≤ n) (a0:0 ≤ a) (a1:a < 256) (b0:0 ≤ b) (b1:b < 256):m_class_Range n a b = some (W (rng a b)):=by
 obtain ⟨n,rfl⟩:∃ m,n = m + 1:=⟨n - 1,by omega⟩
 show b_class_Range (m_class_Set_add n) n _ _ = _
 unfold b_class_Range
 have e:=range_loop (n:=n) (b:=b) (by omega) b0 b1 n a (fun _=>false) class_Set.zero a0 (by omega) (by omega)
 rw [W_none] at e ⊢
 rw [w64 (by omega) (by omega),e]
 simp
end Go.Proofs.YtcjnmmeibppblaaDoor
