import Derived.Test.YtcjnmmeibppblaaDoorTePure1
set_option maxRecDepth 100000
set_option linter.unusedVariables false
set_option linter.unusedSimpArgs false
namespace Go.Proofs.YtcjnmmeibppblaaDoor
open Go Go.AM
def RS (P:Nat → Bool):ref01_Set:=⟨⟨(List.range 256).map P,by simp⟩⟩
theorem RS_congr {P Q:Nat → Bool} (h:∀ i,i < 256 → P i = Q i):RS P = RS Q:=by
 unfold RS
 congr 2
 exact List.map_congr_left fun i hi=>h i (List.mem_range.1 hi)
theorem RS_none:ref01_Set.zero = RS fun _=>false:=by kernel_rfl
theorem RS_nth (P:Nat → Bool) {j:Nat} (h:j < 256):(RS P).f_In.nth j = P j:=by
 simp [RS,Arr.nth,List.getD_eq_getElem?_getD,h]
theorem RS_put (P:Nat → Bool) {j:Nat} (v:Bool):({ RS P with f_In:=(RS P).f_In.put j v }:ref01_Set) = RS fun i=>if i = j then v else P i:=by
 simp only [RS,Arr.put]
 congr 2
 refine List.ext_getElem? fun i=>?_
 simp only [List.getElem?_set,List.getElem?_map,List.length_map,List.length_range]
 by_cases hi:i < 256
 ·simp only [List.getElem?_range hi,Option.map_some]
  by_cases e:j = i
  ·subst e; simp [hi]
  ·have e':¬ i = j:=fun h=>e h.symm
   simp [e,e']
 ·have:((List.range 256)[i]?:Option Nat) = none:=by simp; omega
  simp only [this,Option.map_none]
  by_cases e:j = i
  ·subst e; simp [hi]
  ·simp [e]
def mix (f g:Nat → Bool) (j:Nat):Nat → Bool:=fun i=>if i < j then f i else g i
theorem RS_mix (f g:Nat → Bool) (j:Nat):({ RS (mix f g j) with f_In:=(RS (mix f g j)).f_In.put j (f j) }:ref01_Set) = RS (mix f g (j + 1)):=by
 rw [RS_put]
 refine RS_congr fun i _=>?_
 simp only [mix]
 by_cases e:i = j
 ·subst e; simp
 ·simp only [e,if_false,show (i < j + 1) ↔ (i < j) by omega]
theorem RS_mix0 (f g:Nat → Bool):RS (mix f g 0) = RS g:=RS_congr fun i _=>by simp [mix]
theorem RS_mix1 (f g:Nat → Bool):RS (mix f g 256) = RS f:=RS_congr fun i hi=>by simp [mix,hi]
theorem mix_at (f g:Nat → Bool) (j:Nat):mix f g j j = g j:=by simp [mix]
theorem lt256 {j:Nat}:decide ((j:Int) < 256) = decide (j < 256):=by simp; omega
theorem rrange_loop {n:Nat} {a b:Int} (a0:0 ≤ a) (a1:a < 256) (b0:0 ≤ b) (b1:b < 256) (z:ref01_Set):∀ (k j:Nat),j ≤ 256 → 257 ≤ k + j →
  b_ref01_Range_1 n k a b z (RS (mix (rng a b) (fun _=>false) j)) (j:Int) = some (RS (rng a b)):=by
 intro k
 induction k with
 | zero=>intro j h1 h2; omega
 | succ k ih =>
  intro j h1 h2
  rw [b_ref01_Range_1.eq_2,lt256]
  by_cases hj:j < 256
  ·simp only [hj,decide_true,cond_true]
   rw [ck_ok hj,Option.bind_some,w64 (n:=a) (by omega) (by omega),w64 (n:=b) (by omega) (by omega),wp1 (by omega)]
   have e:(decide (a ≤ (j:Int)) && decide ((j:Int) ≤ b)) = rng a b j:=rfl
   rw [e,RS_mix]
   exact ih (j + 1) (by omega) (by omega)
  ·obtain rfl:j = 256:=by omega
   simp only [hj,decide_false,cond_false,RS_mix1]
theorem rrange {n:Nat} {a b:Int} (h:260 ≤ n) (a0:0 ≤ a) (a1:a < 256) (b0:0 ≤ b) (b1:b < 256):m_ref01_Range n a b = some (RS (rng a b)):=by
 obtain ⟨n,rfl⟩:∃ m,n = m + 1:=⟨n - 1,by omega⟩
 show b_ref01_Range n _ _ = _
 unfold b_ref01_Range
 have e:=rrange_loop (n:=n) a0 a1 b0 b1 ref01_Set.zero n 0 (by omega) (by omega)
 rw [RS_mix0,← RS_none] at e
 exact e
theorem ror_loop {n:Nat} (P Q:Nat → Bool) (z:ref01_Set):∀ (k j:Nat),j ≤ 256 → 257 ≤ k + j →
  b_ref01_Or_1 n k (RS (mix (fun i=>P i || Q i) P j)) (RS Q) z (j:Int) = some (RS fun i=>P i || Q i):=by
 intro k
 induction k with
 | zero=>intro j h1 h2; omega
 | succ k ih =>
  intro j h1 h2
  rw [b_ref01_Or_1.eq_2,lt256]
  by_cases hj:j < 256
  ·simp only [hj,decide_true,cond_true]
   rw [ck_ok hj,Option.bind_some,RS_nth _ hj,RS_nth _ hj,mix_at,wp1 (by omega)]
   have e:=RS_mix (fun i=>P i || Q i) P j
   simp only [] at e
   rw [e]
   exact ih (j + 1) (by omega) (by omega)
  ·obtain rfl:j = 256:=by omega
   simp only [hj,decide_false,cond_false,RS_mix1]
theorem ror {n:Nat} (P Q:Nat → Bool) (h:260 ≤ n):m_ref01_Or n (RS P) (RS Q) = some (RS fun i=>P i || Q i):=by
 obtain ⟨n,rfl⟩:∃ m,n = m + 1:=⟨n - 1,by omega⟩
 show b_ref01_Or n _ _ = _
 unfold b_ref01_Or
 have e:=ror_loop (n:=n) P Q ref01_Set.zero n 0 (by omega) (by omega)
 rw [RS_mix0] at e
 exact e
theorem rnot_loop {n:Nat} (P:Nat → Bool) (z:ref01_Set):∀ (k j:Nat),j ≤ 256 → 257 ≤ k + j →
  b_ref01_Not_1 n k (RS (mix (fun i=>!P i) P j)) z (j:Int) = some (RS fun i=>!P i):=by
 intro k
 induction k with
 | zero=>intro j h1 h2; omega
 | succ k ih =>
  intro j h1 h2
  rw [b_ref01_Not_1.eq_2,lt256]
  by_cases hj:j < 256
  ·simp only [hj,decide_true,cond_true]
   rw [ck_ok hj,Option.bind_some,RS_nth _ hj,mix_at,wp1 (by omega)]
   have e:=RS_mix (fun i=>!P i) P j
   simp only [] at e
   rw [e]
   exact ih (j + 1) (by omega) (by omega)
  ·obtain rfl:j = 256:=by omega
   simp only [hj,decide_false,cond_false,RS_mix1]
theorem rnot {n:Nat} (P:Nat → Bool) (h:260 ≤ n):m_ref01_Not n (RS P) = some (RS fun i=>!P i):=by
 obtain ⟨n,rfl⟩:∃ m,n = m + 1:=⟨n - 1,by omega⟩
 show b_ref01_Not n _ = _
 unfold b_ref01_Not
 have e:=rnot_loop (n:=n) P ref01_Set.zero n 0 (by omega) (by omega)
 rw [RS_mix0] at e
 exact e
def pw (P:Nat → Bool) (j m:Nat):Nat:=bin (64 - min 64 (m - 64 * j)) fun t=>P (64 * j + min 64 (m - 64 * j) + t)
theorem pw_end (P:Nat → Bool) (j:Nat):(pw P j 0:Int) = wd P j:=by simp [pw,wd]
theorem pw_other (P:Nat → Bool) {j k m:Nat} (h:m / 64 = j) (hk:k ≠ j):pw P k (m + 1) = pw P k m:=by
 have:min 64 (m + 1 - 64 * k) = min 64 (m - 64 * k):=by omega
 simp only [pw,this]
theorem pw_step (P:Nat → Bool) {j m:Nat} (h:m / 64 = j):pw P j m = 2 * pw P j (m + 1) + (P m).toNat:=by
 have h1:min 64 (m + 1 - 64 * j) = m - 64 * j + 1:=by omega
 have h2:min 64 (m - 64 * j) = m - 64 * j:=by omega
 have h3:64 - (m - 64 * j) = (64 - (m - 64 * j + 1)) + 1:=by omega
 have h4:64 * j + (m - 64 * j) = m:=by omega
 have h5:64 * j + (m - 64 * j + 1) = m + 1:=by omega
 simp only [pw,h1,h2,h3,bin,h4,h5,Nat.add_zero,Nat.add_assoc,Nat.add_comm 1]
theorem pw_lt (P:Nat → Bool) (j m:Nat):pw P j m < 2 ^ 64:=Nat.lt_of_lt_of_le (bin_lt _ _) (Nat.pow_le_pow_right (by decide) (by omega))
def A4 (f:Nat → Int):Arr Int 4:=⟨[f 0,f 1,f 2,f 3],rfl⟩
theorem A4_nth (f:Nat → Int) {j:Nat} (h:j < 4):(A4 f).nth j = f j:=by
 match j,h with
 | 0,_=>rfl
 | 1,_=>rfl
 | 2,_=>rfl
 | 3,_=>rfl
theorem A4_put (f:Nat → Int) {j:Nat} (v:Int) (h:j < 4):(A4 f).put j v = A4 fun k=>if k = j then v else f k:=by
 match j,h with
 | 0,_=>rfl
 | 1,_=>rfl
 | 2,_=>rfl
 | 3,_=>rfl
theorem A4_congr {f g:Nat → Int} (h:∀ k,k < 4 → f k = g k):A4 f = A4 g:=by
 unfold A4
 rw [h 0 (by decide),h 1 (by decide),h 2 (by decide),h 3 (by decide)]
theorem words_loop {n:Nat} (P:Nat → Bool) (z:Arr Int 4):∀ (k m:Nat),m ≤ 256 → m + 1 ≤ k →
  b_ref01_Words_1 n k (RS P) z (A4 fun j=>pw P j m) ((m:Int) - 1) = some (W P).f_W:=by
 intro k
 induction k with
 | zero=>intro m h1 h2; omega
 | succ k ih =>
  intro m h1 h2
  rw [b_ref01_Words_1.eq_2]
  cases m with
  | zero =>
   simp only [show decide ((0:Int) ≤ ((0:Nat):Int) - 1) = false by decide,cond_false]
   refine congrArg some ?_
   show A4 _ = A4 _
   exact A4_congr fun j _=>pw_end P j
  | succ m =>
   have e1:(((m + 1:Nat):Int) - 1) = (m:Int):=by omega
   have hq:m / 64 < 4:=by omega
   have hm:m < 256:=by omega
   have e2:quoO .i64 (m:Int) 64 = some ((m / 64:Nat):Int):=by
    simp only [quoO,show ¬ ((64:Int) = 0) by decide,if_false]
    rw [Int.tdiv_eq_ediv_of_nonneg (by omega),w64 (by omega) (by omega)]
    simp
   rw [e1]
   simp only [show decide ((0:Int) ≤ (m:Int)) = true by simp,cond_true,e2,Option.bind_some,ck_ok hq,ck_ok hm,RS_nth P hm,A4_nth _ hq,A4_put _ _ hq,if_true]
   have hl:=pw_lt P (m / 64) m
   have hs:=pw_step P (j:=m / 64) (m:=m) rfl
   have key:∀ v:Int,v = (pw P (m / 64) m:Nat) → b_ref01_Words_2 n (b_ref01_Words_1 n k) (RS P) z (A4 fun k=>if k = m / 64 then v else (pw P k (m + 1):Nat)) (m:Int) = some (W P).f_W:=fun v hv=>by
    rw [b_ref01_Words_2,w64 (by omega) (by omega)]
    rw [← ih m (by omega) (by omega)]
    congr 1
    refine A4_congr fun k hk=>?_
    by_cases e:k = m / 64
    ·subst e; simp [hv]
    ·simp only [e,if_false,pw_other P (j:=m / 64) rfl e]
   cases hP:P m with
   | true =>
    simp only [cond_true]
    rw [hP] at hs
    have ha:IntKind.u64.wrap ((pw P (m / 64) (m + 1):Nat) * 2:Int) = ((pw P (m / 64) (m + 1) * 2:Nat):Int):=by
     rw [← u64_nat (x:=pw P (m / 64) (m + 1) * 2) (by simp at hs; omega)]
     simp
    rw [ha]
    have hb:IntKind.u64.wrap (((pw P (m / 64) (m + 1) * 2:Nat):Int) + 1) = ((pw P (m / 64) m:Nat):Int):=by
     rw [← u64_nat hl]
     congr 1
     simp at hs; omega
    rw [hb]
    have e3:(A4 fun k=>if k = m / 64 then ((pw P (m / 64) m:Nat):Int) else if k = m / 64 then ((pw P (m / 64) (m + 1) * 2:Nat):Int) else (pw P k (m + 1):Nat)) = A4 fun k=>if k = m / 64 then ((pw P (m / 64) m:Nat):Int) else (pw P k (m + 1):Nat):=A4_congr fun k _=>by
     by_cases e:k = m / 64 <;> simp [e]
    rw [e3]
    exact key _ rfl
   | false =>
    simp only [cond_false]
    rw [hP] at hs
    refine key _ ?_
    rw [← u64_nat hl]
    congr 1
    simp at hs; omega
theorem rwords {n:Nat} (P:Nat → Bool) (h:260 ≤ n):m_ref01_Words n (RS P) = some (W P).f_W:=by
 obtain ⟨n,rfl⟩:∃ m,n = m + 1:=⟨n - 1,by omega⟩
 show b_ref01_Words n _ = _
 unfold b_ref01_Words
 have e:=words_loop (n:=n) P (Arr.rep 4 0) n 256 (by omega) (by omega)
 rw [← e]
 congr 1
def cf (P:Nat → Bool):Nat → Nat
 | 0=>0
 | r + 1=>(P (255 - r)).toNat + cf P r
theorem rlen_loop {n:Nat} (P:Nat → Bool):∀ (k r:Nat) (a:Nat),r ≤ 256 → r + 1 ≤ k → a ≤ 256 - r →
  b_ref01_Len_1 n k (RS P) (a:Int) ((256 - r:Nat):Int) = some ((a + cf P r:Nat):Int):=by
 intro k
 induction k with
 | zero=>intro r a h1 h2 h3; omega
 | succ k ih =>
  intro r a h1 h2 h3
  rw [b_ref01_Len_1.eq_2,lt256]
  cases r with
  | zero=>simp [cf]
  | succ r =>
   have hj:256 - (r + 1) < 256:=by omega
   have e1:256 - (r + 1) = 255 - r:=by omega
   simp only [hj,decide_true,cond_true]
   rw [ck_ok hj,Option.bind_some,RS_nth P hj,e1]
   have e2:IntKind.i64.wrap (((255 - r:Nat):Int) + 1) = ((256 - r:Nat):Int):=by rw [w64 (by omega) (by omega)]; omega
   cases hP:P (255 - r) with
   | true =>
    simp only [cond_true,b_ref01_Len_2,e2,wp1 (show a < 1000000 by omega)]
    rw [ih r (a + 1) (by omega) (by omega) (by omega),cf,hP]
    simp; omega
   | false =>
    simp only [cond_false,b_ref01_Len_2,e2]
    rw [ih r a (by omega) (by omega) (by omega),cf,hP]
    simp
theorem rlen {n:Nat} (P:Nat → Bool) (h:260 ≤ n):m_ref01_Len n (RS P) = some (cf P 256:Int):=by
 obtain ⟨n,rfl⟩:∃ m,n = m + 1:=⟨n - 1,by omega⟩
 show b_ref01_Len n _ = _
 unfold b_ref01_Len
 have e:=rlen_loop (n:=n) P n 256 0 (by omega) (by omega) (by omega)
 simpa using e
def mf (P:Nat → Bool):Nat → Int × Bool
 | 0=>(0,false)
 | r + 1=>if P (255 - r) then (((255 - r:Nat):Int),true) else mf P r
theorem rmin_loop {n:Nat} (P:Nat → Bool):∀ (k r:Nat),r ≤ 256 → r + 1 ≤ k →
  b_ref01_Min_1 n k (RS P) ((256 - r:Nat):Int) = some (mf P r):=by
 intro k
 induction k with
 | zero=>intro r h1 h2; omega
 | succ k ih =>
  intro r h1 h2
  rw [b_ref01_Min_1.eq_2,lt256]
  cases r with
  | zero=>simp [mf]
  | succ r =>
   have hj:256 - (r + 1) < 256:=by omega
   have e1:256 - (r + 1) = 255 - r:=by omega
   simp only [hj,decide_true,cond_true]
   rw [ck_ok hj,Option.bind_some,RS_nth P hj,e1]
   have e2:IntKind.i64.wrap (((255 - r:Nat):Int) + 1) = ((256 - r:Nat):Int):=by rw [w64 (by omega) (by omega)]; omega
   cases hP:P (255 - r) with
   | true=>simp only [cond_true,mf,hP,if_true]; rw [wrap_u8 (by omega) (by omega)]
   | false =>
    simp only [cond_false,e2]
    rw [ih r (by omega) (by omega),mf,hP]
    simp
theorem rmin {n:Nat} (P:Nat → Bool) (h:260 ≤ n):m_ref01_Min n (RS P) = some (mf P 256):=by
 obtain ⟨n,rfl⟩:∃ m,n = m + 1:=⟨n - 1,by omega⟩
 show b_ref01_Min n _ = _
 unfold b_ref01_Min
 have e:=rmin_loop (n:=n) P n 256 (by omega) (by omega)
 simpa using e
end Go.Proofs.YtcjnmmeibppblaaDoor
