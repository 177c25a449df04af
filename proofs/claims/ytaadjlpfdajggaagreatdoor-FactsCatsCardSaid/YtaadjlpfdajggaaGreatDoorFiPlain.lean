/-
  THE PLAIN LAW: no program in sight.
-/
import Derived.Test.YtaadjlpfdajggaaGreatDoorFiAm22
import Derived.Test.YtaadjlpfdajggaaGreatDoorFiTab
import Derived.Test.YtaadjlpfdajggaaGreatDoorFiLaw2
set_option linter.unusedVariables false
set_option linter.unusedSimpArgs false
namespace Go.AM
open Go
abbrev B (s:ByteArray):List Int:=bytesOf s
theorem B_len (s:ByteArray):(B s).length = s.size:=by simp [B,bytesOf]
theorem sadd_eq {s u:ByteArray} (h:s.size + u.size < 9000000000000000000):sadd s u = some (s ++ u):=if_pos (by simp only [show IntKind.i64.max = 9223372036854775807 from rfl]; omega)
theorem B_strOf {l:List Int} (h:∀ x ∈ l,0 ≤ x ∧ x < 256):B (strOf (some l)) = l:=by
 simp only [B,bytesOf,strOf,Sl.l,List.map_map]
 conv=>rhs; rw [← List.map_id l]
 refine List.map_congr_left fun x hx=>?_
 have:=h x hx
 simp [Function.comp,UInt8.toNat_ofNat']
 omega
theorem bind_some {α β:Type} (a:α) (f:α → Option β):(some a).bind f = f a:=rfl
theorem ck_ok {n:Nat} {i:Nat} (h:i < n):ck n (i:Int) = some i:=by
 rw [ck,if_pos (by omega)]; simp
theorem ck_int {n:Nat} {i:Int} (h:0 ≤ i) (h':i < n):ck n i = some i.toNat:=if_pos ⟨h,h'⟩
theorem w64 {n:Int} (h:-9223372036854775808 ≤ n) (h':n < 9223372036854775808):IntKind.i64.wrap n = n:=wrap_i64 h h'
theorem wp1 {j:Nat} (h:j < 1000000):IntKind.i64.wrap ((j:Int) + 1) = ((j + 1:Nat):Int):=by rw [w64 (by omega) (by omega)]; omega
def bin:Nat → (Nat → Bool) → Nat
 | 0,_=>0
 | n + 1,f=>2 * bin n (fun i=>f (i + 1)) + (f 0).toNat
theorem bin_lt (n:Nat) (f:Nat → Bool):bin n f < 2 ^ n:=by
 induction n generalizing f with
 | zero=>simp [bin]
 | succ n ih =>
  have:=ih (fun i=>f (i + 1))
  rw [bin,Nat.pow_succ]
  cases f 0 <;> simp <;> omega
theorem bin_bit (n:Nat) (f:Nat → Bool) (i:Nat):(bin n f).testBit i = (decide (i < n) && f i):=by
 induction n generalizing f i with
 | zero=>simp [bin]
 | succ n ih =>
  cases i with
  | zero=>rw [bin,Nat.testBit_zero]; cases f 0 <;> simp [Nat.add_mod,Nat.mul_mod_right]
  | succ i =>
   rw [bin,Nat.testBit_succ,show (2 * bin n (fun i=>f (i + 1)) + (f 0).toNat) / 2 = bin n (fun i=>f (i + 1)) by cases f 0 <;> simp <;> omega,ih]
   simp
theorem bin_ext {n:Nat} {x:Nat} {f:Nat → Bool} (hx:x < 2 ^ n) (h:∀ i,i < n → x.testBit i = f i):x = bin n f:=by
 refine Nat.eq_of_testBit_eq fun i=>?_
 rw [bin_bit]
 by_cases hi:i < n
 ·simp [hi,h i hi]
 ·simp only [hi,decide_false,Bool.false_and]
  exact Nat.testBit_lt_two_pow (Nat.lt_of_lt_of_le hx (Nat.pow_le_pow_right (by omega) (by omega)))
def wd (P:Nat → Bool) (j:Nat):Int:=(bin 64 fun i=>P (64 * j + i):Nat)
theorem ofInt_nat (k:Nat) (x:Nat):(BitVec.ofInt k (x:Int)).toNat = x % 2 ^ k:=by simp
theorem u64_nat {x:Nat} (h:x < 2 ^ 64):IntKind.u64.wrap (x:Int) = (x:Int):=by
 simp only [IntKind.wrap,IntKind.signed,IntKind.bits,Bool.false_and,Bool.false_eq_true,if_false]
 omega
theorem andI_nat {x y:Nat} (hx:x < 2 ^ 64) (hy:y < 2 ^ 64):andI .u64 x y = ((x &&& y:Nat):Int):=by
 have e:(BitVec.ofInt IntKind.u64.bits (x:Int) &&& BitVec.ofInt IntKind.u64.bits (y:Int)).toNat = x &&& y:=by
  rw [BitVec.toNat_and,ofInt_nat,ofInt_nat,show IntKind.u64.bits = 64 from rfl,Nat.mod_eq_of_lt hx,Nat.mod_eq_of_lt hy]
 rw [andI,e,u64_nat (Nat.and_lt_two_pow _ hy)]
end Go.AM

set_option maxRecDepth 100000
set_option linter.unusedVariables false
set_option linter.unusedSimpArgs false
namespace Go.Proofs.YtaadjlpfdajggaaGreatDoor
open Go Go.AM
section
variable {β:Type} {vs:List β} {z v w:β} {i j:Nat}
def pf (vs:List β) (z:β) (i:Nat):Sl β:=some (vs.take i ++ List.replicate (vs.length - i) z)
theorem pf_len (h:i ≤ vs.length):(Sl.l (pf vs z i)).length = vs.length:=by simp [pf,Sl.l]; omega
theorem pf_nth [Inhabited β] (h:j < i) (hv:vs[j]? = some v):Sl.nth (pf vs z i) j = v:=by
 have hj:=(List.getElem?_eq_some_iff.1 hv).1
 simp only [pf,Sl.nth,Sl.l,List.getD]
 rw [List.getElem?_append_left (by simp; omega),List.getElem?_take_of_lt h,hv]; rfl
theorem pf_put (hv:vs[i]? = some v):Sl.put (pf vs z i) i v = pf vs z (i + 1):=by
 obtain ⟨hi,rfl⟩:=List.getElem?_eq_some_iff.1 hv
 simp only [pf,Sl.put,Option.map_some,Option.some.injEq]
 rw [List.set_append_right _ _ (by simp; omega),show vs.length - i = (vs.length - (i + 1)) + 1 by omega,List.replicate_succ,show i - (List.take i vs).length = 0 by simp; omega,List.set_cons_zero,List.take_succ_eq_append_getElem hi,List.append_assoc]
 rfl
theorem pf_skip (hv:vs[i]? = some z):pf vs z i = pf vs z (i + 1):=by
 obtain ⟨hi,hz⟩:=List.getElem?_eq_some_iff.1 hv
 simp only [pf,Option.some.injEq]
 rw [show vs.length - i = (vs.length - (i + 1)) + 1 by omega,List.replicate_succ,List.take_succ_eq_append_getElem hi,hz,List.append_assoc]
 rfl
theorem pf_end:pf vs z vs.length = some vs:=by simp [pf]
theorem pf_0:pf vs z 0 = some (List.replicate vs.length z):=by simp [pf]
theorem nth_put_ne [Inhabited β] {x:Sl β} (h:i ≠ j):Sl.nth (Sl.put x i v) j = Sl.nth x j:=by
 cases x with
 | none=>rfl
 | some l=>simp only [Sl.put,Sl.nth,Sl.l,Option.map_some,List.getD,List.getElem?_set_ne h]
theorem nth_put_eq [Inhabited β] {x:Sl β} (h:i < (Sl.l x).length):Sl.nth (Sl.put x i v) i = v:=by
 cases x with
 | none=>simp [Sl.l] at h
 | some l=>simp only [Sl.l] at h; simp [Sl.put,Sl.nth,Sl.l,List.getD,h]
theorem put_put {x:Sl β}:Sl.put (Sl.put x i v) i w = Sl.put x i w:=by
 cases x with
 | none=>rfl
 | some l=>simp [Sl.put]
theorem put_len {x:Sl β}:(Sl.l (Sl.put x i v)).length = (Sl.l x).length:=by
 cases x with
 | none=>rfl
 | some l=>simp [Sl.put,Sl.l]
theorem nth_l [Inhabited β] {x:Sl β} (h:(Sl.l x)[i]? = some v):Sl.nth x i = v:=by simp [Sl.nth,List.getD,h]
end
def kd (k:Int):Nat:=if k = 8 ∨ k = 9 then 2 else if k = 10 ∨ k = 11 ∨ k = 13 ∨ k = 14 ∨ k = 15 ∨ k = 16 ∨ k = 17 then 1 else 0
theorem kids_ok {n:Nat} (k:Int) (h:1 ≤ n):m_0 n k = some ((kd k:Nat):Int):=by
 obtain ⟨n,rfl⟩:∃ m,n = m + 1:=⟨n - 1,by omega⟩
 simp only [m_0,b_d3,b_cH,b_7,kd]
 by_cases h8:k = 8
 ·subst h8; rfl
 by_cases h9:k = 9
 ·subst h9; rfl
 by_cases h10:k = 10
 ·subst h10; rfl
 by_cases h11:k = 11
 ·subst h11; rfl
 by_cases h13:k = 13
 ·subst h13; rfl
 by_cases h14:k = 14
 ·subst h14; rfl
 by_cases h15:k = 15
 ·subst h15; rfl
 by_cases h16:k = 16
 ·subst h16; rfl
 by_cases h17:k = 17
 ·subst h17; rfl
 simp [*]
def bareS (x:S_b):S_b:={ x with f_Kind:=0,f_A:=0,f_B:=0 }
def fitsB (x:S_b):Bool:=decide (0 ≤ x.f_Kind) && decide (x.f_Kind < 18) && decide (bareS x = bareS (ownS x)) &&
 (!decide (x.f_Kind = 10) || (decide (0 ≤ x.f_Min) && decide (x.f_Min ≤ 100) && (decide (x.f_Max = -1) || (decide (x.f_Min ≤ x.f_Max) && decide (x.f_Max ≤ 100))) && decide (0 ≤ x.f_Mode) && decide (x.f_Mode ≤ 2)))
theorem fits_ok {n:Nat} (x:S_b) (h:2 ≤ n):m_bi n x = some (fitsB x):=by
 obtain ⟨n,rfl⟩:∃ m,n = m + 2:=⟨n - 2,by omega⟩
 simp only [m_bi,b_cy,m_cD,b_cE,m_cP,Option.bind_some,fitsB]
 show _ = some (_ && decide (bareS x = bareS (ownS x)) && _)
 by_cases h0:x.f_Kind < 0
 ·simp [h0,show ¬ (0 ≤ x.f_Kind) by omega]
 by_cases h1:18 ≤ x.f_Kind
 ·simp [h0,h1,show ¬ (x.f_Kind < 18) by omega]
 have h0':0 ≤ x.f_Kind:=by omega
 have h1':x.f_Kind < 18:=by omega
 by_cases h2:bareS x = bareS (ownS x)
 ·have h2':=h2
  simp only [bareS] at h2'
  by_cases h3:x.f_Kind = 10 <;> simp [h0,h1,h0',h1',h2,h2',h3]
 ·have h2':=h2
  simp only [bareS] at h2'
  by_cases h3:x.f_Kind = 10 <;> simp [h0,h1,h0',h1',h2,h2',h3]
inductive Tm where
 | leaf (n:S_b)
 | one (n:S_b) (t:Tm)
 | two (n:S_b) (a b:Tm)
def Tm.flat:Tm → List S_b
 | .leaf n=>[n]
 | .one n t=>t.flat ++ [n]
 | .two n a b=>a.flat ++ b.flat ++ [n]
def Tm.size:Tm → Nat
 | .leaf n=>1
 | .one n t=>t.size + 1
 | .two n a b=>a.size + b.size + 1
theorem Tm.pos:∀ t:Tm,0 < t.size
 | .leaf n=>by simp [Tm.size]
 | .one n t=>by simp [Tm.size]
 | .two n a b=>by simp [Tm.size]
theorem Tm.flat_len:∀ t:Tm,t.flat.length = t.size
 | .leaf n=>rfl
 | .one n t=>by simp [Tm.flat,Tm.size,t.flat_len]
 | .two n a b=>by simp [Tm.flat,Tm.size,a.flat_len,b.flat_len]; omega
def Tm.At (k:Nat):Tm → Prop
 | .leaf n=>fitsB n = true ∧ kd n.f_Kind = 0 ∧ n.f_A = 0 ∧ n.f_B = 0
 | .one n t=>t.At k ∧ fitsB n = true ∧ kd n.f_Kind = 1 ∧ n.f_A + 1 = ((k + t.size:Nat):Int) ∧ n.f_B = 0
 | .two n a b=>a.At k ∧ b.At (k + a.size) ∧ fitsB n = true ∧ kd n.f_Kind = 2 ∧ n.f_A + 1 = ((k + a.size:Nat):Int) ∧ n.f_B + 1 = ((k + a.size + b.size:Nat):Int)
section
variable {β:Type} (d:β) (alg:S_b → β → β → β)
def Tm.val:Tm → β
 | .leaf n=>alg n d d
 | .one n t=>alg n t.val d
 | .two n a b=>alg n a.val b.val
def Tm.vals:Tm → List β
 | .leaf n=>[alg n d d]
 | .one n t=>t.vals ++ [alg n (t.val d alg) d]
 | .two n a b=>a.vals ++ b.vals ++ [alg n (a.val d alg) (b.val d alg)]
theorem Tm.vals_len:∀ t:Tm,(t.vals d alg).length = t.size
 | .leaf n=>rfl
 | .one n t=>by simp [Tm.vals,Tm.size,t.vals_len]
 | .two n a b=>by simp [Tm.vals,Tm.size,a.vals_len,b.vals_len]; omega
theorem Tm.vals_last:∀ t:Tm,(t.vals d alg)[t.size - 1]? = some (t.val d alg)
 | .leaf n=>rfl
 | .one n t=>by
  simp only [Tm.vals,Tm.size,Tm.val,Nat.add_sub_cancel]
  rw [List.getElem?_append_right (by simp [Tm.vals_len]),Tm.vals_len]; simp
 | .two n a b=>by
  simp only [Tm.vals,Tm.size,Tm.val,Nat.add_sub_cancel]
  rw [List.getElem?_append_right (by simp [Tm.vals_len])]; simp [Tm.vals_len]
structure Kid (k i:Nat) (vs:List β) (x:S_b):Prop where
 fits:fitsB x = true
 at_:(kd x.f_Kind = 0 ∧ x.f_A = 0 ∧ x.f_B = 0 ∧ vs[i]? = some (alg x d d)) ∨
  (kd x.f_Kind = 1 ∧ ∃ j v,j < i ∧ x.f_A = ((k + j:Nat):Int) ∧ x.f_B = 0 ∧ vs[j]? = some v ∧ vs[i]? = some (alg x v d)) ∨
  (kd x.f_Kind = 2 ∧ ∃ j m v w,j < i ∧ m < i ∧ x.f_A = ((k + j:Nat):Int) ∧ x.f_B = ((k + m:Nat):Int) ∧ vs[j]? = some v ∧ vs[m]? = some w ∧ vs[i]? = some (alg x v w))
variable {d alg}
theorem Kid.left {k i:Nat} {vs us:List β} {x:S_b} (h:Kid d alg k i vs x):Kid d alg k i (vs ++ us) x:=by
 have up:∀ {j v},vs[j]? = some v → (vs ++ us)[j]? = some v:=fun {j v} hv=>by rw [List.getElem?_append_left (List.getElem?_eq_some_iff.1 hv).1]; exact hv
 refine ⟨h.fits,?_⟩
 rcases h.at_ with ⟨h1,h2,h3,h4⟩ | ⟨h1,j,v,h2,h3,h4,h5,h6⟩ | ⟨h1,j,m,v,w,h2,h3,h4,h5,h6,h7,h8⟩
 ·exact .inl ⟨h1,h2,h3,up h4⟩
 ·exact .inr (.inl ⟨h1,j,v,h2,h3,h4,up h5,up h6⟩)
 ·exact .inr (.inr ⟨h1,j,m,v,w,h2,h3,h4,h5,up h6,up h7,up h8⟩)
theorem Kid.right {k i a:Nat} {vs us:List β} {x:S_b} (h:Kid d alg (k + a) i vs x) (ha:us.length = a):Kid d alg k (a + i) (us ++ vs) x:=by
 have up:∀ {j v},vs[j]? = some v → (us ++ vs)[a + j]? = some v:=fun {j v} hv=>by rw [List.getElem?_append_right (by omega),← hv]; congr 1; omega
 refine ⟨h.fits,?_⟩
 rcases h.at_ with ⟨h1,h2,h3,h4⟩ | ⟨h1,j,v,h2,h3,h4,h5,h6⟩ | ⟨h1,j,m,v,w,h2,h3,h4,h5,h6,h7,h8⟩
 ·exact .inl ⟨h1,h2,h3,up h4⟩
 ·exact .inr (.inl ⟨h1,a + j,v,by omega,by rw [h3]; congr 1; omega,h4,up h5,up h6⟩)
 ·exact .inr (.inr ⟨h1,a + j,a + m,v,w,by omega,by omega,by rw [h4]; congr 1; omega,by rw [h5]; congr 1; omega,up h6,up h7,up h8⟩)
theorem Tm.kid:∀ {t:Tm} {k i:Nat} {x:S_b},t.At k → t.flat[i]? = some x → Kid d alg k i (t.vals d alg) x
 | .leaf n,k,i,x,h,hx=>by
  have hi:=(List.getElem?_eq_some_iff.1 hx).1
  simp [Tm.flat] at hi
  subst hi
  simp [Tm.flat] at hx; subst hx
  exact ⟨h.1,.inl ⟨h.2.1,h.2.2.1,h.2.2.2,rfl⟩⟩
 | .one n t,k,i,x,h,hx=>by
  obtain ⟨h1,h2,h3,h4,h5⟩:=h
  by_cases hi:i < t.size
  ·rw [Tm.flat,List.getElem?_append_left (by rw [Tm.flat_len]; exact hi)] at hx
   exact (Tm.kid h1 hx).left
  ·have hlt:=(List.getElem?_eq_some_iff.1 hx).1
   simp [Tm.flat,Tm.flat_len] at hlt
   obtain rfl:i = t.size:=by omega
   rw [Tm.flat,List.getElem?_append_right (by rw [Tm.flat_len]; exact Nat.le_refl _)] at hx
   simp [Tm.flat_len] at hx; subst hx
   have hp:=t.pos
   refine ⟨h2,.inr (.inl ⟨h3,t.size - 1,t.val d alg,by omega,by omega,h5,?_,?_⟩)⟩
   ·rw [Tm.vals,List.getElem?_append_left (by rw [Tm.vals_len]; omega)]; exact t.vals_last d alg
   ·exact Tm.vals_last d alg (.one n t)
 | .two n a b,k,i,x,h,hx=>by
  obtain ⟨h1,h2,h3,h4,h5,h6⟩:=h
  have ha:=a.pos
  have hb:=b.pos
  by_cases hi:i < a.size
  ·rw [Tm.flat,List.append_assoc,List.getElem?_append_left (by rw [Tm.flat_len]; exact hi)] at hx
   have:=(Tm.kid h1 hx).left (us:=b.vals d alg ++ [alg n (a.val d alg) (b.val d alg)])
   rw [← List.append_assoc] at this
   exact this
  ·by_cases hi2:i < a.size + b.size
   ·rw [Tm.flat,List.getElem?_append_left (by simp [Tm.flat_len]; omega),List.getElem?_append_right (by rw [Tm.flat_len]; omega),Tm.flat_len] at hx
    have:=((Tm.kid h2 hx).right (a.vals_len d alg)).left (us:=[alg n (a.val d alg) (b.val d alg)])
    rw [show a.size + (i - a.size) = i by omega] at this
    exact this
   ·have hlt:=(List.getElem?_eq_some_iff.1 hx).1
    simp [Tm.flat,Tm.flat_len] at hlt
    obtain rfl:i = a.size + b.size:=by omega
    rw [Tm.flat,List.getElem?_append_right (by simp [Tm.flat_len])] at hx
    simp [Tm.flat_len] at hx; subst hx
    refine ⟨h3,.inr (.inr ⟨h4,a.size - 1,a.size + b.size - 1,a.val d alg,b.val d alg,by omega,by omega,by omega,by omega,?_,?_,?_⟩)⟩
    ·rw [Tm.vals,List.append_assoc,List.getElem?_append_left (by rw [Tm.vals_len]; omega)]; exact a.vals_last d alg
    ·rw [Tm.vals,List.getElem?_append_left (by simp [Tm.vals_len]; omega),List.getElem?_append_right (by rw [Tm.vals_len]; omega),Tm.vals_len,show a.size + b.size - 1 - a.size = b.size - 1 by omega]; exact b.vals_last d alg
    ·exact Tm.vals_last d alg (.two n a b)
end
def szA (_:S_b) (v w:Int):Int:=1 + v + w
abbrev Tm.szs (t:Tm):List Int:=t.vals 0 szA
theorem Tm.sz_val:∀ t:Tm,t.val 0 szA = (t.size:Int)
 | .leaf n=>rfl
 | .one n t=>by simp [Tm.val,szA,Tm.size,t.sz_val]; omega
 | .two n a b=>by simp [Tm.val,szA,Tm.size,a.sz_val,b.sz_val]; omega
def st1 (k:Nat) (st:List Tm) (x:S_b):Option (List Tm) :=
 match kd x.f_Kind,st with
 | 0,st=>if fitsB x = true ∧ x.f_A = 0 ∧ x.f_B = 0 then some (.leaf x :: st) else none
 | 1,t :: st=>if fitsB x = true ∧ x.f_A + 1 = (k:Int) ∧ x.f_B = 0 then some (.one x t :: st) else none
 | 2,b :: a :: st=>if fitsB x = true ∧ x.f_A + 1 + b.size = (k:Int) ∧ x.f_B + 1 = (k:Int) then some (.two x a b :: st) else none
 | _,_=>none
def sts (k:Nat) (st:List Tm):List S_b → Option (List Tm)
 | []=>some st
 | x :: xs=>(st1 k st x).bind fun st'=>sts (k + 1) st' xs
def ff:List Tm → List S_b
 | []=>[]
 | t :: st=>ff st ++ t.flat
def fs:List Tm → List Int
 | []=>[]
 | t :: st=>fs st ++ t.szs
def FAt:List Tm → Prop
 | []=>True
 | t :: st=>FAt st ∧ t.At (ff st).length
theorem fs_len:∀ st,(fs st).length = (ff st).length
 | []=>rfl
 | t :: st=>by simp [fs,ff,fs_len st,Tm.vals_len,Tm.flat_len]
theorem kd_le (k:Int):kd k = 0 ∨ kd k = 1 ∨ kd k = 2:=by
 unfold kd
 split
 ·simp
 ·split <;> simp
theorem st1_some {k:Nat} {st st':List Tm} {x:S_b} (h:st1 k st x = some st') (hf:FAt st) (hk:k = (ff st).length):FAt st' ∧ ff st' = ff st ++ [x]:=by
 unfold st1 at h
 split at h
 ·rename_i h0
  split at h
  ·rename_i hc
   injection h with h; subst h
   exact ⟨⟨hf,hc.1,h0,hc.2.1,hc.2.2⟩,rfl⟩
  ·cases h
 ·rename_i t st0 h1
  split at h
  ·rename_i hc
   injection h with h; subst h
   refine ⟨⟨hf.1,hf.2,hc.1,h1,?_,hc.2.2⟩,by simp [ff,Tm.flat]⟩
   rw [hc.2.1,hk]; simp [ff,Tm.flat_len]
  ·cases h
 ·rename_i b a st0 h1
  split at h
  ·rename_i hc
   injection h with h; subst h
   refine ⟨⟨hf.1.1,hf.1.2,?_,hc.1,h1,?_,?_⟩,by simp [ff,Tm.flat]⟩
   ·have:=hf.2; simpa [ff,Tm.flat_len] using this
   ·have:=hc.2.1; rw [hk] at this; simp [ff,Tm.flat_len] at this ⊢; omega
   ·have:=hc.2.2; rw [hk] at this; simp [ff,Tm.flat_len] at this ⊢; omega
  ·cases h
 ·cases h
theorem sts_tree:∀ {t:Tm} {k:Nat} {st:List Tm} {xs:List S_b},t.At k → sts k st (t.flat ++ xs) = sts (k + t.size) (t :: st) xs
 | .leaf n,k,st,xs,h=>by
  obtain ⟨h1,h2,h3,h4⟩:=h
  simp only [Tm.flat,List.singleton_append,sts,Tm.size,st1,h2]
  rw [if_pos ⟨h1,h3,h4⟩]; rfl
 | .one n t,k,st,xs,h=>by
  obtain ⟨h1,h2,h3,h4,h5⟩:=h
  simp only [Tm.flat,List.append_assoc,Tm.size]
  rw [sts_tree h1]
  simp only [List.singleton_append,sts,st1,h3]
  rw [if_pos ⟨h2,h4,h5⟩]; rfl
 | .two n a b,k,st,xs,h=>by
  obtain ⟨h1,h2,h3,h4,h5,h6⟩:=h
  simp only [Tm.flat,List.append_assoc,Tm.size]
  rw [sts_tree h1,sts_tree h2]
  simp only [List.singleton_append,sts,st1,h4]
  rw [if_pos ⟨h3,by rw [h5]; simp,h6⟩]
  simp only [Option.bind_some]
  congr 1; omega
theorem sts_some:∀ {xs:List S_b} {k:Nat} {st st':List Tm},sts k st xs = some st' → FAt st → k = (ff st).length → FAt st' ∧ ff st' = ff st ++ xs
 | [],k,st,st',h,hf,hk=>by simp [sts] at h; subst h; exact ⟨hf,by simp⟩
 | x :: xs,k,st,st',h,hf,hk=>by
  simp only [sts,Option.bind_eq_some_iff] at h
  obtain ⟨s1,h1,h2⟩:=h
  obtain ⟨f1,e1⟩:=st1_some h1 hf hk
  obtain ⟨f2,e2⟩:=sts_some h2 f1 (by rw [e1,hk]; simp)
  exact ⟨f2,by rw [e2,e1]; simp⟩
def tree (l:List S_b):Option Tm :=
 match sts 0 [] l with
 | some [t]=>some t
 | _=>none
theorem tree_some {l:List S_b} {t:Tm} (h:tree l = some t):l = t.flat ∧ t.At 0:=by
 unfold tree at h
 split at h
 ·rename_i t' ht
  injection h with h; subst h
  obtain ⟨h1,h2⟩:=sts_some ht trivial rfl
  exact ⟨by simpa [ff] using h2.symm,by simpa [ff] using h1.2⟩
 ·cases h
theorem tree_flat {t:Tm} (h:t.At 0):tree t.flat = some t:=by
 have:=sts_tree (st:=[]) (xs:=[]) h
 rw [List.append_nil] at this
 simp [tree,this,sts]
end Go.Proofs.YtaadjlpfdajggaaGreatDoor

set_option maxRecDepth 100000
set_option linter.unusedVariables false
set_option linter.unusedSimpArgs false
namespace Go.Proofs.YtaadjlpfdajggaaGreatDoor
open Go Go.AM
theorem ct {α:Type} {c:Bool} {a b:α} (h:c = true):(bif c then a else b) = a:=by rw [h]; rfl
theorem cfl {α:Type} {c:Bool} {a b:α} (h:c = false):(bif c then a else b) = b:=by rw [h]; rfl
theorem dt {p:Prop} [Decidable p] (h:p):decide p = true:=decide_eq_true h
theorem df {p:Prop} [Decidable p] (h:¬ p):decide p = false:=decide_eq_false h
theorem fs_last {t:Tm} {st:List Tm}:(fs (t :: st))[(ff (t :: st)).length - 1]? = some (t.size:Int):=by
 have:=t.pos
 simp only [fs,ff,List.length_append,Tm.flat_len]
 rw [List.getElem?_append_right (by rw [fs_len]; omega),fs_len,show (ff st).length + t.size - 1 - (ff st).length = t.size - 1 by omega,← t.sz_val]
 exact t.vals_last 0 szA
theorem fs_last2 {a b:Tm} {st:List Tm}:(fs (b :: a :: st))[(ff (b :: a :: st)).length - 1 - b.size]? = some (a.size:Int):=by
 have:=a.pos
 have h:(ff (b :: a :: st)).length - 1 - b.size = (ff (a :: st)).length - 1:=by simp [ff,Tm.flat_len]; omega
 rw [h,fs,List.getElem?_append_left (by rw [fs_len]; simp [ff,Tm.flat_len]; omega)]
 exact fs_last
def single:List Tm → Bool
 | [_]=>true
 | _=>false
theorem put_rep {l:List Int} {m:Nat} {v z:Int} {k:Nat} (hk:k = l.length):Sl.put (some (l ++ List.replicate (m + 1) z)) k v = some ((l ++ [v]) ++ List.replicate m z):=by
 subst hk
 simp only [Sl.put,Option.map_some,Option.some.injEq]
 rw [List.set_append_right _ _ (Nat.le_refl _),Nat.sub_self,List.replicate_succ,List.set_cons_zero,List.append_assoc]; rfl
theorem nth_app {l:List Int} {m:List Int} {j:Nat} {v:Int} (h:l[j]? = some v):Sl.nth (some (l ++ m)) j = v:=by
 simp only [Sl.nth,Sl.l,List.getD]
 rw [List.getElem?_append_left (List.getElem?_eq_some_iff.1 h).1,h]; rfl
theorem make_ok {α:Type} {z n m:Nat} {a:α} (h:n ≤ m) (hm:z * m ≤ 10000000) (hm':m ≤ 10000000):Sl.make z n m a = some (some (List.replicate n a)):=by
 have hr:(10000000:Nat) ≤ roomMost:=Nat.le_of_ble_eq_true rfl
 have hr':((z:Int) * m) ≤ ((10000000:Nat):Int):=by rw [← Int.natCast_mul]; exact Int.ofNat_le.2 hm
 unfold Sl.make
 rw [if_pos ⟨by omega,by omega,by omega,by omega⟩]
 simp
section
variable {n:Nat} {x0:Sl S_b}
theorem sizes_2 {q:Sl Int → Int → Int → Option (Sl Int × Bool)} {x:S_b} {l:List Int} {m k:Nat} {a b s N:Int} (hn:2 ≤ n) (hk:k = l.length) (hm:k < 1000) :
  b_bB (m_0 n) (m_bi n) n q x0 (some (l ++ List.replicate (m + 1) 0)) (k:Int) x a b s N (k:Int) =
   if fitsB x = true ∧ x.f_A = a ∧ x.f_B = b then q (some ((l ++ [s]) ++ List.replicate m 0)) N ((k + 1:Nat):Int) else some (none,false):=by
 simp only [b_bB,fits_ok x hn,Option.bind_some]
 by_cases h:fitsB x = true ∧ x.f_A = a ∧ x.f_B = b
 ·rw [if_pos h,cfl (by simp [h.1,h.2.1,h.2.2]),ck_ok (by simp [Sl.l]; omega),Option.bind_some,put_rep hk,wp1 (by omega)]
 ·rw [if_neg h,ct]
  simp only [Bool.or_eq_true,Bool.not_eq_true',decide_eq_false_iff_not]
  by_cases h1:fitsB x = true
  ·by_cases h2:x.f_A = a
   ·exact .inr fun h3=>h ⟨h1,h2,h3⟩
   ·exact .inl (.inr h2)
  ·exact .inl (.inl (by simpa using h1))
theorem sizes_loop (hn:2 ≤ n) (hN:(Sl.l x0).length ≤ 500):∀ (xs:List S_b) (fuel:Nat) (st:List Tm),Sl.l x0 = ff st ++ xs → xs.length < fuel →
  b_Z (m_0 n) (m_bi n) n x0 fuel (some (fs st ++ List.replicate xs.length 0)) (Sl.len x0) ((ff st).length:Int) =
   match sts (ff st).length st xs with
   | none=>some (none,false)
   | some st'=>some (some (fs st'),single st'):=by
 intro xs
 induction xs with
 | nil =>
  intro fuel st hl hf
  obtain ⟨fuel,rfl⟩:∃ m,fuel = m + 1:=⟨fuel - 1,by simp at hf; omega⟩
  have hlen:Sl.len x0 = ((ff st).length:Int):=by simp [Sl.len,hl]
  rw [b_Z,hlen,cfl (df (by omega))]
  simp only [sts,List.length_nil,List.replicate_zero,List.append_nil]
  have hb:(ff st).length ≤ 500:=by rw [hl] at hN; simpa using hN
  rw [w64 (by omega) (by omega)]
  cases st with
  | nil=>rfl
  | cons t st =>
   have hp:0 < (ff (t :: st)).length:=by have:=t.pos; simp [ff,Tm.flat_len]; omega
   rw [ct (dt (by omega)),ck_int (by omega) (by simp [Sl.l,fs_len]; omega),Option.bind_some,Option.bind_some]
   have hj:(((ff (t :: st)).length:Int) - 1).toNat = (ff (t :: st)).length - 1:=by omega
   rw [hj,nth_l (v:=(t.size:Int)) fs_last]
   congr 2
   cases st with
   | nil=>simp [single,ff,Tm.flat_len]
   | cons u st=>have:=u.pos; simp [single,ff,Tm.flat_len]; omega
 | cons x xs ih =>
  intro fuel st hl hf
  obtain ⟨fuel,rfl⟩:∃ m,fuel = m + 1:=⟨fuel - 1,by simp at hf; omega⟩
  have hlen:Sl.len x0 = (((ff st).length + xs.length + 1:Nat):Int):=by simp [Sl.len,hl]; omega
  have hb:(ff st).length + xs.length + 1 ≤ 500:=by rw [hl] at hN; simp at hN; omega
  have hx:Sl.nth x0 (ff st).length = x:=nth_l (by rw [hl,List.getElem?_append_right (Nat.le_refl _)]; simp)
  rw [b_Z,ct (dt (by rw [hlen]; omega)),ck_ok (by rw [hl]; simp),Option.bind_some,hx,kids_ok _ (by omega),Option.bind_some]
  simp only [sts,List.length_cons]
  have hkl:(ff st).length = (fs st).length:=(fs_len st).symm
  rcases kd_le x.f_Kind with h0 | h1 | h2
  ·rw [h0,cfl (df (by omega)),cfl (df (by omega)),sizes_2 hn hkl (by omega)]
   unfold st1
   simp only [h0]
   by_cases hc:fitsB x = true ∧ x.f_A = 0 ∧ x.f_B = 0
   ·rw [if_pos hc,if_pos hc,Option.bind_some]
    have:=ih fuel (.leaf x :: st) (by rw [hl]; simp [ff,Tm.flat]) (by simp at hf; omega)
    simpa [fs,ff,Tm.flat,Tm.vals,szA] using this
   ·rw [if_neg hc,if_neg hc]; rfl
  ·rw [h1,ct (dt (by omega)),w64 (by omega) (by omega)]
   cases st with
   | nil=>rw [ct (dt (by simp [ff]))]; unfold st1; simp only [h1]; rfl
   | cons t st =>
    have hp:0 < (ff (t :: st)).length:=by have:=t.pos; simp [ff,Tm.flat_len]; omega
    have hts:t.size ≤ 500:=by
     have:t.size ≤ (ff (t :: st)).length:=by simp [ff,Tm.flat_len]
     omega
    have hj:(((ff (t :: st)).length:Int) - 1).toNat = (ff (t :: st)).length - 1:=by omega
    rw [cfl (df (by omega)),ck_int (by omega) (by simp [Sl.l,fs_len]; omega),Option.bind_some,hj,nth_app fs_last,w64 (by omega) (by omega),sizes_2 hn hkl (by omega)]
    unfold st1
    simp only [h1]
    by_cases hc:fitsB x = true ∧ x.f_A = ((ff (t :: st)).length:Int) - 1 ∧ x.f_B = 0
    ·rw [if_pos hc,if_pos ⟨hc.1,by omega,hc.2.2⟩,Option.bind_some]
     have:=ih fuel (.one x t :: st) (by rw [hl]; simp [ff,Tm.flat]) (by simp at hf; omega)
     simpa [fs,ff,Tm.flat,Tm.vals,szA,Tm.sz_val,Nat.add_assoc] using this
    ·rw [if_neg hc,if_neg fun hc'=>hc ⟨hc'.1,by omega,hc'.2.2⟩]; rfl
  ·rw [h2,cfl (df (by omega)),ct (dt (by omega)),w64 (by omega) (by omega)]
   cases st with
   | nil=>rw [ct (dt (by simp [ff]))]; unfold st1; simp only [h2]; rfl
   | cons b st =>
    have hp:0 < (ff (b :: st)).length:=by have:=b.pos; simp [ff,Tm.flat_len]; omega
    have hts:b.size ≤ (ff (b :: st)).length:=by simp [ff,Tm.flat_len]
    have hj:(((ff (b :: st)).length:Int) - 1).toNat = (ff (b :: st)).length - 1:=by omega
    have e:Sl.nth (some (fs (b :: st) ++ List.replicate (xs.length + 1) 0)) ((ff (b :: st)).length - 1) = (b.size:Int):=nth_app fs_last
    rw [cfl (df (by omega)),ck_int (by omega) (by simp [Sl.l,fs_len]; omega),Option.bind_some,hj]
    simp only [e]
    rw [w64 (by omega) (by omega)]
    cases st with
    | nil=>rw [ct (dt (by simp [ff,Tm.flat_len]; omega))]; unfold st1; simp only [h2]; rfl
    | cons a st =>
     have ha:=a.pos
     have has:a.size + b.size ≤ (ff (b :: a :: st)).length:=by simp only [ff,Tm.flat_len,List.length_append]; omega
     have hj2:(((ff (b :: a :: st)).length:Int) - 1 - (b.size:Int)).toNat = (ff (b :: a :: st)).length - 1 - b.size:=by omega
     rw [cfl (df (by omega)),ck_int (by omega) (by simp [Sl.l,fs_len]; omega),Option.bind_some,hj2,nth_app fs_last2,w64 (n:=(a.size:Int) + b.size) (by omega) (by omega),w64 (by omega) (by omega),sizes_2 hn hkl (by omega)]
     unfold st1
     simp only [h2]
     by_cases hc:fitsB x = true ∧ x.f_A = ((ff (b :: a :: st)).length:Int) - 1 - b.size ∧ x.f_B = ((ff (b :: a :: st)).length:Int) - 1
     ·rw [if_pos hc,if_pos ⟨hc.1,by omega,by omega⟩,Option.bind_some]
      have:=ih fuel (.two x a b :: st) (by rw [hl]; simp [ff,Tm.flat]) (by simp at hf; omega)
      simpa [fs,ff,Tm.flat,Tm.vals,szA,Tm.sz_val,Nat.add_assoc,Int.add_assoc] using this
     ·rw [if_neg hc,if_neg fun hc'=>hc ⟨hc'.1,by omega,by omega⟩]; rfl
theorem sizes_ok (hn:600 ≤ n) (hN:(Sl.l x0).length ≤ 500):m_6 n x0 = match sts 0 [] (Sl.l x0) with
   | none=>some (none,false)
   | some st'=>some (some (fs st'),single st'):=by
 obtain ⟨n,rfl⟩:∃ m,n = m + 1:=⟨n - 1,by omega⟩
 simp only [m_6,b_dI,Sl.len]
 rw [make_ok (Nat.le_refl _) (by omega) (by omega),Option.bind_some]
 have:=sizes_loop (n:=n) (x0:=x0) (by omega) hN (Sl.l x0) n [] rfl (by omega)
 simpa [fs,ff,Sl.len] using this
theorem sizes_tree (hn:600 ≤ n) (hN:(Sl.l x0).length ≤ 500) {t:Tm} (ht:tree (Sl.l x0) = some t):m_6 n x0 = some (some t.szs,true):=by
 rw [sizes_ok hn hN]
 unfold tree at ht
 split at ht
 ·rename_i t' h'
  injection ht with ht; subst ht
  rw [h']; simp [fs,single]
 ·cases ht
theorem sizes_none (hn:600 ≤ n) (hN:(Sl.l x0).length ≤ 500) (ht:tree (Sl.l x0) = none):∃ y,m_6 n x0 = some (y,false):=by
 rw [sizes_ok hn hN]
 unfold tree at ht
 cases h:sts 0 [] (Sl.l x0) with
 | none=>exact ⟨_,rfl⟩
 | some st =>
  rw [h] at ht
  refine ⟨some (fs st),?_⟩
  match st,ht with
  | [],_=>rfl
  | [t],ht=>simp at ht
  | a :: b :: st,_=>rfl
end
end Go.Proofs.YtaadjlpfdajggaaGreatDoor

set_option maxRecDepth 100000
set_option linter.unusedVariables false
set_option linter.unusedSimpArgs false
namespace Go.Proofs.YtaadjlpfdajggaaGreatDoor
open Go Go.AM
def depA (x:S_b) (v w:Int):Int:=if kd x.f_Kind = 0 then 1 else if kd x.f_Kind = 1 then 1 + v else 1 + max v w
abbrev Tm.dep (t:Tm):Int:=t.val 0 depA
theorem dep_leaf {n:S_b} {k:Nat} (h:(Tm.leaf n).At k):(Tm.leaf n).dep = 1:=by simp [Tm.dep,Tm.val,depA,h.2.1]
theorem dep_one {n:S_b} {t:Tm} {k:Nat} (h:(Tm.one n t).At k):(Tm.one n t).dep = 1 + t.dep:=by simp [Tm.dep,Tm.val,depA,h.2.2.1]
theorem dep_two {n:S_b} {a b:Tm} {k:Nat} (h:(Tm.two n a b).At k):(Tm.two n a b).dep = 1 + max a.dep b.dep:=by simp [Tm.dep,Tm.val,depA,h.2.2.2.1]
theorem dep_rng:∀ {t:Tm} {k:Nat},t.At k → 1 ≤ t.dep ∧ t.dep ≤ t.size ∧ ∀ v ∈ t.vals 0 depA,1 ≤ v ∧ v ≤ t.dep
 | .leaf n,k,h=>by
  rw [dep_leaf h]
  refine ⟨by omega,by simp [Tm.size],fun v hv=>?_⟩
  simp [Tm.vals,depA,h.2.1] at hv; omega
 | .one n t,k,h=>by
  obtain ⟨h1,h2,h3⟩:=dep_rng h.1
  rw [dep_one h]
  refine ⟨by omega,by simp [Tm.size]; omega,fun v hv=>?_⟩
  simp only [Tm.vals,List.mem_append,List.mem_singleton] at hv
  rcases hv with hv | rfl
  ·have:=h3 v hv; omega
  ·have e:=dep_one h
   simp only [Tm.dep,Tm.val] at e ⊢
   rw [e]; simp only [Tm.dep] at h1; omega
 | .two n a b,k,h=>by
  obtain ⟨h1,h2,h3⟩:=dep_rng h.1
  obtain ⟨g1,g2,g3⟩:=dep_rng h.2.1
  rw [dep_two h]
  refine ⟨by omega,by simp [Tm.size]; omega,fun v hv=>?_⟩
  simp only [Tm.vals,List.mem_append,List.mem_singleton] at hv
  rcases hv with (hv | hv) | rfl
  ·have:=h3 v hv; omega
  ·have:=g3 v hv; omega
  ·have e:=dep_two h
   simp only [Tm.dep,Tm.val] at e ⊢
   rw [e]; simp only [Tm.dep] at h1 g1; omega
section
variable {n:Nat} {x0:Sl S_b} {t:Tm}
theorem depths_loop (hn:2 ≤ n) (hN:(Sl.l x0).length ≤ 500) (hl:Sl.l x0 = t.flat) (ht:t.At 0):∀ (d fuel i:Nat),i + d = t.size → d < fuel →
  b_S (m_0 n) n x0 fuel (pf (t.vals 0 depA) 0 i) (Sl.len x0) (i:Int) = some (some (t.vals 0 depA)):=by
 have hlen:Sl.len x0 = (t.size:Int):=by simp [Sl.len,hl,Tm.flat_len]
 have hs:t.size ≤ 500:=by rw [hl,Tm.flat_len] at hN; exact hN
 have hvl:(t.vals 0 depA).length = t.size:=t.vals_len _ _
 obtain ⟨_,hd2,hd3⟩:=dep_rng ht
 have rng:∀ {j:Nat} {v:Int},(t.vals 0 depA)[j]? = some v → 1 ≤ v ∧ v ≤ 500:=fun {j v} hv=>by have:=hd3 v (List.mem_iff_getElem?.2 ⟨_,hv⟩); omega
 intro d
 induction d with
 | zero =>
  intro fuel i hi hf
  obtain ⟨fuel,rfl⟩:∃ m,fuel = m + 1:=⟨fuel - 1,by omega⟩
  obtain rfl:i = t.size:=by omega
  rw [b_S,cfl (df (by omega)),← hvl,pf_end]
 | succ d ih =>
  intro fuel i hi hf
  obtain ⟨fuel,rfl⟩:∃ m,fuel = m + 1:=⟨fuel - 1,by omega⟩
  have hif:i < t.flat.length:=by rw [Tm.flat_len]; omega
  have hx:=List.getElem?_eq_getElem hif
  have hx0:Sl.nth x0 i = t.flat[i]:=nth_l (by rw [hl]; exact hx)
  have K:=Tm.kid (d:=(0:Int)) (alg:=depA) ht hx
  rw [b_S,ct (dt (by omega)),ck_ok (by rw [hl]; exact hif),Option.bind_some,hx0,kids_ok _ (by omega),Option.bind_some]
  have hck:∀ {j:Nat} {v:Int},(t.vals 0 depA)[j]? = some v → ck (Sl.l (pf (t.vals 0 depA) 0 i)).length ((0 + j:Nat):Int) = some j:=fun {j v} hv=>by
   rw [pf_len (by omega),Nat.zero_add]; exact ck_ok (List.getElem?_eq_some_iff.1 hv).1
  have hci:ck (Sl.l (pf (t.vals 0 depA) 0 i)).length (i:Int) = some i:=by rw [pf_len (by omega)]; exact ck_ok (by omega)
  generalize t.flat[i] = x at *
  rcases K.at_ with ⟨h1,h2,h3,h4⟩ | ⟨h1,j,v,h2,h3,h4,h5,h6⟩ | ⟨h1,j,m,v,w,h2,h3,h4,h5,h6,h7,h8⟩
  ·rw [h1,ct (dt (by omega)),hci,Option.bind_some,b_ba,wp1 (by omega)]
   have e:depA x 0 0 = 1:=by simp [depA,h1]
   rw [e] at h4
   rw [pf_put h4]
   exact ih fuel (i + 1) (by omega) (by omega)
  ·have r5:=rng h5
   rw [h1,cfl (df (by omega)),ct (dt (by omega)),h3,hck h5,Option.bind_some,hci,Option.bind_some,b_ba,wp1 (by omega),pf_nth h2 h5,w64 (by omega) (by omega)]
   have e:depA x v 0 = 1 + v:=by simp [depA,h1]
   rw [e] at h6
   rw [pf_put h6]
   exact ih fuel (i + 1) (by omega) (by omega)
  ·have r5:=rng h6
   have r6:=rng h7
   rw [h1,cfl (df (by omega)),cfl (df (by omega)),h4,hck h6,Option.bind_some,h5,hck h7,Option.bind_some,hci,Option.bind_some,b_ba,wp1 (by omega),pf_nth h2 h6,pf_nth h3 h7,w64 (by omega) (by omega)]
   have e:depA x v w = 1 + max v w:=by simp [depA,h1]
   rw [e] at h8
   rw [pf_put h8]
   exact ih fuel (i + 1) (by omega) (by omega)
theorem depths_ok (hn:600 ≤ n) (hN:(Sl.l x0).length ≤ 500) (ht:tree (Sl.l x0) = some t):m_cf n x0 = some (some (t.vals 0 depA)):=by
 obtain ⟨n,rfl⟩:∃ m,n = m + 1:=⟨n - 1,by omega⟩
 obtain ⟨hl,hA⟩:=tree_some ht
 have hs:t.size ≤ 500:=by rw [hl,Tm.flat_len] at hN; exact hN
 simp only [m_cf,b_dm]
 have:=depths_loop (n:=n) (by omega) hN hl hA t.size n 0 (by omega) (by omega)
 rw [show Sl.len x0 = ((t.size:Nat):Int) by simp [Sl.len,hl,Tm.flat_len]] at this ⊢
 rw [make_ok (Nat.le_refl _) (by omega) (by omega),Option.bind_some]
 rw [pf_0,Tm.vals_len] at this
 exact this
theorem max_loop {vs:List Int} {M:Int} (hM:∀ v ∈ vs,v ≤ M) (hl:vs.length ≤ 1000):∀ (d fuel i:Nat) (m:Int),i + d = vs.length → d < fuel → m ≤ M → (m = M ∨ M ∈ vs.drop i) →
  b_J n (some vs) fuel m (i:Int) = some M:=by
 intro d
 induction d with
 | zero =>
  intro fuel i m hi hf hm hor
  obtain ⟨fuel,rfl⟩:∃ m,fuel = m + 1:=⟨fuel - 1,by omega⟩
  rw [b_J,cfl (df (by simp [Sl.len,Sl.l]; omega))]
  rcases hor with rfl | h
  ·rfl
  ·rw [List.drop_eq_nil_of_le (by omega)] at h; cases h
 | succ d ih =>
  intro fuel i m hi hf hm hor
  obtain ⟨fuel,rfl⟩:∃ m,fuel = m + 1:=⟨fuel - 1,by omega⟩
  have hil:i < vs.length:=by omega
  rw [b_J,ct (dt (by simp [Sl.len,Sl.l]; omega)),ck_ok (by simpa [Sl.l] using hil),Option.bind_some,wp1 (by omega),nth_l (v:=vs[i]) (by simp [Sl.l])]
  have hv:=hM _ (List.getElem_mem hil)
  refine ih fuel (i + 1) _ (by omega) (by omega) (by omega) ?_
  rw [List.drop_eq_getElem_cons hil] at hor
  rcases hor with rfl | h
  ·exact .inl (by omega)
  ·rcases List.mem_cons.1 h with h | h
   ·exact .inl (by omega)
   ·exact .inr h
theorem max_ok {vs:List Int} {M:Int} (hn:1100 ≤ n) (hM:∀ v ∈ vs,v ≤ M) (hm:M ∈ vs) (hl:vs.length ≤ 1000):m_bh n (some vs) = some M:=by
 obtain ⟨n,rfl⟩:∃ m,n = m + 1:=⟨n - 1,by omega⟩
 have hp:0 < vs.length:=List.length_pos_of_mem hm
 simp only [m_bh,b_bI,b_bv]
 rw [cfl (df (by simp [Sl.len,Sl.l]; omega)),ck_int (by omega) (by simp [Sl.l]; omega),Option.bind_some]
 have hv:=hM _ (List.getElem_mem hp)
 rw [show ((0:Int)).toNat = 0 from rfl,nth_l (v:=vs[0]) (by simp [Sl.l])]
 refine max_loop hM hl (vs.length - 1) n 1 _ (by omega) (by omega) hv ?_
 obtain ⟨i,hi⟩:=List.mem_iff_getElem?.1 hm
 cases i with
 | zero=>rw [List.getElem?_eq_getElem hp] at hi; injection hi with hi; exact .inl hi
 | succ i=>exact .inr (List.mem_iff_getElem?.2 ⟨i,by rw [List.getElem?_drop,Nat.add_comm]; exact hi⟩)
def formedR (l:List S_b):Int:=if 500 < l.length then 4 else match tree l with | none=>3 | some t=>if 40 < t.dep then 4 else 0
theorem formed_ok (hn:1200 ≤ n):m_cd n x0 = some (formedR (Sl.l x0)):=by
 obtain ⟨n,rfl⟩:∃ m,n = m + 1:=⟨n - 1,by omega⟩
 simp only [m_cd,b_dc,formedR]
 by_cases h:500 < (Sl.l x0).length
 ·rw [ct (dt (by simp only [Sl.len]; omega)),if_pos h]
 ·rw [cfl (df (by simp only [Sl.len]; omega)),if_neg h]
  cases ht:tree (Sl.l x0) with
  | none =>
   obtain ⟨y,hy⟩:=sizes_none (n:=n) (by omega) (by omega) ht
   rw [hy]; rfl
  | some t =>
   rw [sizes_tree (by omega) (by omega) ht,Option.bind_some]
   obtain ⟨hl,hA⟩:=tree_some ht
   have hs:t.size ≤ 500:=by rw [hl,Tm.flat_len] at h; omega
   obtain ⟨h1,h2,h3⟩:=dep_rng hA
   rw [depths_ok (by omega) (by omega) ht]
   simp only [Bool.not_true,cond_false,Option.bind_some]
   rw [max_ok (M:=t.dep) (by omega) (fun v hv=>(h3 v hv).2) (List.mem_iff_getElem?.2 ⟨_,t.vals_last 0 depA⟩) (by rw [Tm.vals_len]; omega),Option.bind_some]
   by_cases h4:40 < t.dep
   ·rw [ct (dt h4)]; simp [h4]
   ·rw [cfl (df h4)]; simp [h4]
def deepR (l:List S_b):Int:=if 500 < l.length then 0 else match tree l with | none=>0 | some t=>t.dep
theorem deep_ok (hn:1200 ≤ n):m_cS n x0 = some (deepR (Sl.l x0)):=by
 obtain ⟨n,rfl⟩:∃ m,n = m + 1:=⟨n - 1,by omega⟩
 simp only [m_cS,b_dV,deepR]
 by_cases h:500 < (Sl.l x0).length
 ·rw [ct (dt (by simp only [Sl.len]; omega)),if_pos h]
 ·rw [cfl (df (by simp only [Sl.len]; omega)),if_neg h]
  cases ht:tree (Sl.l x0) with
  | none =>
   obtain ⟨y,hy⟩:=sizes_none (n:=n) (by omega) (by omega) ht
   rw [hy]; rfl
  | some t =>
   rw [sizes_tree (by omega) (by omega) ht,Option.bind_some]
   obtain ⟨hl,hA⟩:=tree_some ht
   have hs:t.size ≤ 500:=by rw [hl,Tm.flat_len] at h; omega
   have hp:=t.pos
   rw [depths_ok (by omega) (by omega) ht]
   simp only [Bool.not_true,cond_false,Option.bind_some]
   have hlen:Sl.len x0 = (t.size:Int):=by simp [Sl.len,hl,Tm.flat_len]
   rw [hlen,w64 (by omega) (by omega),ck_int (by omega) (by simp [Sl.l,Tm.vals_len]; omega),Option.bind_some,show ((t.size:Int) - 1).toNat = t.size - 1 by omega,nth_l (v:=t.dep) (t.vals_last 0 depA)]
end
def plusI (a b:Int):Int:=if a = -1 ∨ b = -1 then -1 else min (IntKind.i64.wrap (a + b)) 1048576
def timesI (a k:Int):Int:=if a = 0 ∨ k = 0 then 0 else if a = -1 ∨ k = -1 then -1 else min (IntKind.i64.wrap (a * k)) 1048576
theorem plus_ok {n:Nat} (a b:Int) (h:1 ≤ n):m_b3 n a b = some (plusI a b):=by
 obtain ⟨n,rfl⟩:∃ m,n = m + 1:=⟨n - 1,by omega⟩
 simp only [m_b3,b_d1,plusI]
 by_cases h1:a = -1 <;> by_cases h2:b = -1 <;> simp [h1,h2]
theorem times_ok {n:Nat} (a b:Int) (h:1 ≤ n):m_bN n a b = some (timesI a b):=by
 obtain ⟨n,rfl⟩:∃ m,n = m + 1:=⟨n - 1,by omega⟩
 simp only [m_bN,b_dF,timesI]
 by_cases h1:a = 0
 ·simp [h1]
 by_cases h2:b = 0
 ·simp [h2]
 by_cases h3:a = -1 <;> by_cases h4:b = -1 <;> simp [h1,h2,h3,h4]
def lenA (x:S_b) (v w:Int × Int):Int × Int :=
 if x.f_Kind = 1 then (1,1) else if x.f_Kind = 12 then (0,-1) else if x.f_Kind = 8 then (plusI v.1 w.1,plusI v.2 w.2)
 else if x.f_Kind = 9 then (min v.1 w.1,if min v.2 w.2 = -1 then -1 else max v.2 w.2)
 else if x.f_Kind = 10 then (timesI v.1 x.f_Min,timesI v.2 x.f_Max) else if x.f_Kind = 11 ∨ x.f_Kind = 17 then v else (0,0)
abbrev Tm.lens (t:Tm):List (Int × Int):=t.vals (0,0) lenA
theorem lens_loop {n:Nat} {x0:Sl S_b} {t:Tm} (hn:2 ≤ n) (hN:(Sl.l x0).length ≤ 500) (hl:Sl.l x0 = t.flat) (ht:t.At 0):∀ (d fuel i:Nat),i + d = t.size → d < fuel →
  b_C (m_b3 n) (m_bN n) n x0 fuel (pf (t.lens.map Prod.fst) 0 i) (pf (t.lens.map Prod.snd) 0 i) (Sl.len x0) (i:Int) = some (some (t.lens.map Prod.fst),some (t.lens.map Prod.snd)):=by
 have hlen:Sl.len x0 = (t.size:Int):=by simp [Sl.len,hl,Tm.flat_len]
 have hs:t.size ≤ 500:=by rw [hl,Tm.flat_len] at hN; exact hN
 have hvl:(t.lens.map Prod.fst).length = t.size:=by simp [Tm.vals_len]
 have hvl2:(t.lens.map Prod.snd).length = t.size:=by simp [Tm.vals_len]
 intro d
 induction d with
 | zero =>
  intro fuel i hi hf
  obtain ⟨fuel,rfl⟩:∃ m,fuel = m + 1:=⟨fuel - 1,by omega⟩
  obtain rfl:i = t.size:=by omega
  rw [b_C,cfl (df (by omega))]
  conv=>lhs; rw [← hvl]
  rw [pf_end,hvl,← hvl2,pf_end]
 | succ d ih =>
  intro fuel i hi hf
  obtain ⟨fuel,rfl⟩:∃ m,fuel = m + 1:=⟨fuel - 1,by omega⟩
  have hif:i < t.flat.length:=by rw [Tm.flat_len]; omega
  have hx:=List.getElem?_eq_getElem hif
  have hx0:Sl.nth x0 i = t.flat[i]:=nth_l (by rw [hl]; exact hx)
  have K:=Tm.kid (d:=((0:Int),(0:Int))) (alg:=lenA) ht hx
  rw [b_C,ct (dt (by omega)),ck_ok (by rw [hl]; exact hif),Option.bind_some,hx0]
  have f1:∀ {j:Nat} {v:Int × Int},t.lens[j]? = some v → (t.lens.map Prod.fst)[j]? = some v.1:=fun {j v} hv=>by rw [List.getElem?_map,hv]; rfl
  have f2:∀ {j:Nat} {v:Int × Int},t.lens[j]? = some v → (t.lens.map Prod.snd)[j]? = some v.2:=fun {j v} hv=>by rw [List.getElem?_map,hv]; rfl
  have hck1:∀ {j:Nat} {v:Int × Int},t.lens[j]? = some v → ck (Sl.l (pf (t.lens.map Prod.fst) 0 i)).length ((0 + j:Nat):Int) = some j:=fun {j v} hv=>by
   rw [pf_len (by omega),Nat.zero_add]; exact ck_ok (List.getElem?_eq_some_iff.1 (f1 hv)).1
  have hck2:∀ {j:Nat} {v:Int × Int},t.lens[j]? = some v → ck (Sl.l (pf (t.lens.map Prod.snd) 0 i)).length ((0 + j:Nat):Int) = some j:=fun {j v} hv=>by
   rw [pf_len (by omega),Nat.zero_add]; exact ck_ok (List.getElem?_eq_some_iff.1 (f2 hv)).1
  have hci1:ck (Sl.l (pf (t.lens.map Prod.fst) 0 i)).length (i:Int) = some i:=by rw [pf_len (by omega)]; exact ck_ok (by omega)
  have hci2:ck (Sl.l (pf (t.lens.map Prod.snd) 0 i)).length (i:Int) = some i:=by rw [pf_len (by omega)]; exact ck_ok (by omega)
  have go:=ih fuel (i + 1) (by omega) (by omega)
  generalize t.flat[i] = x at *
  by_cases k1:x.f_Kind = 1
  ·rw [ct (dt k1),hci1,Option.bind_some,hci2,Option.bind_some,b_D,wp1 (by omega)]
   have hv:t.lens[i]? = some (1,1):=by
    rcases K.at_ with ⟨h1,h2,h3,h4⟩ | ⟨h1,j,v,h2,h3,h4,h5,h6⟩ | ⟨h1,j,m,v,w,h2,h3,h4,h5,h6,h7,h8⟩
    ·rw [h4]; simp [lenA,k1]
    ·rw [h6]; simp [lenA,k1]
    ·rw [h8]; simp [lenA,k1]
   rw [pf_put (f1 hv),pf_put (f2 hv)]; exact go
  rw [cfl (df k1)]
  by_cases k2:x.f_Kind = 12
  ·rw [ct (dt k2),hci2,Option.bind_some,b_D,wp1 (by omega)]
   have hv:t.lens[i]? = some (0,-1):=by
    rcases K.at_ with ⟨h1,h2,h3,h4⟩ | ⟨h1,j,v,h2,h3,h4,h5,h6⟩ | ⟨h1,j,m,v,w,h2,h3,h4,h5,h6,h7,h8⟩
    ·rw [h4]; simp [lenA,k2]
    ·rw [h6]; simp [lenA,k2]
    ·rw [h8]; simp [lenA,k2]
   rw [pf_skip (f1 hv),pf_put (f2 hv)]; exact go
  rw [cfl (df k2)]
  by_cases k3:x.f_Kind = 8
  ·rcases K.at_ with ⟨h1,_⟩ | ⟨h1,_⟩ | ⟨h1,j,m,v,w,h2,h3,h4,h5,h6,h7,h8⟩
   ·simp [kd,k3] at h1
   ·simp [kd,k3] at h1
   have hv:t.lens[i]? = some (plusI v.1 w.1,plusI v.2 w.2):=by rw [h8]; simp [lenA,k3]
   rw [ct (dt k3),h4,hck1 h6,Option.bind_some,h5,hck1 h7,Option.bind_some,plus_ok _ _ (by omega),Option.bind_some,hck2 h6,Option.bind_some,hck2 h7,Option.bind_some,plus_ok _ _ (by omega),Option.bind_some,hci1,Option.bind_some,hci2,Option.bind_some,
    b_D,wp1 (by omega),pf_nth h2 (f1 h6),pf_nth h3 (f1 h7),pf_nth h2 (f2 h6),pf_nth h3 (f2 h7),pf_put (f1 hv),pf_put (f2 hv)]
   exact go
  rw [cfl (df k3)]
  by_cases k4:x.f_Kind = 9
  ·rcases K.at_ with ⟨h1,_⟩ | ⟨h1,_⟩ | ⟨h1,j,m,v,w,h2,h3,h4,h5,h6,h7,h8⟩
   ·simp [kd,k4] at h1
   ·simp [kd,k4] at h1
   have hv:t.lens[i]? = some (min v.1 w.1,if min v.2 w.2 = -1 then -1 else max v.2 w.2):=by rw [h8]; simp [lenA,k4]
   rw [ct (dt k4),h4,hck1 h6,Option.bind_some,h5,hck1 h7,Option.bind_some,hck2 h6,Option.bind_some,hck2 h7,Option.bind_some,hci1,Option.bind_some,hci2,Option.bind_some]
   have n1:Sl.nth (pf (t.lens.map Prod.fst) 0 i) j = v.1:=pf_nth h2 (f1 h6)
   have n2:Sl.nth (pf (t.lens.map Prod.fst) 0 i) m = w.1:=pf_nth h3 (f1 h7)
   have n3:Sl.nth (pf (t.lens.map Prod.snd) 0 i) j = v.2:=pf_nth h2 (f2 h6)
   have n4:Sl.nth (pf (t.lens.map Prod.snd) 0 i) m = w.2:=pf_nth h3 (f2 h7)
   have e3:∀ z,Sl.nth (Sl.put (pf (t.lens.map Prod.snd) 0 i) i z) j = v.2:=fun z=>(nth_put_ne (by omega)).trans n3
   have e4:∀ z,Sl.nth (Sl.put (pf (t.lens.map Prod.snd) 0 i) i z) m = w.2:=fun z=>(nth_put_ne (by omega)).trans n4
   simp only [e3,e4,n1,n2,n3,n4,put_put,b_D,wp1 (show i < 1000000 by omega)]
   by_cases hm:min v.2 w.2 = -1
   ·rw [if_pos hm] at hv
    rw [ct (dt hm),pf_put (f1 hv),pf_put (f2 hv)]; exact go
   ·rw [if_neg hm] at hv
    rw [cfl (df hm),pf_put (f1 hv),pf_put (f2 hv)]; exact go
  rw [cfl (df k4)]
  by_cases k5:x.f_Kind = 10
  ·rcases K.at_ with ⟨h1,_⟩ | ⟨h1,j,v,h2,h3,h4,h5,h6⟩ | ⟨h1,_⟩
   ·simp [kd,k5] at h1
   case inr.inr=>simp [kd,k5] at h1
   have hv:t.lens[i]? = some (timesI v.1 x.f_Min,timesI v.2 x.f_Max):=by rw [h6]; simp [lenA,k5]
   rw [ct (dt k5),h3,hck1 h5,Option.bind_some,times_ok _ _ (by omega),Option.bind_some,hck2 h5,Option.bind_some,times_ok _ _ (by omega),Option.bind_some,hci1,Option.bind_some,hci2,Option.bind_some,
    b_D,wp1 (by omega),pf_nth h2 (f1 h5),pf_nth h2 (f2 h5),pf_put (f1 hv),pf_put (f2 hv)]
   exact go
  rw [cfl (df k5)]
  by_cases k6:x.f_Kind = 11 ∨ x.f_Kind = 17
  ·rcases K.at_ with ⟨h1,_⟩ | ⟨h1,j,v,h2,h3,h4,h5,h6⟩ | ⟨h1,_⟩
   ·rcases k6 with k6 | k6 <;> simp [kd,k6] at h1
   case inr.inr=>rcases k6 with k6 | k6 <;> simp [kd,k6] at h1
   have hv:t.lens[i]? = some v:=by rw [h6]; rcases k6 with k6 | k6 <;> simp [lenA,k6]
   have fin:b_bS (m_b3 n) (m_bN n) n (b_C (m_b3 n) (m_bN n) n x0 fuel) x0 (pf (t.lens.map Prod.fst) 0 i) (pf (t.lens.map Prod.snd) 0 i) i x (Sl.len x0) i true = some (some (t.lens.map Prod.fst),some (t.lens.map Prod.snd)):=by
    rw [b_bS,cond_true,h3,hck1 h5,Option.bind_some,hck2 h5,Option.bind_some,hci1,Option.bind_some,hci2,Option.bind_some,b_D,wp1 (by omega),pf_nth h2 (f1 h5),pf_nth h2 (f2 h5),pf_put (f1 hv),pf_put (f2 hv)]
    exact go
   by_cases k7:x.f_Kind = 11
   ·rw [ct (dt k7),dt k7]; exact fin
   ·rw [cfl (df k7),dt (k6.resolve_left k7)]; exact fin
  rw [cfl (df fun h=>k6 (.inl h)),df fun h=>k6 (.inr h),b_bS,cond_false,b_D,wp1 (by omega)]
  have hv:t.lens[i]? = some (0,0):=by
   have e:∀ v w,lenA x v w = (0,0):=fun v w=>by simp only [lenA,if_neg k1,if_neg k2,if_neg k3,if_neg k4,if_neg k5,if_neg k6]
   rcases K.at_ with ⟨h1,h2,h3,h4⟩ | ⟨h1,j,v,h2,h3,h4,h5,h6⟩ | ⟨h1,j,m,v,w,h2,h3,h4,h5,h6,h7,h8⟩
   ·rw [h4,e]
   ·rw [h6,e]
   ·rw [h8,e]
  rw [pf_skip (f1 hv),pf_skip (f2 hv)]; exact go
theorem lens_ok {n:Nat} {x0:Sl S_b} {t:Tm} (hn:600 ≤ n) (hN:(Sl.l x0).length ≤ 500) (ht:tree (Sl.l x0) = some t):m_cO n x0 = some (some (t.lens.map Prod.fst),some (t.lens.map Prod.snd)):=by
 obtain ⟨n,rfl⟩:∃ m,n = m + 1:=⟨n - 1,by omega⟩
 obtain ⟨hl,hA⟩:=tree_some ht
 have hs:t.size ≤ 500:=by rw [hl,Tm.flat_len] at hN; exact hN
 simp only [m_cO,b_dZ]
 have:=lens_loop (n:=n) (by omega) hN hl hA t.size n 0 (by omega) (by omega)
 rw [show Sl.len x0 = ((t.size:Nat):Int) by simp [Sl.len,hl,Tm.flat_len]] at this ⊢
 rw [make_ok (Nat.le_refl _) (by omega) (by omega),Option.bind_some]
 rw [pf_0,pf_0,List.length_map,List.length_map,Tm.vals_len] at this
 exact this
end Go.Proofs.YtaadjlpfdajggaaGreatDoor

set_option maxRecDepth 100000
set_option linter.unusedVariables false
set_option linter.unusedSimpArgs false
namespace Go.Proofs.YtaadjlpfdajggaaGreatDoor
open Go Go.AM
theorem sz_rng:∀ {t:Tm},∀ v ∈ t.szs,1 ≤ v ∧ v ≤ t.size
 | .leaf n=>fun v hv=>by simp [Tm.vals,szA] at hv; simp [Tm.size]; omega
 | .one n t=>fun v hv=>by
  simp only [Tm.vals,List.mem_append,List.mem_singleton] at hv
  rcases hv with hv | rfl
  ·have:=sz_rng v hv; simp [Tm.size]; omega
  ·simp [szA,Tm.sz_val,Tm.size]; omega
 | .two n a b=>fun v hv=>by
  simp only [Tm.vals,List.mem_append,List.mem_singleton] at hv
  rcases hv with (hv | hv) | rfl
  ·have:=sz_rng v hv; simp [Tm.size]; omega
  ·have:=sz_rng v hv; simp [Tm.size]; omega
  ·simp [szA,Tm.sz_val,Tm.size]; omega
def szAt (sz:List Int) (x:Int):Int:=sz.getD x.toNat default
def cfG (sz:List Int) (x y:Int):Int:=if (x - szAt sz x + 1) - (y - szAt sz y + 1) ≠ 0 then (x - szAt sz x + 1) - (y - szAt sz y + 1) else szAt sz y - szAt sz x
def InR (sz:List Int) (x:Int):Prop:=0 ≤ x ∧ x < sz.length
theorem srt_congr {cf cg:Int → Int → Int} {l:List Int} (h:∀ a ∈ l,∀ b ∈ l,cf a b = cg a b):srt cf l = srt cg l:=by
 have:=List.map_mergeSort (r:=fun x y=>!ltC cf y x) (s:=fun x y=>!ltC cg y x) (f:=id) (l:=l) (fun a ha b hb=>by simp only [ltC,id,h b hb a ha])
 simpa [srt] using this
theorem ltG {sz:List Int} {x y:Int}:ltC (cfG sz) x y = true ↔ (x - szAt sz x < y - szAt sz y ∨ (x - szAt sz x = y - szAt sz y ∧ szAt sz y < szAt sz x)):=by
 unfold ltC cfG
 rw [decide_eq_true_iff]
 split <;> omega
theorem ltG' {sz:List Int} {x y:Int}:ltC (cfG sz) x y = false ↔ ¬ (x - szAt sz x < y - szAt sz y ∨ (x - szAt sz x = y - szAt sz y ∧ szAt sz y < szAt sz x)):=by
 rw [← ltG,Bool.not_eq_true]
theorem ord_G (sz l:List Int):OrdOn (ltC (cfG sz)) l where
 irrefl x _:=by rw [ltG']; omega
 trans x _ y _ z _ h1 h2:=by rw [ltG] at *; omega
 ntrans x _ y _ z _ h1 h2:=by rw [ltG'] at *; omega
 anti x _ y _ h1 h2:=by rw [ltG'] at *; omega
section
variable {n:Nat} {sz:List Int}
theorem c1_ok {x:Int} (hn:1 ≤ n) (hb:∀ v ∈ sz,1 ≤ v ∧ v ≤ 500) (hl:sz.length ≤ 500) (hx:InR sz x):m_bT n x (some sz) = some (x - szAt sz x + 1):=by
 obtain ⟨n,rfl⟩:∃ m,n = m + 1:=⟨n - 1,by omega⟩
 obtain ⟨h1,h2⟩:=hx
 have hj:x.toNat < sz.length:=by omega
 have:=hb _ (List.getElem_mem hj)
 have e:szAt sz x = sz[x.toNat]:=by simp [szAt,List.getD,hj]
 simp only [m_bT,b_cg,Sl.l]
 rw [ck_int h1 h2,Option.bind_some,nth_l (v:=sz[x.toNat]) (by simp [Sl.l,hj]),w64 (n:=x - _) (by omega) (by omega),w64 (by omega) (by omega),e]
theorem c2_ok {x y:Int} (hn:2 ≤ n) (hb:∀ v ∈ sz,1 ≤ v ∧ v ≤ 500) (hl:sz.length ≤ 500) (hx:InR sz x) (hy:InR sz y):m_x n x y (some sz) (some sz) = some (cfG sz x y):=by
 obtain ⟨n,rfl⟩:∃ m,n = m + 1:=⟨n - 1,by omega⟩
 have hjx:x.toNat < sz.length:=by have:=hx.1; have:=hx.2; omega
 have hjy:y.toNat < sz.length:=by have:=hy.1; have:=hy.2; omega
 have b1:=hb _ (List.getElem_mem hjx)
 have b2:=hb _ (List.getElem_mem hjy)
 have e1:szAt sz x = sz[x.toNat]:=by simp [szAt,List.getD,hjx]
 have e2:szAt sz y = sz[y.toNat]:=by simp [szAt,List.getD,hjy]
 simp only [m_x,b_ch]
 rw [c1_ok (by omega) hb hl hx,Option.bind_some,c1_ok (by omega) hb hl hy,Option.bind_some]
 have:=hx.1; have:=hx.2; have:=hy.1; have:=hy.2
 rw [w64 (by omega) (by omega)]
 unfold cfG
 by_cases h:(x - szAt sz x + 1) - (y - szAt sz y + 1) = 0
 ·rw [cfl (by simp [h]),if_neg (by simp [h])]
  simp only [Sl.l]
  rw [ck_int hy.1 hy.2,Option.bind_some,ck_int hx.1 hx.2,Option.bind_some,nth_l (x:=some sz) (v:=sz[y.toNat]) (by simp [Sl.l,hjy]),nth_l (x:=some sz) (v:=sz[x.toNat]) (by simp [Sl.l,hjx]),w64 (by omega) (by omega),e1,e2]
 ·rw [ct (by simp [h]),if_pos h]
theorem sort_ok {l:List Int} (hn:3 ≤ n) (hb:∀ v ∈ sz,1 ≤ v ∧ v ≤ 500) (hl:sz.length ≤ 500) (hx:∀ x ∈ l,InR sz x) (h0:l ≠ []) (hl':l.length ≤ 500):m_q n (some l) (some sz) = some (some (srt (cfG sz) l)):=by
 obtain ⟨n,rfl⟩:∃ m,n = m + 1:=⟨n - 1,by omega⟩
 have hc:∀ x ∈ l,∀ y ∈ l,(m_x n x y (some sz) (some sz)).getD 0 = cfG sz x y:=fun x h y h'=>by rw [c2_ok (by omega) hb hl (hx x h) (hx y h')]; rfl
 simp only [m_q]
 rw [if_pos,srt_congr hc]
 refine ⟨h0,by omega,fun x h y h'=>by rw [c2_ok (by omega) hb hl (hx x h) (hx y h')]; simp,?_⟩
 have o:=ord_G sz l
 have e:∀ x ∈ l,∀ y ∈ l,ltC (fun x y=>(m_x n x y (some sz) (some sz)).getD 0) x y = ltC (cfG sz) x y:=fun x h y h'=>by simp only [ltC,hc x h y h']
 exact ⟨fun x h=>by rw [e x h x h]; exact o.irrefl x h,fun x h y h' z h''=>by rw [e x h y h',e y h' z h'',e x h z h'']; exact o.trans x h y h' z h'',fun x h y h' z h''=>by rw [e x h y h',e y h' z h'',e x h z h'']; exact o.ntrans x h y h' z h'',fun x h y h'=>by rw [e x h y h',e y h' x h]; exact o.anti x h y h'⟩
end
def gix (i:Nat):List S_b → List Int
 | []=>[]
 | x :: xs=>if x.f_Kind = 11 then (i:Int) :: gix (i + 1) xs else gix (i + 1) xs
theorem gix_len:∀ {l:List S_b} {i:Nat},(gix i l).length ≤ l.length
 | [],i=>by simp [gix]
 | y :: l,i=>by
  have:=@gix_len l (i + 1)
  unfold gix
  split <;> simp <;> omega
def oddB (g:Nat) (x:S_b):Bool:=decide (x.f_Kind = 12) && (decide (x.f_N < 1) || decide ((g:Int) < x.f_N))
def numOk (l:List S_b):List Int → Int → Bool
 | [],_=>true
 | i :: S,k=>decide ((l.getD i.toNat default).f_N = k + 1) && numOk l S (k + 1)
def ol (l:List Int):Sl Int:=if l = [] then none else some l
theorem ol_l (l:List Int):Sl.l (ol l) = l:=by
 unfold ol; split
 ·rename_i h; rw [h]; rfl
 ·rfl
def groupedR (l:List S_b) (sz:List Int):Bool :=
 numOk l (srt (cfG sz) (gix 0 l)) 0 && (decide ((gix 0 l).length ≤ 9) && !l.any (oddB (gix 0 l).length))
section
variable {n:Nat} {x0:Sl S_b} {sz:List Int}
theorem idx_loop {o:Sl Int} {g:Nat} (hg:(Sl.l o).length = g) (hn:2 ≤ n) (hN:(Sl.l x0).length ≤ 500):∀ (d fuel i:Nat),i + d = (Sl.l x0).length → d < fuel →
  ∃ r,b_E (m_bs n) n x0 o fuel (Sl.len x0) (i:Int) = some r ∧ decide (0 ≤ r) = ((Sl.l x0).drop i).any (oddB g):=by
 intro d
 induction d with
 | zero =>
  intro fuel i hi hf
  obtain ⟨fuel,rfl⟩:∃ m,fuel = m + 1:=⟨fuel - 1,by omega⟩
  rw [b_E,cfl (df (by simp only [Sl.len]; omega)),List.drop_eq_nil_of_le (by omega)]
  exact ⟨_,rfl,rfl⟩
 | succ d ih =>
  intro fuel i hi hf
  obtain ⟨fuel,rfl⟩:∃ m,fuel = m + 1:=⟨fuel - 1,by omega⟩
  have hil:i < (Sl.l x0).length:=by omega
  rw [b_E,ct (dt (by simp only [Sl.len]; omega)),ck_ok hil,Option.bind_some,nth_l (List.getElem?_eq_getElem hil),List.drop_eq_getElem_cons hil,List.any_cons]
  have h3:∀ x,m_bs n x o = some (oddB g x):=fun x=>by
   obtain ⟨n,rfl⟩:∃ m,n = m + 1:=⟨n - 1,by omega⟩
   simp only [m_bs,b_ck,oddB,Sl.len,hg]
  rw [h3,Option.bind_some]
  cases hv:oddB g (Sl.l x0)[i] with
  | true=>exact ⟨_,rfl,by simp⟩
  | false =>
   rw [cond_false,wp1 (by omega),Bool.false_or]
   exact ih fuel (i + 1) (by omega) (by omega)
theorem cont_ok {o:Sl Int} {g:Nat} (hg:(Sl.l o).length = g) (hn:600 ≤ n) (hN:(Sl.l x0).length ≤ 500):m_H n x0 o = some ((Sl.l x0).any (oddB g)):=by
 obtain ⟨n,rfl⟩:∃ m,n = m + 2:=⟨n - 2,by omega⟩
 obtain ⟨r,h1,h2⟩:=idx_loop (n:=n) hg (by omega) hN (Sl.l x0).length n 0 (by omega) (by omega)
 simp only [m_H,b_bn,m_bl,b_bm]
 rw [show ((0:Nat):Int) = 0 from rfl] at h1
 rw [h1,Option.bind_some,h2,List.drop_zero]
theorem num_loop {S:List Int} {N:Nat} (hN:N = S.length) (hn:700 ≤ n) (hx:(Sl.l x0).length ≤ 500) (hS:∀ x ∈ S,0 ≤ x ∧ x < ((Sl.l x0).length:Int)) (hl:S.length ≤ 500) {o:Sl Int} (ho:Sl.l o = S):∀ (d fuel i:Nat),i + d = N → d < fuel →
  b_bk (m_6 n) (m_q n) (m_H n) n x0 fuel o (N:Int) (i:Int) =
   some (numOk (Sl.l x0) (S.drop i) i && (decide (S.length ≤ 9) && !(Sl.l x0).any (oddB S.length))):=by
 intro d
 induction d with
 | zero =>
  intro fuel i hi hf
  obtain ⟨fuel,rfl⟩:∃ m,fuel = m + 1:=⟨fuel - 1,by omega⟩
  rw [b_bk,cfl (df (by omega)),List.drop_eq_nil_of_le (by omega),numOk,Bool.true_and]
  by_cases h9:S.length ≤ 9
  ·rw [ct (dt (by simp only [Sl.len,ho]; omega)),cont_ok (g:=S.length) (by rw [ho]) (by omega) hx,dt h9]; rfl
  ·rw [cfl (df (by simp only [Sl.len,ho]; omega)),df h9]; rfl
 | succ d ih =>
  intro fuel i hi hf
  obtain ⟨fuel,rfl⟩:∃ m,fuel = m + 1:=⟨fuel - 1,by omega⟩
  have hil:i < S.length:=by omega
  have hm:=hS _ (List.getElem_mem hil)
  have hil':i < (Sl.l o).length:=by rw [ho]; exact hil
  have ho':Sl.nth o i = S[i]:=nth_l (by rw [ho]; exact List.getElem?_eq_getElem hil)
  rw [b_bk,ct (dt (by omega)),ck_ok hil',Option.bind_some,ho',ck_int hm.1 hm.2,Option.bind_some,wp1 (by omega),List.drop_eq_getElem_cons hil,numOk]
  have e:Sl.nth x0 S[i].toNat = (Sl.l x0).getD S[i].toNat default:=rfl
  rw [e]
  by_cases h:((Sl.l x0).getD S[i].toNat default).f_N = ((i + 1:Nat):Int)
  ·rw [cfl (by rw [dt h]; rfl),ih fuel (i + 1) (by omega) (by omega),dt (show _ = (i:Int) + 1 by rw [h]; omega),Bool.true_and]
   congr 2
  ·rw [ct (by rw [df h]; rfl),df (show ¬ (_ = (i:Int) + 1) by omega)]; rfl
theorem grp_loop (hn:700 ≤ n) (hN:(Sl.l x0).length ≤ 500) (hb:∀ v ∈ sz,1 ≤ v ∧ v ≤ 500) (hsz:sz.length = (Sl.l x0).length):∀ (xs:List S_b) (fuel i:Nat) (acc:List Int),(Sl.l x0).drop i = xs → i ≤ (Sl.l x0).length → xs.length < fuel → (∀ x ∈ acc,InR sz x) → acc.length ≤ i →
  b_T (m_6 n) (m_q n) (m_H n) n x0 fuel (some sz) (ol acc) (Sl.len x0) (i:Int) =
   some (numOk (Sl.l x0) (srt (cfG sz) (acc ++ gix i xs)) 0 && (decide ((acc ++ gix i xs).length ≤ 9) && !(Sl.l x0).any (oddB (acc ++ gix i xs).length))):=by
 intro xs
 induction xs with
 | nil =>
  intro fuel i acc hd hi hf hr ha
  obtain ⟨fuel,rfl⟩:∃ m,fuel = m + 1:=⟨fuel - 1,by omega⟩
  have hlen:(Sl.l x0).length ≤ i:=List.drop_eq_nil_iff.1 hd
  rw [b_T,cfl (df (by simp only [Sl.len]; omega))]
  simp only [gix,List.append_nil]
  have hlen':Sl.len (ol acc) = ((acc.length:Nat):Int):=by simp only [Sl.len,ol_l]
  by_cases h0:acc = []
  ·subst h0
   obtain ⟨n,rfl⟩:∃ m,n = m + 1:=⟨n - 1,by omega⟩
   have e:m_q (n + 1) (ol []) (some sz) = some none:=rfl
   have:=num_loop (n:=n + 1) (x0:=x0) (S:=[]) (N:=0) rfl (by omega) hN (by simp) (by simp) (o:=none) rfl 0 (n + 1) 0 rfl (by omega)
   rw [e,Option.bind_some,hlen']
   simpa [srt,numOk] using this
  ·have e:ol acc = some acc:=if_neg h0
   have hS:∀ x ∈ srt (cfG sz) acc,0 ≤ x ∧ x < ((Sl.l x0).length:Int):=fun x hx=>by
    have:=hr x (List.mem_mergeSort.1 hx)
    rw [InR,hsz] at this; exact this
   have hl:(srt (cfG sz) acc).length = acc.length:=List.length_mergeSort _
   rw [hlen',e,sort_ok (by omega) hb (by omega) hr h0 (by omega),Option.bind_some]
   have:=num_loop (n:=n) (x0:=x0) (S:=srt (cfG sz) acc) (N:=acc.length) hl.symm hn hN hS (by omega) (o:=some (srt (cfG sz) acc)) rfl acc.length n 0 (by omega) (by omega)
   rw [hl] at this
   exact this
 | cons x xs ih =>
  intro fuel i acc hd hi hf hr ha
  obtain ⟨fuel,rfl⟩:∃ m,fuel = m + 1:=⟨fuel - 1,by simp at hf; omega⟩
  have hil:i < (Sl.l x0).length:=by
   rcases Nat.lt_or_ge i (Sl.l x0).length with h | h
   ·exact h
   ·rw [List.drop_eq_nil_of_le h] at hd; cases hd
  rw [List.drop_eq_getElem_cons hil] at hd
  injection hd with hx hd
  rw [b_T,ct (dt (by simp only [Sl.len]; omega)),ck_ok hil,Option.bind_some,nth_l (List.getElem?_eq_getElem hil),hx]
  by_cases h:x.f_Kind = 11
  ·rw [ct (dt h),show gix i (x :: xs) = (i:Int) :: gix (i + 1) xs by simp [gix,h]]
   have e:Sl.app 8 (ol acc) (some ([(i:Int)]:List Int)) = some (ol (acc ++ [(i:Int)])):=by
    have hr2:(8000000:Nat) ≤ roomMost:=Nat.le_of_ble_eq_true rfl
    unfold Sl.app
    rw [if_neg (by simp [Sl.l]),if_pos (by rw [ol_l]; simp [Sl.l]; omega),ol_l]
    simp [ol,Sl.l]
   rw [e,Option.bind_some,b_bx,wp1 (by omega)]
   have:=ih fuel (i + 1) (acc ++ [(i:Int)]) hd (by omega) (by simp at hf; omega) (fun y hy=>by
    rcases List.mem_append.1 hy with hy | hy
    ·exact hr y hy
    ·rw [List.mem_singleton] at hy; subst hy; exact ⟨by omega,by rw [hsz]; omega⟩) (by simp; omega)
   rw [List.append_assoc] at this
   exact this
  ·rw [cfl (df h),show gix i (x :: xs) = gix (i + 1) xs by simp [gix,h],b_bx,wp1 (by omega)]
   exact ih fuel (i + 1) acc hd (by omega) (by simp at hf; omega) hr (by omega)
theorem grouped_ok {t:Tm} (hn:800 ≤ n) (hN:(Sl.l x0).length ≤ 500) (ht:tree (Sl.l x0) = some t):m_bZ n x0 = some (groupedR (Sl.l x0) t.szs):=by
 obtain ⟨n,rfl⟩:∃ m,n = m + 1:=⟨n - 1,by omega⟩
 obtain ⟨hl,hA⟩:=tree_some ht
 have hs:t.size ≤ 500:=by rw [hl,Tm.flat_len] at hN; exact hN
 simp only [m_bZ,b_c4]
 rw [sizes_tree (by omega) hN ht,Option.bind_some]
 have:=grp_loop (n:=n) (x0:=x0) (sz:=t.szs) (by omega) hN (fun v hv=>by have:=sz_rng v hv; omega) (by rw [Tm.vals_len,hl,Tm.flat_len]) (Sl.l x0) n 0 [] rfl (by omega) (by omega) (by simp) (by simp)
 simpa [ol,groupedR] using this
end
def BehOk (t:Tm):Prop:=∀ (i:Nat) x,t.flat[i]? = some x → (x.f_Kind = 15 ∨ x.f_Kind = 16) → ∀ (j:Nat) v,x.f_A = (j:Int) → t.lens[j]? = some v → v.1 = v.2 ∧ v.1 ≤ 255
section
variable {n:Nat} {x0:Sl S_b} {t:Tm}
theorem right_loop {c1:T_ce} {c2:T_cQ} {c3:T_bX} (hl:Sl.l x0 = t.flat) (ht:t.At 0) (hs:t.size ≤ 500):∀ (d fuel i:Nat),i + d = t.size → d < fuel →
  ∃ r,b_9 c1 c2 c3 n x0 fuel (some (t.lens.map Prod.fst)) (some (t.lens.map Prod.snd)) (Sl.len x0) (i:Int) = some r ∧ (r = 0 ∨ r = 7) ∧ (r = 0 ↔ ∀ (i':Nat) x,i ≤ i' → t.flat[i']? = some x → (x.f_Kind = 15 ∨ x.f_Kind = 16) → ∀ (j:Nat) v,x.f_A = (j:Int) → t.lens[j]? = some v → v.1 = v.2 ∧ v.1 ≤ 255):=by
 have hlen:Sl.len x0 = (t.size:Int):=by simp [Sl.len,hl,Tm.flat_len]
 intro d
 induction d with
 | zero =>
  intro fuel i hi hf
  obtain ⟨fuel,rfl⟩:∃ m,fuel = m + 1:=⟨fuel - 1,by omega⟩
  rw [b_9,cfl (df (by omega))]
  refine ⟨0,rfl,.inl rfl,fun _ i' x hi' hx=>?_,fun _=>rfl⟩
  have:=(List.getElem?_eq_some_iff.1 hx).1
  rw [Tm.flat_len] at this; omega
 | succ d ih =>
  intro fuel i hi hf
  obtain ⟨fuel,rfl⟩:∃ m,fuel = m + 1:=⟨fuel - 1,by omega⟩
  have hif:i < t.flat.length:=by rw [Tm.flat_len]; omega
  have hx:=List.getElem?_eq_getElem hif
  have hx0:Sl.nth x0 i = t.flat[i]:=nth_l (by rw [hl]; exact hx)
  have K:=Tm.kid (d:=((0:Int),(0:Int))) (alg:=lenA) ht hx
  obtain ⟨r,hr1,hr2,hr3⟩:=ih fuel (i + 1) (by omega) (by omega)
  rw [b_9,ct (dt (by omega)),ck_ok (by rw [hl]; exact hif),Option.bind_some,hx0]
  generalize t.flat[i] = x at *
  have step:(∀ (j:Nat) v,(x.f_Kind = 15 ∨ x.f_Kind = 16) → x.f_A = (j:Int) → t.lens[j]? = some v → v.1 = v.2 ∧ v.1 ≤ 255) → (r = 0 ↔ ∀ (i':Nat) x,i ≤ i' → t.flat[i']? = some x → (x.f_Kind = 15 ∨ x.f_Kind = 16) → ∀ (j:Nat) v,x.f_A = (j:Int) → t.lens[j]? = some v → v.1 = v.2 ∧ v.1 ≤ 255):=fun hc=>by
   refine ⟨fun h i' y hi' hy hk j v hj hv=>?_,fun h=>hr3.2 fun i' y hi'=>h i' y (by omega)⟩
   rcases Nat.lt_or_ge i i' with h' | h'
   ·exact hr3.1 h i' y (by omega) hy hk j v hj hv
   ·obtain rfl:i' = i:=by omega
    rw [hx] at hy; injection hy with hy; subst hy
    exact hc j v hk hj hv
  by_cases k:x.f_Kind = 15 ∨ x.f_Kind = 16
  ·have f1:∀ {j:Nat} {v:Int × Int},t.lens[j]? = some v → (t.lens.map Prod.fst)[j]? = some v.1:=fun {j v} hv=>by rw [List.getElem?_map,hv]; rfl
   have f2:∀ {j:Nat} {v:Int × Int},t.lens[j]? = some v → (t.lens.map Prod.snd)[j]? = some v.2:=fun {j v} hv=>by rw [List.getElem?_map,hv]; rfl
   rcases K.at_ with ⟨h1,_⟩ | ⟨h1,j,v,h2,h3,h4,h5,h6⟩ | ⟨h1,_⟩
   ·rcases k with k | k <;> simp [kd,k] at h1
   case inr.inr=>rcases k with k | k <;> simp [kd,k] at h1
   have hj:j < t.lens.length:=(List.getElem?_eq_some_iff.1 h5).1
   rw [cfl (by rcases k with k | k <;> simp [k]),h3,Nat.zero_add,ck_ok (by simp [Sl.l]; exact hj),Option.bind_some,ck_ok (by simp [Sl.l]; exact hj),Option.bind_some,nth_l (x:=some (t.lens.map Prod.fst)) (f1 h5),nth_l (x:=some (t.lens.map Prod.snd)) (f2 h5)]
   by_cases hc:v.1 = v.2 ∧ v.1 ≤ 255
   ·rw [cfl (by simp [hc.1]; have:=hc.2; have:=hc.1; omega),b_bY,wp1 (by omega)]
    refine ⟨r,hr1,hr2,step fun j' v' _ hj' hv'=>?_⟩
    obtain rfl:j' = j:=by rw [h3] at hj'; omega
    rw [h5] at hv'; injection hv' with hv'; subst hv'; exact hc
   ·rw [ct (by
     simp only [Bool.or_eq_true,Bool.not_eq_true',decide_eq_false_iff_not,decide_eq_true_eq]
     by_cases h:v.1 = v.2
     ·exact .inr (by
      have:¬ (v.1 ≤ 255):=fun h'=>hc ⟨h,h'⟩
      omega)
     ·exact .inl h)]
    refine ⟨7,rfl,.inr rfl,fun h=>(by cases h),fun h=>(hc (h i x (Nat.le_refl _) hx k j v (by rw [h3,Nat.zero_add]) h5)).elim⟩
  ·rw [ct (by simp only [Bool.and_eq_true,Bool.not_eq_true',decide_eq_false_iff_not]; exact ⟨fun h=>k (.inl h),fun h=>k (.inr h)⟩),b_bY,wp1 (by omega)]
   exact ⟨r,hr1,hr2,step fun _ _ h=>(k h).elim⟩
structure RightT (l:List S_b) (t:Tm):Prop where
 tree:tree l = some t
 len:t.size ≤ 500
 dep:t.dep ≤ 40
 grp:groupedR l t.szs = true
 beh:BehOk t
theorem right_ok (hn:1300 ≤ n):∃ e,m_c2 n x0 = some e ∧ (e = 0 ↔ ∃ t,RightT (Sl.l x0) t):=by
 obtain ⟨n,rfl⟩:∃ m,n = m + 1:=⟨n - 1,by omega⟩
 simp only [m_c2,b_dH]
 rw [formed_ok (by omega),Option.bind_some]
 by_cases hf:formedR (Sl.l x0) = 0
 ·rw [cfl (by rw [dt hf]; rfl)]
  unfold formedR at hf
  split at hf
  ·cases hf
  rename_i hN
  cases ht:tree (Sl.l x0) with
  | none=>rw [ht] at hf; cases hf
  | some t =>
   rw [ht] at hf
   simp only at hf
   have hdep:t.dep ≤ 40:=by
    by_cases h:40 < t.dep
    ·rw [if_pos h] at hf; cases hf
    ·omega
   obtain ⟨hl,hA⟩:=tree_some ht
   have hs:t.size ≤ 500:=by rw [hl,Tm.flat_len] at hN; omega
   have uniq:∀ {t'},RightT (Sl.l x0) t' → t' = t:=fun h=>by have:=h.tree; rw [ht] at this; injection this with this; exact this.symm
   rw [grouped_ok (by omega) (by omega) ht,Option.bind_some]
   cases hg:groupedR (Sl.l x0) t.szs with
   | false =>
    refine ⟨6,rfl,fun h=>(by cases h),fun ⟨t',h⟩=>?_⟩
    have h2:=h.grp
    rw [uniq h,hg] at h2; cases h2
   | true =>
    rw [Bool.not_true,cond_false,lens_ok (by omega) (by omega) ht,Option.bind_some]
    obtain ⟨r,h1,h2,h3⟩:=right_loop (n:=n) (x0:=x0) (c1:=m_cd n) (c2:=m_cO n) (c3:=m_bZ n) hl hA hs t.size n 0 (by omega) (by omega)
    refine ⟨r,h1,h3.trans ⟨fun h=>⟨t,ht,hs,hdep,hg,fun i x=>h i x (by omega)⟩,fun ⟨t',h⟩ i x _=>by obtain rfl:=uniq h; exact h.beh i x⟩⟩
 ·rw [ct (by rw [df hf]; rfl)]
  refine ⟨_,rfl,fun h=>(hf h).elim,fun ⟨t,h⟩=>?_⟩
  unfold formedR
  have:=h.dep
  have hl:=(tree_some h.tree).1
  have hs:=h.len
  rw [if_neg (by rw [hl,Tm.flat_len]; omega),h.tree]
  simp only
  rw [if_neg (by omega)]
end
end Go.Proofs.YtaadjlpfdajggaaGreatDoor

set_option maxRecDepth 100000
set_option linter.unusedVariables false
set_option linter.unusedSimpArgs false
namespace Go.Proofs.YtaadjlpfdajggaaGreatDoor
open Go Go.AM
def W (P:Nat → Bool):S_d:=⟨⟨[wd P 0,wd P 1,wd P 2,wd P 3],rfl⟩⟩
theorem W_of (s:S_d) (h:∀ x ∈ s.f_W.l,InK .u64 x):∃ P,s = W P:=by
 obtain ⟨⟨l,hl⟩⟩:=s
 match l,hl,h with
 | [p,q,r,u],hl,h =>
  have one:∀ x:Int,InK .u64 x → ∃ f:Nat → Bool,∀ (P:Nat → Bool) (j:Nat),(∀ i,i < 64 → P (64 * j + i) = f i) → wd P j = x:=fun x hx=>by
   have hx1:0 ≤ x:=hx.1
   have hx2:x ≤ 18446744073709551615:=hx.2
   refine ⟨fun i=>x.toNat.testBit i,fun P j hP=>?_⟩
   have:x.toNat = bin 64 fun i=>P (64 * j + i):=bin_ext (by omega) fun i hi=>(hP i hi).symm
   rw [wd,← this]
   omega
  obtain ⟨f0,h0⟩:=one p (h p (by simp))
  obtain ⟨f1,h1⟩:=one q (h q (by simp))
  obtain ⟨f2,h2⟩:=one r (h r (by simp))
  obtain ⟨f3,h3⟩:=one u (h u (by simp))
  refine ⟨fun i=>if i < 64 then f0 i else if i < 128 then f1 (i - 64) else if i < 192 then f2 (i - 128) else f3 (i - 192),?_⟩
  unfold W
  rw [h0 _ 0 fun i hi=>?_,h1 _ 1 fun i hi=>?_,h2 _ 2 fun i hi=>?_,h3 _ 3 fun i hi=>?_]
  ·show (if 64 * 3 + i < 64 then f0 (64 * 3 + i) else if 64 * 3 + i < 128 then f1 (64 * 3 + i - 64) else if 64 * 3 + i < 192 then f2 (64 * 3 + i - 128) else f3 (64 * 3 + i - 192)) = f3 i
   rw [if_neg (show ¬ 64 * 3 + i < 64 by omega),if_neg (show ¬ 64 * 3 + i < 128 by omega),if_neg (show ¬ 64 * 3 + i < 192 by omega),show 64 * 3 + i - 192 = i by omega]
  ·show (if 64 * 2 + i < 64 then f0 (64 * 2 + i) else if 64 * 2 + i < 128 then f1 (64 * 2 + i - 64) else if 64 * 2 + i < 192 then f2 (64 * 2 + i - 128) else f3 (64 * 2 + i - 192)) = f2 i
   rw [if_neg (show ¬ 64 * 2 + i < 64 by omega),if_neg (show ¬ 64 * 2 + i < 128 by omega),if_pos (show 64 * 2 + i < 192 by omega),show 64 * 2 + i - 128 = i by omega]
  ·show (if 64 * 1 + i < 64 then f0 (64 * 1 + i) else if 64 * 1 + i < 128 then f1 (64 * 1 + i - 64) else if 64 * 1 + i < 192 then f2 (64 * 1 + i - 128) else f3 (64 * 1 + i - 192)) = f1 i
   rw [if_neg (show ¬ 64 * 1 + i < 64 by omega),if_pos (show 64 * 1 + i < 128 by omega),show 64 * 1 + i - 64 = i by omega]
  ·show (if 64 * 0 + i < 64 then f0 (64 * 0 + i) else if 64 * 0 + i < 128 then f1 (64 * 0 + i - 64) else if 64 * 0 + i < 192 then f2 (64 * 0 + i - 128) else f3 (64 * 0 + i - 192)) = f0 i
   rw [if_pos (show 64 * 0 + i < 64 by omega),show 64 * 0 + i = i by omega]
end Go.Proofs.YtaadjlpfdajggaaGreatDoor

set_option maxRecDepth 100000
set_option linter.unusedVariables false
set_option linter.unusedSimpArgs false
namespace Go.Proofs.YtaadjlpfdajggaaGreatDoor
open Go Go.AM
theorem low_form:∀ v:Nat,0 < v → ∃ m q,v = 2 ^ m * (2 * q + 1):=fun v=>by
 induction v using Nat.strongRecOn with
 | _ v ih =>
  intro hv
  rcases Nat.mod_two_eq_zero_or_one v with h | h
  ·obtain ⟨m,q,hm⟩:=ih (v / 2) (by omega) (by omega)
   refine ⟨m + 1,q,?_⟩
   rw [Nat.pow_succ,Nat.mul_comm (2 ^ m) 2,Nat.mul_assoc,← hm]; omega
  ·exact ⟨0,v / 2,by omega⟩
theorem low_and {v m q:Nat} (hv:v < 2 ^ 64) (h:v = 2 ^ m * (2 * q + 1)):m < 64 ∧ v.testBit m = true ∧ v &&& (2 ^ 64 - v) = 2 ^ m:=by
 have hp:0 < 2 ^ m:=Nat.two_pow_pos m
 have hm:m < 64:=by
  have h1:2 ^ m ≤ v:=by rw [h]; exact Nat.le_mul_of_pos_right _ (by omega)
  exact (Nat.pow_lt_pow_iff_right (by omega)).1 (Nat.lt_of_le_of_lt h1 hv)
 have b1:∀ i,v.testBit i = (decide (i ≥ m) && (2 * q + 1).testBit (i - m)):=fun i=>by rw [h,Nat.testBit_two_pow_mul]
 have e:v - 1 = 2 ^ m * (2 * q) + (2 ^ m - 1):=by rw [h,Nat.mul_add]; omega
 have b2:∀ i,(v - 1).testBit i = if i < m then (2 ^ m - 1).testBit i else (2 * q).testBit (i - m):=fun i=>by rw [e,Nat.testBit_two_pow_mul_add _ (by omega)]
 have hv0:0 < v:=by rw [h]; exact Nat.mul_pos hp (by omega)
 have b3:∀ i,(2 ^ 64 - v).testBit i = (decide (i < 64) && !(v - 1).testBit i):=fun i=>by
  rw [show v = (v - 1) + 1 by omega,Nat.testBit_two_pow_sub_succ (by omega)]; simp
 refine ⟨hm,by rw [b1]; simp,Nat.eq_of_testBit_eq fun i=>?_⟩
 rw [Nat.testBit_and,b1,b3,b2,Nat.testBit_two_pow]
 rcases Nat.lt_trichotomy i m with h1 | rfl | h1
 ·rw [decide_eq_false (by omega:¬ (i ≥ m)),decide_eq_false (by omega:¬ m = i)]; rfl
 ·simp [hm]
 ·rw [if_neg (by omega),decide_eq_true (by omega),decide_eq_false (by omega:¬ m = i)]
  obtain ⟨k,rfl⟩:∃ k,i = m + (k + 1):=⟨i - m - 1,by omega⟩
  rw [show m + (k + 1) - m = k + 1 by omega,Nat.testBit_succ,Nat.testBit_succ,show (2 * q + 1) / 2 = q by omega,show 2 * q / 2 = q by omega]
  cases q.testBit k <;> simp
def tzF (x:Int):Option Int:=(shrO .u64 (IntKind.u64.wrap (x * 285870213051353865)) 58).bind fun v4=>(ck 64 v4).bind fun j5=>some (IntKind.i64.wrap (tabN1 j5))
theorem tz_tab:(List.range 64).all (fun m=>decide (tzF ((2 ^ m:Nat):Int) = some (m:Int))) = true:=by kernel_rfl
theorem tz_ok {v:Nat} (h0:0 < v) (h1:v < 2 ^ 64):∃ m,m < 64 ∧ v.testBit m = true ∧ (∀ i,i < m → v.testBit i = false) ∧ ∀ n,1 ≤ n → m_Q n (v:Int) = some (m:Int):=by
 obtain ⟨m,q,h⟩:=low_form v h0
 obtain ⟨hm,ht,ha⟩:=low_and h1 h
 refine ⟨m,hm,ht,fun i hi=>by rw [h,Nat.testBit_two_pow_mul]; simp; omega,fun n hn=>?_⟩
 obtain ⟨n,rfl⟩:∃ m,n = m + 1:=⟨n - 1,by omega⟩
 have hw:IntKind.u64.wrap (0 - (v:Int)) = ((2 ^ 64 - v:Nat):Int):=by
  have e:IntKind.u64.wrap (0 - (v:Int)) = (0 - (v:Int)) % 18446744073709551616:=rfl
  rw [e]; omega
 have h64:(2:Nat) ^ 64 - v < 2 ^ 64:=by omega
 simp only [m_Q,b_bt]
 rw [show decide ((v:Int) = 0) = false from decide_eq_false (by omega),cond_false,hw,andI_nat h1 h64,ha]
 have:=List.all_eq_true.1 tz_tab m (List.mem_range.2 hm)
 exact of_decide_eq_true this
theorem ones_ok (x:Int):∃ v,(∀ n,1 ≤ n → m_b1 n x = some v) ∧ (x = 0 → v = 0):=by
 have h:∃ v,b_bc 0 x = some v:=by simp [b_bc,shrO]
 obtain ⟨v,hv⟩:=h
 refine ⟨v,fun n hn=>?_,fun h0=>?_⟩
 ·obtain ⟨n,rfl⟩:∃ m,n = m + 1:=⟨n - 1,by omega⟩
  exact hv
 ·subst h0
  have:b_bc 0 0 = some 0:=by kernel_rfl
  rw [this] at hv; injection hv with hv; exact hv.symm
theorem wd_nat (P:Nat → Bool) (j:Nat):∃ v:Nat,wd P j = v ∧ v < 2 ^ 64 ∧ ∀ m,m < 64 → v.testBit m = P (64 * j + m) :=
 ⟨_,rfl,bin_lt _ _,fun m hm=>by rw [bin_bit]; simp [hm]⟩
theorem len_ok (P:Nat → Bool):∃ v,(∀ n,10 ≤ n → m_b5 n (W P) = some v) ∧ ((∀ j,j < 4 → wd P j = 0) → v = 0):=by
 obtain ⟨v0,h0,z0⟩:=ones_ok (wd P 0)
 obtain ⟨v1,h1,z1⟩:=ones_ok (wd P 1)
 obtain ⟨v2,h2,z2⟩:=ones_ok (wd P 2)
 obtain ⟨v3,h3,z3⟩:=ones_ok (wd P 3)
 refine ⟨IntKind.i64.wrap (IntKind.i64.wrap (IntKind.i64.wrap (IntKind.i64.wrap (0 + v0) + v1) + v2) + v3),fun n hn=>?_,fun hz=>?_⟩
 ·obtain ⟨n,rfl⟩:∃ m,n = m + 10:=⟨n - 10,by omega⟩
  have c0:ck 4 0 = some 0:=rfl
  have c1:ck 4 (IntKind.i64.wrap (0 + 1)) = some 1:=rfl
  have c2:ck 4 (IntKind.i64.wrap (IntKind.i64.wrap (0 + 1) + 1)) = some 2:=rfl
  have c3:ck 4 (IntKind.i64.wrap (IntKind.i64.wrap (IntKind.i64.wrap (0 + 1) + 1) + 1)) = some 3:=rfl
  have d0:decide ((0:Int) < 4) = true:=rfl
  have d1:decide (IntKind.i64.wrap (0 + 1) < 4) = true:=rfl
  have d2:decide (IntKind.i64.wrap (IntKind.i64.wrap (0 + 1) + 1) < 4) = true:=rfl
  have d3:decide (IntKind.i64.wrap (IntKind.i64.wrap (IntKind.i64.wrap (0 + 1) + 1) + 1) < 4) = true:=rfl
  have d4:decide (IntKind.i64.wrap (IntKind.i64.wrap (IntKind.i64.wrap (IntKind.i64.wrap (0 + 1) + 1) + 1) + 1) < 4) = false:=rfl
  have n0:(W P).f_W.nth 0 = wd P 0:=rfl
  have n1:(W P).f_W.nth 1 = wd P 1:=rfl
  have n2:(W P).f_W.nth 2 = wd P 2:=rfl
  have n3:(W P).f_W.nth 3 = wd P 3:=rfl
  simp only [m_b5,b_cx,b_bC,d0,d1,d2,d3,d4,c0,c1,c2,c3,n0,n1,n2,n3,cond_true,cond_false,Option.bind_some,h0 (n + 9) (by omega),h1 (n + 9) (by omega),h2 (n + 9) (by omega),h3 (n + 9) (by omega)]
 ·rw [z0 (hz 0 (by omega)),z1 (hz 1 (by omega)),z2 (hz 2 (by omega)),z3 (hz 3 (by omega))]; rfl
theorem min_ok (P:Nat → Bool):∃ c b,(∀ n,10 ≤ n → m_U n (W P) = some (c,b)) ∧ 0 ≤ c ∧ c < 256 ∧ ((∀ j,j < 4 → wd P j = 0) ∨ P c.toNat = true):=by
 have c0:ck 4 0 = some 0:=rfl
 have c1:ck 4 (IntKind.i64.wrap (0 + 1)) = some 1:=rfl
 have c2:ck 4 (IntKind.i64.wrap (IntKind.i64.wrap (0 + 1) + 1)) = some 2:=rfl
 have c3:ck 4 (IntKind.i64.wrap (IntKind.i64.wrap (IntKind.i64.wrap (0 + 1) + 1) + 1)) = some 3:=rfl
 have d0:decide ((0:Int) < 4) = true:=rfl
 have d1:decide (IntKind.i64.wrap (0 + 1) < 4) = true:=rfl
 have d2:decide (IntKind.i64.wrap (IntKind.i64.wrap (0 + 1) + 1) < 4) = true:=rfl
 have d3:decide (IntKind.i64.wrap (IntKind.i64.wrap (IntKind.i64.wrap (0 + 1) + 1) + 1) < 4) = true:=rfl
 have d4:decide (IntKind.i64.wrap (IntKind.i64.wrap (IntKind.i64.wrap (IntKind.i64.wrap (0 + 1) + 1) + 1) + 1) < 4) = false:=rfl
 have n0:(W P).f_W.nth 0 = wd P 0:=rfl
 have n1:(W P).f_W.nth 1 = wd P 1:=rfl
 have n2:(W P).f_W.nth 2 = wd P 2:=rfl
 have n3:(W P).f_W.nth 3 = wd P 3:=rfl
 have one:∀ j,j < 4 → wd P j ≠ 0 → ∃ c,0 ≤ c ∧ c < 256 ∧ P c.toNat = true ∧ ∀ n,1 ≤ n → ∀ i:Int,i = j → (m_Q n (wd P j)).bind (fun v38=>some (IntKind.u8.wrap (IntKind.i64.wrap ((IntKind.i64.wrap (i * 64)) + v38)),true)) = some (c,true):=fun j hj h=>by
  obtain ⟨v,hv,hl,hb⟩:=wd_nat P j
  have hv0:0 < v:=by
   rcases Nat.eq_zero_or_pos v with h' | h'; · subst h'; exact (h hv).elim
   ·exact h'
  obtain ⟨m,hm,ht,_,hn⟩:=tz_ok hv0 hl
  refine ⟨((64 * j + m:Nat):Int),by omega,by omega,by rw [Int.toNat_natCast,← hb m hm,ht],fun n h1 i hi=>?_⟩
  subst hi
  rw [hv,hn n h1,Option.bind_some,w64 (n:=(j:Int) * 64) (by omega) (by omega),w64 (by omega) (by omega),wrap_u8 (by omega) (by omega)]
  simp; omega
 by_cases z0:wd P 0 = 0
 ·by_cases z1:wd P 1 = 0
  ·by_cases z2:wd P 2 = 0
   ·by_cases z3:wd P 3 = 0
    ·refine ⟨0,false,fun n hn=>?_,by omega,by omega,.inl fun j hj=>?_⟩
     ·obtain ⟨n,rfl⟩:∃ m,n = m + 10:=⟨n - 10,by omega⟩
      simp only [m_U,b_5,b_L,d0,d1,d2,d3,d4,c0,c1,c2,c3,n0,n1,n2,n3,cond_true,cond_false,Option.bind_some,z0,z1,z2,z3,decide_true,Bool.not_true]
     ·match j,hj with
      | 0,_=>exact z0
      | 1,_=>exact z1
      | 2,_=>exact z2
      | 3,_=>exact z3
    ·obtain ⟨c,h1,h2,h3,h4⟩:=one 3 (by omega) z3
     refine ⟨c,true,fun n hn=>?_,h1,h2,.inr h3⟩
     obtain ⟨n,rfl⟩:∃ m,n = m + 10:=⟨n - 10,by omega⟩
     simp only [m_U,b_5,b_L,d0,d1,d2,d3,d4,c0,c1,c2,c3,n0,n1,n2,n3,cond_true,cond_false,Option.bind_some,z0,z1,z2,decide_true,Bool.not_true,decide_eq_false z3,Bool.not_false]
     exact h4 (n + 9) (by omega) _ rfl
   ·obtain ⟨c,h1,h2,h3,h4⟩:=one 2 (by omega) z2
    refine ⟨c,true,fun n hn=>?_,h1,h2,.inr h3⟩
    obtain ⟨n,rfl⟩:∃ m,n = m + 10:=⟨n - 10,by omega⟩
    simp only [m_U,b_5,b_L,d0,d1,d2,d3,d4,c0,c1,c2,c3,n0,n1,n2,n3,cond_true,cond_false,Option.bind_some,z0,z1,decide_true,Bool.not_true,decide_eq_false z2,Bool.not_false]
    exact h4 (n + 9) (by omega) _ rfl
  ·obtain ⟨c,h1,h2,h3,h4⟩:=one 1 (by omega) z1
   refine ⟨c,true,fun n hn=>?_,h1,h2,.inr h3⟩
   obtain ⟨n,rfl⟩:∃ m,n = m + 10:=⟨n - 10,by omega⟩
   simp only [m_U,b_5,b_L,d0,d1,d2,d3,d4,c0,c1,c2,c3,n0,n1,n2,n3,cond_true,cond_false,Option.bind_some,z0,decide_true,Bool.not_true,decide_eq_false z1,Bool.not_false]
   exact h4 (n + 9) (by omega) _ rfl
 ·obtain ⟨c,h1,h2,h3,h4⟩:=one 0 (by omega) z0
  refine ⟨c,true,fun n hn=>?_,h1,h2,.inr h3⟩
  obtain ⟨n,rfl⟩:∃ m,n = m + 10:=⟨n - 10,by omega⟩
  simp only [m_U,b_5,b_L,d0,c0,n0,cond_true,cond_false,Option.bind_some,decide_eq_false z0,Bool.not_false]
  exact h4 (n + 9) (by omega) _ rfl
def orS (s t:S_d):S_d:=⟨⟨[orI .u64 (s.f_W.nth 0) (t.f_W.nth 0),orI .u64 (s.f_W.nth 1) (t.f_W.nth 1),orI .u64 (s.f_W.nth 2) (t.f_W.nth 2),orI .u64 (s.f_W.nth 3) (t.f_W.nth 3)],rfl⟩⟩
theorem or_ok {n:Nat} (s t:S_d) (h:10 ≤ n):m_br n s t = some (orS s t):=by
 have e:∀ (m:Nat) (a b c d:Int) (hl:[a,b,c,d].length = 4),m_br (m + 10) ⟨⟨[a,b,c,d],hl⟩⟩ t = some (orS ⟨⟨[a,b,c,d],hl⟩⟩ t):=fun m a b c d hl=>by kernel_rfl
 obtain ⟨⟨l,hl⟩⟩:=s
 match l,hl with
 | [a,b,c,d],hl =>
  have:=e (n - 10) a b c d hl
  rw [show n - 10 + 10 = n by omega] at this
  exact this
def allS:S_d:=W fun _=>true
theorem all_ok {n:Nat} (h:10 ≤ n):m_bL n = some allS:=by
 have e:∀ m,m_bL (m + 10) = some allS:=fun m=>by kernel_rfl
 have:=e (n - 10)
 rw [show n - 10 + 10 = n by omega] at this
 exact this
end Go.Proofs.YtaadjlpfdajggaaGreatDoor

set_option maxRecDepth 100000
set_option linter.unusedVariables false
set_option linter.unusedSimpArgs false
namespace Go.Proofs.YtaadjlpfdajggaaGreatDoor
open Go Go.AM
abbrev e0:ByteArray:=⟨#[]⟩
def WS (s:S_d):Prop:=∀ x ∈ s.f_W.l,InK .u64 x
def nothingK:S_a:=⟨⟨S_d.zero,true,false,e0⟩,true,true⟩
theorem nothing_ok {n:Nat} (h:1 ≤ n):m_4 n = some nothingK:=by
 obtain ⟨n,rfl⟩:∃ m,n = m + 1:=⟨n - 1,by omega⟩
 rfl
def bytK (s:S_d):S_a:=(m_P 30 s).getD nothingK
theorem bytes_all (s:S_d) (h:WS s):∃ k,(∀ n,30 ≤ n → m_P n s = some k) ∧ k.f_Facts.f_First = s ∧ k.f_Facts.f_Open = false ∧ k.f_Facts.f_Fast = false ∧ k.f_none = false ∧
  (k.f_Facts.f_Prefix = e0 ∧ k.f_whole = false ∨ k.f_whole = true ∧ ∃ c:Int,0 ≤ c ∧ c < 256 ∧ B k.f_Facts.f_Prefix = [c] ∧ ∃ P,s = W P ∧ P c.toNat = true):=by
 obtain ⟨P,rfl⟩:=W_of s h
 obtain ⟨v,h1,z1⟩:=len_ok P
 obtain ⟨c,b,h2,c0,c1,z2⟩:=min_ok P
 by_cases hv:v = 1
 ·have hP:P c.toNat = true:=by
   rcases z2 with z | z
   ·have:=z1 z; omega
   ·exact z
  refine ⟨⟨⟨W P,false,false,strOf (some [c])⟩,true,false⟩,fun n hn=>?_,rfl,rfl,rfl,rfl,.inr ⟨rfl,c,c0,c1,B_strOf (by simpa using ⟨c0,c1⟩),P,rfl,hP⟩⟩
  ·obtain ⟨n,rfl⟩:∃ m,n = m + 1:=⟨n - 1,by omega⟩
   simp only [m_P,b_cr,b_bz,h1 n (by omega),h2 n (by omega),Option.bind_some,hv,decide_true,cond_true]
   rfl
 ·refine ⟨⟨⟨W P,false,false,e0⟩,false,false⟩,fun n hn=>?_,rfl,rfl,rfl,rfl,.inl ⟨rfl,rfl⟩⟩
  obtain ⟨n,rfl⟩:∃ m,n = m + 1:=⟨n - 1,by omega⟩
  simp only [m_P,b_cr,b_bz,h1 n (by omega),h2 n (by omega),Option.bind_some,decide_eq_false hv,cond_false]
  rfl
theorem bytes_eq {s:S_d} {k:S_a} (h:∀ n,30 ≤ n → m_P n s = some k):bytK s = k:=by rw [bytK,h 30 (by omega)]; rfl
def cutK (k:S_a):S_a:=if 100 < k.f_Facts.f_Prefix.size then { k with f_Facts:={ k.f_Facts with f_Prefix:=k.f_Facts.f_Prefix.extract 0 100 },f_whole:=false } else k
theorem cut_ok {n:Nat} (k:S_a) (h:1 ≤ n):m_bE n k = some (cutK k):=by
 obtain ⟨n,rfl⟩:∃ m,n = m + 1:=⟨n - 1,by omega⟩
 simp only [m_bE,b_ca,b_bp,cutK]
 by_cases hs:100 < k.f_Facts.f_Prefix.size
 ·rw [ct (dt (by omega)),if_pos hs,sub,if_pos ⟨by omega,by omega,by omega⟩]; rfl
 ·rw [cfl (df (by omega)),if_neg hs]
def catK (a b:S_a):S_a :=
 cutK ⟨⟨if a.f_Facts.f_Open then orS a.f_Facts.f_First b.f_Facts.f_First else a.f_Facts.f_First,a.f_Facts.f_Open && b.f_Facts.f_Open,a.f_Facts.f_Fast || (b.f_Facts.f_Fast && a.f_none),if a.f_whole then a.f_Facts.f_Prefix ++ b.f_Facts.f_Prefix else a.f_Facts.f_Prefix⟩,a.f_whole && b.f_whole,a.f_none && b.f_none⟩
theorem cat_ok {n:Nat} (a b:S_a) (h:20 ≤ n) (ha:a.f_Facts.f_Prefix.size ≤ 100) (hb:b.f_Facts.f_Prefix.size ≤ 100):m_bK n a b = some (catK a b):=by
 obtain ⟨n,rfl⟩:∃ m,n = m + 1:=⟨n - 1,by omega⟩
 simp only [m_bK,b_dC,b_cp,b_cq,catK]
 cases ho:a.f_Facts.f_Open <;> cases hw:a.f_whole
 ·simp only [cond_false,cut_ok _ (show 1 ≤ n by omega),Option.bind_some]; rfl
 ·simp only [cond_false,cond_true,sadd_eq (show a.f_Facts.f_Prefix.size + b.f_Facts.f_Prefix.size < 9000000000000000000 by omega),cut_ok _ (show 1 ≤ n by omega),Option.bind_some]; rfl
 ·simp only [cond_false,cond_true,or_ok _ _ (show 10 ≤ n by omega),cut_ok _ (show 1 ≤ n by omega),Option.bind_some]; rfl
 ·simp only [cond_false,cond_true,or_ok _ _ (show 10 ≤ n by omega),sadd_eq (show a.f_Facts.f_Prefix.size + b.f_Facts.f_Prefix.size < 9000000000000000000 by omega),cut_ok _ (show 1 ≤ n by omega),Option.bind_some]; rfl
def altK (a b:S_a):S_a:=⟨⟨orS a.f_Facts.f_First b.f_Facts.f_First,a.f_Facts.f_Open || b.f_Facts.f_Open,a.f_Facts.f_Fast && b.f_Facts.f_Fast,e0⟩,false,a.f_none && b.f_none⟩
theorem alt_ok {n:Nat} (a b:S_a) (h:20 ≤ n):m_bM n a b = some (altK a b):=by
 obtain ⟨n,rfl⟩:∃ m,n = m + 1:=⟨n - 1,by omega⟩
 simp only [m_bM,b_dE,or_ok _ _ (show 10 ≤ n by omega),Option.bind_some]; rfl
def repK (x:S_b) (a:S_a):S_a :=
 if x.f_Max = 0 then nothingK else ⟨⟨a.f_Facts.f_First,a.f_Facts.f_Open || decide (x.f_Min = 0),a.f_Facts.f_Fast && decide (0 < x.f_Min),if 0 < x.f_Min then a.f_Facts.f_Prefix else e0⟩,(a.f_whole && decide (x.f_Min = 1)) && decide (x.f_Max = 1),a.f_none⟩
theorem rep_ok {n:Nat} (x:S_b) (a:S_a) (h:2 ≤ n):m_bb n x a = some (repK x a):=by
 obtain ⟨n,rfl⟩:∃ m,n = m + 1:=⟨n - 1,by omega⟩
 simp only [m_bb,b_cL,b_co,b_bP,nothing_ok (show 1 ≤ n by omega),Option.bind_some,repK]
 by_cases h0:x.f_Max = 0
 ·rw [ct (dt h0),if_pos h0]
 ·rw [cfl (df h0),if_neg h0]
  by_cases h1:0 < x.f_Min
  ·rw [ct (dt h1),if_pos h1]
  ·rw [cfl (df h1),if_neg h1]
def facA (x:S_b) (v w:S_a):S_a :=
 if x.f_Kind = 1 then bytK x.f_Set else if x.f_Kind = 2 then ⟨⟨S_d.zero,true,true,e0⟩,true,true⟩ else if x.f_Kind = 12 then ⟨⟨allS,true,false,e0⟩,false,false⟩
 else if x.f_Kind = 8 then catK v w else if x.f_Kind = 9 then altK v w else if x.f_Kind = 10 then repK x v else if x.f_Kind = 11 ∨ x.f_Kind = 17 then v else nothingK
abbrev Tm.facs (t:Tm):List S_a:=t.vals nothingK facA
abbrev Tm.fac (t:Tm):S_a:=t.val nothingK facA
theorem Tm.vals_all {β:Type} {d:β} {alg:S_b → β → β → β} {Q:β → Prop} {R:S_b → Prop} (h0:∀ x,R x → kd x.f_Kind = 0 → Q (alg x d d)) (h1:∀ x v,R x → kd x.f_Kind = 1 → Q v → Q (alg x v d)) (h2:∀ x v w,R x → kd x.f_Kind = 2 → Q v → Q w → Q (alg x v w)) :
  ∀ {t:Tm} {k:Nat},t.At k → (∀ x ∈ t.flat,R x) → Q (t.val d alg) ∧ ∀ v ∈ t.vals d alg,Q v
 | .leaf n,k,h,hr=>by
  have:=h0 n (hr n (by simp [Tm.flat])) h.2.1
  exact ⟨this,fun v hv=>by simp [Tm.vals] at hv; rw [hv]; exact this⟩
 | .one n t,k,h,hr=>by
  obtain ⟨g1,g2⟩:=Tm.vals_all (Q:=Q) h0 h1 h2 h.1 fun x hx=>hr x (by simp [Tm.flat,hx])
  have:=h1 n _ (hr n (by simp [Tm.flat])) h.2.2.1 g1
  refine ⟨this,fun v hv=>?_⟩
  simp only [Tm.vals,List.mem_append,List.mem_singleton] at hv
  rcases hv with hv | rfl
  ·exact g2 v hv
  ·exact this
 | .two n a b,k,h,hr=>by
  obtain ⟨g1,g2⟩:=Tm.vals_all (Q:=Q) h0 h1 h2 h.1 fun x hx=>hr x (by simp [Tm.flat,hx])
  obtain ⟨g3,g4⟩:=Tm.vals_all (Q:=Q) h0 h1 h2 h.2.1 fun x hx=>hr x (by simp [Tm.flat,hx])
  have:=h2 n _ _ (hr n (by simp [Tm.flat])) h.2.2.2.1 g1 g3
  refine ⟨this,fun v hv=>?_⟩
  simp only [Tm.vals,List.mem_append,List.mem_singleton] at hv
  rcases hv with (hv | hv) | rfl
  ·exact g2 v hv
  ·exact g4 v hv
  ·exact this
def SetIn (x:S_b):Prop:=WS x.f_Set
theorem cutK_size (k:S_a):(cutK k).f_Facts.f_Prefix.size ≤ 100:=by
 unfold cutK
 split
 ·simp [ByteArray.size_extract]; omega
 ·omega
theorem fac_size {x:S_b} {v w:S_a} (hx:SetIn x) (hv:v.f_Facts.f_Prefix.size ≤ 100):(facA x v w).f_Facts.f_Prefix.size ≤ 100:=by
 unfold facA
 split
 ·obtain ⟨k,h1,h2,h3,h4,h5,h6⟩:=bytes_all x.f_Set hx
  rw [bytes_eq h1]
  rcases h6 with ⟨h6,_⟩ | ⟨_,c,_,_,h6,_⟩
  ·rw [h6]; exact Nat.zero_le 100
  ·rw [← B_len,h6]; simp
 split
 ·exact Nat.zero_le 100
 split
 ·exact Nat.zero_le 100
 split
 ·exact cutK_size _
 split
 ·exact Nat.zero_le 100
 split
 ·unfold repK
  split
  ·exact Nat.zero_le 100
  ·simp only; split
   ·exact hv
   ·exact Nat.zero_le 100
 split
 ·exact hv
 ·exact Nat.zero_le 100
theorem facs_size {t:Tm} {k:Nat} (h:t.At k) (hs:∀ x ∈ t.flat,SetIn x):∀ v ∈ t.facs,v.f_Facts.f_Prefix.size ≤ 100 :=
 (Tm.vals_all (Q:=fun v:S_a=>v.f_Facts.f_Prefix.size ≤ 100) (R:=SetIn) (fun x hx _=>fac_size (v:=nothingK) hx (Nat.zero_le 100)) (fun x v hx _ hv=>fac_size hx hv) (fun x v w hx _ hv _=>fac_size hx hv) h hs).2
section
variable {n:Nat} {x0:Sl S_b} {t:Tm}
theorem all_loop (hn:100 ≤ n) (hN:(Sl.l x0).length ≤ 500) (hl:Sl.l x0 = t.flat) (ht:t.At 0) (hS:∀ x ∈ t.flat,SetIn x):∀ (d fuel i:Nat),i + d = t.size → d < fuel →
  b_A (m_P n) (m_4 n) (m_bL n) (m_bK n) (m_bM n) (m_bb n) n x0 fuel (pf t.facs S_a.zero i) (Sl.len x0) (i:Int) = some (some t.facs):=by
 have hlen:Sl.len x0 = (t.size:Int):=by simp [Sl.len,hl,Tm.flat_len]
 have hs:t.size ≤ 500:=by rw [hl,Tm.flat_len] at hN; exact hN
 have hvl:t.facs.length = t.size:=t.vals_len _ _
 have hsz:=facs_size ht hS
 intro d
 induction d with
 | zero =>
  intro fuel i hi hf
  obtain ⟨fuel,rfl⟩:∃ m,fuel = m + 1:=⟨fuel - 1,by omega⟩
  obtain rfl:i = t.size:=by omega
  rw [b_A,cfl (df (by omega)),← hvl,pf_end]
 | succ d ih =>
  intro fuel i hi hf
  obtain ⟨fuel,rfl⟩:∃ m,fuel = m + 1:=⟨fuel - 1,by omega⟩
  have hif:i < t.flat.length:=by rw [Tm.flat_len]; omega
  have hx:=List.getElem?_eq_getElem hif
  have hx0:Sl.nth x0 i = t.flat[i]:=nth_l (by rw [hl]; exact hx)
  have hSx:SetIn t.flat[i]:=hS _ (List.getElem_mem hif)
  have K:=Tm.kid (d:=nothingK) (alg:=facA) ht hx
  rw [b_A,ct (dt (by omega)),ck_ok (by rw [hl]; exact hif),Option.bind_some,hx0]
  have hck:∀ {j:Nat} {v:S_a},t.facs[j]? = some v → ck (Sl.l (pf t.facs S_a.zero i)).length ((0 + j:Nat):Int) = some j:=fun {j v} hv=>by
   rw [pf_len (by omega),Nat.zero_add]; exact ck_ok (List.getElem?_eq_some_iff.1 hv).1
  have hci:ck (Sl.l (pf t.facs S_a.zero i)).length (i:Int) = some i:=by rw [pf_len (by omega)]; exact ck_ok (by omega)
  have go:=ih fuel (i + 1) (by omega) (by omega)
  have sz:∀ {j:Nat} {v:S_a},t.facs[j]? = some v → v.f_Facts.f_Prefix.size ≤ 100:=fun {j v} hv=>hsz v (List.mem_iff_getElem?.2 ⟨j,hv⟩)
  generalize t.flat[i] = x at *
  by_cases k1:x.f_Kind = 1
  ·obtain ⟨k,hk,_⟩:=bytes_all x.f_Set hSx
   have hv:t.facs[i]? = some k:=by
    have e:∀ v w,facA x v w = k:=fun v w=>by simp only [facA,if_pos k1,bytes_eq hk]
    rcases K.at_ with ⟨h1,h2,h3,h4⟩ | ⟨h1,j,v,h2,h3,h4,h5,h6⟩ | ⟨h1,j,m,v,w,h2,h3,h4,h5,h6,h7,h8⟩
    ·rw [h4,e]
    ·rw [h6,e]
    ·rw [h8,e]
   rw [ct (dt k1),hk n (by omega),Option.bind_some,hci,Option.bind_some,b_z,wp1 (by omega),pf_put hv]; exact go
  rw [cfl (df k1)]
  by_cases k2:x.f_Kind = 2
  ·have hv:t.facs[i]? = some ⟨⟨S_d.zero,true,true,e0⟩,true,true⟩:=by
    have e:∀ v w,facA x v w = ⟨⟨S_d.zero,true,true,e0⟩,true,true⟩:=fun v w=>by simp only [facA,if_neg k1,if_pos k2]
    rcases K.at_ with ⟨h1,h2,h3,h4⟩ | ⟨h1,j,v,h2,h3,h4,h5,h6⟩ | ⟨h1,j,m,v,w,h2,h3,h4,h5,h6,h7,h8⟩
    ·rw [h4,e]
    ·rw [h6,e]
    ·rw [h8,e]
   rw [ct (dt k2),nothing_ok (by omega),Option.bind_some,hci,Option.bind_some,b_z,wp1 (by omega),put_put,nth_put_eq (by rw [pf_len (by omega)]; omega)]
   have e2:S_a.w0 nothingK (S_c.w2 nothingK.f_Facts true) = ⟨⟨S_d.zero,true,true,e0⟩,true,true⟩:=rfl
   rw [e2,pf_put hv]
   rw [nothing_ok (by omega)] at go; exact go
  rw [cfl (df k2)]
  by_cases k3:x.f_Kind = 12
  ·have hv:t.facs[i]? = some ⟨⟨allS,true,false,e0⟩,false,false⟩:=by
    have e:∀ v w,facA x v w = ⟨⟨allS,true,false,e0⟩,false,false⟩:=fun v w=>by simp only [facA,if_neg k1,if_neg k2,if_pos k3]
    rcases K.at_ with ⟨h1,h2,h3,h4⟩ | ⟨h1,j,v,h2,h3,h4,h5,h6⟩ | ⟨h1,j,m,v,w,h2,h3,h4,h5,h6,h7,h8⟩
    ·rw [h4,e]
    ·rw [h6,e]
    ·rw [h8,e]
   rw [ct (dt k3),all_ok (by omega),Option.bind_some,hci,Option.bind_some,b_z,wp1 (by omega)]
   have e2:({ S_a.zero with f_Facts:=({ S_c.zero with f_First:=allS,f_Open:=true }:S_c) }:S_a) = ⟨⟨allS,true,false,e0⟩,false,false⟩:=rfl
   rw [e2,pf_put hv]
   rw [all_ok (by omega)] at go; exact go
  rw [cfl (df k3)]
  by_cases k4:x.f_Kind = 8
  ·rcases K.at_ with ⟨h1,_⟩ | ⟨h1,_⟩ | ⟨h1,j,m,v,w,h2,h3,h4,h5,h6,h7,h8⟩
   ·simp [kd,k4] at h1
   ·simp [kd,k4] at h1
   have hv:t.facs[i]? = some (catK v w):=by rw [h8]; simp [facA,k4]
   rw [ct (dt k4),h4,hck h6,Option.bind_some,h5,hck h7,Option.bind_some,pf_nth h2 h6,pf_nth h3 h7,cat_ok _ _ (by omega) (sz h6) (sz h7),Option.bind_some,hci,Option.bind_some,b_z,wp1 (by omega),pf_put hv]
   exact go
  rw [cfl (df k4)]
  by_cases k5:x.f_Kind = 9
  ·rcases K.at_ with ⟨h1,_⟩ | ⟨h1,_⟩ | ⟨h1,j,m,v,w,h2,h3,h4,h5,h6,h7,h8⟩
   ·simp [kd,k5] at h1
   ·simp [kd,k5] at h1
   have hv:t.facs[i]? = some (altK v w):=by rw [h8]; simp [facA,k5]
   rw [ct (dt k5),h4,hck h6,Option.bind_some,h5,hck h7,Option.bind_some,pf_nth h2 h6,pf_nth h3 h7,alt_ok _ _ (by omega),Option.bind_some,hci,Option.bind_some,b_z,wp1 (by omega),pf_put hv]
   exact go
  rw [cfl (df k5)]
  by_cases k6:x.f_Kind = 10
  ·rcases K.at_ with ⟨h1,_⟩ | ⟨h1,j,v,h2,h3,h4,h5,h6⟩ | ⟨h1,_⟩
   ·simp [kd,k6] at h1
   case inr.inr=>simp [kd,k6] at h1
   have hv:t.facs[i]? = some (repK x v):=by rw [h6]; simp [facA,k6]
   rw [ct (dt k6),h3,hck h5,Option.bind_some,pf_nth h2 h5,rep_ok _ _ (by omega),Option.bind_some,hci,Option.bind_some,b_z,wp1 (by omega),pf_put hv]
   exact go
  rw [cfl (df k6)]
  by_cases k7:x.f_Kind = 11 ∨ x.f_Kind = 17
  ·rcases K.at_ with ⟨h1,_⟩ | ⟨h1,j,v,h2,h3,h4,h5,h6⟩ | ⟨h1,_⟩
   ·rcases k7 with k7 | k7 <;> simp [kd,k7] at h1
   case inr.inr=>rcases k7 with k7 | k7 <;> simp [kd,k7] at h1
   have hv:t.facs[i]? = some v:=by rw [h6]; rcases k7 with k7 | k7 <;> simp [facA,k7]
   have fin:b_bA (m_P n) (m_4 n) (m_bL n) (m_bK n) (m_bM n) (m_bb n) n (b_A (m_P n) (m_4 n) (m_bL n) (m_bK n) (m_bM n) (m_bb n) n x0 fuel) x0 (pf t.facs S_a.zero i) i x (Sl.len x0) i true = some (some t.facs):=by
    rw [b_bA,cond_true,h3,hck h5,Option.bind_some,hci,Option.bind_some,b_z,wp1 (by omega),pf_nth h2 h5,pf_put hv]
    exact go
   by_cases k8:x.f_Kind = 11
   ·rw [ct (dt k8),dt k8]; exact fin
   ·rw [cfl (df k8),dt (k7.resolve_left k8)]; exact fin
  rw [cfl (df fun h=>k7 (.inl h)),df fun h=>k7 (.inr h),b_bA,cond_false,nothing_ok (by omega),Option.bind_some,hci,Option.bind_some,b_z,wp1 (by omega)]
  have hv:t.facs[i]? = some nothingK:=by
   have e:∀ v w,facA x v w = nothingK:=fun v w=>by simp only [facA,if_neg k1,if_neg k2,if_neg k3,if_neg k4,if_neg k5,if_neg k6,if_neg k7]
   rcases K.at_ with ⟨h1,h2,h3,h4⟩ | ⟨h1,j,v,h2,h3,h4,h5,h6⟩ | ⟨h1,j,m,v,w,h2,h3,h4,h5,h6,h7,h8⟩
   ·rw [h4,e]
   ·rw [h6,e]
   ·rw [h8,e]
  rw [pf_put hv]
  rw [nothing_ok (by omega)] at go; exact go
theorem facall_ok (hn:600 ≤ n) (hN:(Sl.l x0).length ≤ 500) (ht:tree (Sl.l x0) = some t) (hS:∀ x ∈ Sl.l x0,SetIn x):m_c0 n x0 = some (some t.facs):=by
 obtain ⟨n,rfl⟩:∃ m,n = m + 1:=⟨n - 1,by omega⟩
 obtain ⟨hl,hA⟩:=tree_some ht
 have hs:t.size ≤ 500:=by rw [hl,Tm.flat_len] at hN; exact hN
 simp only [m_c0,b_dy]
 have:=all_loop (n:=n) (by omega) hN hl hA (hl ▸ hS) t.size n 0 (by omega) (by omega)
 rw [show Sl.len x0 = ((t.size:Nat):Int) by simp [Sl.len,hl,Tm.flat_len]] at this ⊢
 rw [make_ok (Nat.le_refl _) (by omega) (by omega),Option.bind_some]
 rw [pf_0,Tm.vals_len] at this
 exact this
theorem of_ok (hn:1400 ≤ n) (hS:∀ x ∈ Sl.l x0,SetIn x):(∃ t,RightT (Sl.l x0) t ∧ m_bG n x0 = some (t.fac.f_Facts,0)) ∨ (∃ e,e ≠ 0 ∧ (¬ ∃ t,RightT (Sl.l x0) t) ∧ m_bG n x0 = some (S_c.zero,e)):=by
 obtain ⟨n,rfl⟩:∃ m,n = m + 1:=⟨n - 1,by omega⟩
 obtain ⟨e,h1,h2⟩:=right_ok (n:=n) (x0:=x0) (by omega)
 simp only [m_bG,b_d4]
 rw [h1,Option.bind_some]
 by_cases he:e = 0
 ·obtain ⟨t,ht⟩:=h2.1 he
  obtain ⟨hl,hA⟩:=tree_some ht.tree
  have hs:=ht.len
  have hp:=t.pos
  refine .inl ⟨t,ht,?_⟩
  rw [cfl (by rw [dt he]; rfl),facall_ok (by omega) (by rw [hl,Tm.flat_len]; exact hs) ht.tree hS,Option.bind_some]
  have hlen:Sl.len x0 = (t.size:Int):=by simp [Sl.len,hl,Tm.flat_len]
  rw [hlen,w64 (by omega) (by omega),ck_int (by omega) (by simp [Sl.l,Tm.vals_len]; omega),Option.bind_some,show ((t.size:Int) - 1).toNat = t.size - 1 by omega,nth_l (v:=t.fac) (t.vals_last _ _)]
 ·refine .inr ⟨e,he,fun h=>he (h2.2 h),?_⟩
  rw [ct (by rw [df he]; rfl)]
end
end Go.Proofs.YtaadjlpfdajggaaGreatDoor

set_option maxRecDepth 100000
set_option linter.unusedVariables false
set_option linter.unusedSimpArgs false
namespace Go.Proofs.YtaadjlpfdajggaaGreatDoor
open Go Go.AM
def NodeIn (s:S_b):Prop:=(InK .i64 s.f_Kind) ∧ (InK .i64 s.f_A) ∧ (InK .i64 s.f_B) ∧ ((∀ x ∈ s.f_Set.f_W.l,InK .u64 x) ∧ True) ∧ (InK .i64 s.f_Min) ∧ (InK .i64 s.f_Max) ∧ (InK .i64 s.f_Mode) ∧ (InK .i64 s.f_N) ∧ (True) ∧ True
def TreeIn (t:Sl S_b):Prop:=∀ l,t = some l → l.length ≤ maxLen ∧ ∀ y ∈ l,NodeIn y
theorem TreeIn.set {y:Sl S_b} (h:TreeIn y):∀ x ∈ Sl.l y,SetIn x:=fun x hx=>by
 cases y with
 | none=>simp [Sl.l] at hx
 | some l=>exact (h l rfl).2 x hx |>.2.2.2.1.1
theorem cutT {n:Nat} {x:Sl S_b} (hn:1 ≤ n) (hx:TreeIn x) (m:Nat):∃ y,m_b8 n x (m:Int) = some y ∧ (Sl.l y).length ≤ m ∧ TreeIn y:=by
 obtain ⟨n,rfl⟩:∃ m,n = m + 1:=⟨n - 1,by omega⟩
 simp only [m_b8,b_c1,Sl.upto]
 rw [if_pos ⟨by simp only [Sl.len]; omega,by omega⟩]
 refine ⟨_,rfl,?_,?_⟩
 ·cases x with
  | none=>simp [Sl.l]
  | some l=>simp [Sl.l,Sl.len]; omega
 ·intro l hl
  cases x with
  | none=>cases hl
  | some l' =>
   simp at hl; subst hl
   obtain ⟨h1,h2⟩:=hx l' rfl
   exact ⟨by simp; omega,fun y hy=>h2 y (List.mem_of_mem_take hy)⟩
theorem of_right {n:Nat} {x0:Sl S_b} {t:Tm} (hn:1400 ≤ n) (hS:∀ x ∈ Sl.l x0,SetIn x) (h:RightT (Sl.l x0) t):m_bG n x0 = some (t.fac.f_Facts,0):=by
 rcases of_ok hn hS with ⟨t',h1,h2⟩ | ⟨e,_,hno,_⟩
 ·have:=h1.tree; rw [h.tree] at this; injection this with this; subst this; exact h2
 ·exact (hno ⟨t,h⟩).elim
theorem deep_right {n:Nat} {x0:Sl S_b} {t:Tm} (hn:1200 ≤ n) (h:RightT (Sl.l x0) t):m_cS n x0 = some t.dep:=by
 rw [deep_ok hn,deepR]
 have hl:=(tree_some h.tree).1
 have hs:=h.len
 rw [if_neg (by rw [hl,Tm.flat_len]; omega),h.tree]
end Go.Proofs.YtaadjlpfdajggaaGreatDoor

set_option maxRecDepth 100000
set_option linter.unusedVariables false
set_option linter.unusedSimpArgs false
namespace Go.Proofs.YtaadjlpfdajggaaGreatDoor
open Go Go.AM
def shN (k:Nat) (x:S_b):S_b :=
 if kd x.f_Kind = 0 then x else if kd x.f_Kind = 1 then { x with f_A:=x.f_A + k } else { x with f_A:=x.f_A + k,f_B:=x.f_B + k }
theorem fits_ab (x:S_b) (a b:Int):fitsB { x with f_A:=a,f_B:=b } = fitsB x:=rfl
theorem sh_kind (k:Nat) (x:S_b):(shN k x).f_Kind = x.f_Kind:=by
 unfold shN
 split
 ·rfl
 ·split <;> rfl
theorem sh_rest (k:Nat) (x:S_b):∃ a b,shN k x = { x with f_A:=a,f_B:=b }:=by
 unfold shN
 split
 ·exact ⟨x.f_A,x.f_B,rfl⟩
 ·split
  ·exact ⟨x.f_A + k,x.f_B,rfl⟩
  ·exact ⟨_,_,rfl⟩
theorem sh_fits (k:Nat) (x:S_b):fitsB (shN k x) = fitsB x:=by obtain ⟨a,b,h⟩:=sh_rest k x; rw [h]; exact fits_ab x a b
def shT (k:Nat):Tm → Tm
 | .leaf n=>.leaf (shN k n)
 | .one n t=>.one (shN k n) (shT k t)
 | .two n a b=>.two (shN k n) (shT k a) (shT k b)
theorem sh_flat (k:Nat):∀ t:Tm,(shT k t).flat = t.flat.map (shN k)
 | .leaf n=>rfl
 | .one n t=>by simp [shT,Tm.flat,sh_flat k t]
 | .two n a b=>by simp [shT,Tm.flat,sh_flat k a,sh_flat k b]
theorem sh_size (k:Nat):∀ t:Tm,(shT k t).size = t.size
 | .leaf n=>rfl
 | .one n t=>by simp [shT,Tm.size,sh_size k t]
 | .two n a b=>by simp [shT,Tm.size,sh_size k a,sh_size k b]
theorem sh_at (k:Nat):∀ {t:Tm} {m:Nat},t.At m → (shT k t).At (k + m)
 | .leaf n,m,h=>by
  obtain ⟨h1,h2,h3,h4⟩:=h
  have e:shN k n = n:=by simp [shN,h2]
  simp only [shT,e]; exact ⟨h1,h2,h3,h4⟩
 | .one n t,m,h=>by
  obtain ⟨h1,h2,h3,h4,h5⟩:=h
  have e:shN k n = { n with f_A:=n.f_A + k }:=by simp [shN,h3]
  refine ⟨sh_at k h1,by rw [sh_fits]; exact h2,by rw [sh_kind]; exact h3,?_,by rw [e]; exact h5⟩
  rw [e,sh_size]
  show n.f_A + k + 1 = _
  omega
 | .two n a b,m,h=>by
  obtain ⟨h1,h2,h3,h4,h5,h6⟩:=h
  have e:shN k n = { n with f_A:=n.f_A + k,f_B:=n.f_B + k }:=by simp [shN,h4]
  refine ⟨sh_at k h1,?_,by rw [sh_fits]; exact h3,by rw [sh_kind]; exact h4,?_,?_⟩
  ·have:=sh_at k h2
   rw [sh_size,Nat.add_assoc]; exact this
  ·rw [e,sh_size]
   show n.f_A + k + 1 = _
   omega
  ·rw [e,sh_size,sh_size]
   show n.f_B + k + 1 = _
   omega
theorem sh_vals {β:Type} {d:β} {alg:S_b → β → β → β} (k:Nat) (ha:∀ x v w,alg (shN k x) v w = alg x v w):∀ t:Tm,(shT k t).val d alg = t.val d alg ∧ (shT k t).vals d alg = t.vals d alg
 | .leaf n=>by simp [shT,Tm.val,Tm.vals,ha]
 | .one n t=>by simp [shT,Tm.val,Tm.vals,ha,sh_vals k ha t]
 | .two n a b=>by simp [shT,Tm.val,Tm.vals,ha,sh_vals k ha a,sh_vals k ha b]
theorem sh_dep (k:Nat) (x:S_b) (v w:Int):depA (shN k x) v w = depA x v w:=by simp only [depA,sh_kind]
theorem sh_len (k:Nat) (x:S_b) (v w:Int × Int):lenA (shN k x) v w = lenA x v w:=by obtain ⟨a,b,h⟩:=sh_rest k x; rw [h]; rfl
theorem sh_fac (k:Nat) (x:S_b) (v w:S_a):facA (shN k x) v w = facA x v w:=by obtain ⟨a,b,h⟩:=sh_rest k x; rw [h]; rfl
theorem gix_nil:∀ {l:List S_b} {i:Nat},gix i l = [] ↔ ∀ x ∈ l,x.f_Kind ≠ 11
 | [],i=>by simp [gix]
 | y :: l,i=>by
  unfold gix
  split
  ·rename_i h
   simp [h]
  ·rename_i h
   rw [gix_nil]; simp [h]
section
variable {n:Nat} {y:Sl S_b}
theorem groups_loop (hN:(Sl.l y).length ≤ 500):∀ (d fuel i:Nat) (c:Nat),i + d = (Sl.l y).length → d < fuel → c ≤ i →
  b_1 n y fuel (c:Int) (Sl.len y) (i:Int) = some (((c + (gix i ((Sl.l y).drop i)).length:Nat)):Int):=by
 intro d
 induction d with
 | zero =>
  intro fuel i c hi hf hc
  obtain ⟨fuel,rfl⟩:∃ m,fuel = m + 1:=⟨fuel - 1,by omega⟩
  rw [b_1,cfl (df (by simp only [Sl.len]; omega)),List.drop_eq_nil_of_le (by omega)]; simp [gix]
 | succ d ih =>
  intro fuel i c hi hf hc
  obtain ⟨fuel,rfl⟩:∃ m,fuel = m + 1:=⟨fuel - 1,by omega⟩
  have hil:i < (Sl.l y).length:=by omega
  rw [b_1,ct (dt (by simp only [Sl.len]; omega)),ck_ok hil,Option.bind_some,nth_l (List.getElem?_eq_getElem hil),List.drop_eq_getElem_cons hil]
  simp only [b_cc]
  by_cases h:(Sl.l y)[i].f_Kind = 11
  ·rw [ct (dt h),wp1 (by omega),wp1 (by omega),ih fuel (i + 1) (c + 1) (by omega) (by omega) (by omega)]
   simp [gix,h]; omega
  ·rw [cfl (df h),wp1 (by omega),ih fuel (i + 1) c (by omega) (by omega) (by omega)]
   simp [gix,h]
theorem groups_ok (hn:600 ≤ n) (hN:(Sl.l y).length ≤ 500):m_cF n y = some ((gix 0 (Sl.l y)).length:Int):=by
 obtain ⟨n,rfl⟩:∃ m,n = m + 1:=⟨n - 1,by omega⟩
 have:=groups_loop (n:=n) hN (Sl.l y).length n 0 0 (by omega) (by omega) (by omega)
 simp only [m_cF,b_de]
 simpa using this
theorem app1 {α:Type} {l:List α} {x:α} {z:Nat} (h:(l.length + 1) * z ≤ 8000000):Sl.app z (some l) (some [x]) = some (some (l ++ [x])):=by
 have hr2:(8000000:Nat) ≤ roomMost:=Nat.le_of_ble_eq_true rfl
 unfold Sl.app
 rw [if_neg (by simp [Sl.l]),if_pos (by simp [Sl.l]; omega)]
 rfl
theorem join_loop {a b:Sl S_b} {t:Tm} {kind:Int} {z:Sl S_b} (hn:2 ≤ n) (hb:Sl.l b = t.flat) (ht:t.At 0) (hl:(Sl.l a).length ≤ 60) (hs:t.size ≤ 60):∀ (d fuel i:Nat),i + d = t.size → d < fuel →
  b_X (m_0 n) n a b fuel kind z ((Sl.l a).length:Int) (pf (Sl.l a ++ t.flat.map (shN (Sl.l a).length)) S_b.zero ((Sl.l a).length + i)) (Sl.len b) (i:Int) =
   some (some (Sl.l a ++ t.flat.map (shN (Sl.l a).length) ++ [⟨kind,((Sl.l a).length:Int) - 1,(((Sl.l a).length + t.size:Nat):Int) - 1,S_d.zero,0,0,0,0,false⟩])):=by
 have hlen:Sl.len b = (t.size:Int):=by simp [Sl.len,hb,Tm.flat_len]
 have hvl:(Sl.l a ++ t.flat.map (shN (Sl.l a).length)).length = (Sl.l a).length + t.size:=by simp [Tm.flat_len]
 intro d
 induction d with
 | zero =>
  intro fuel i hi hf
  obtain ⟨fuel,rfl⟩:∃ m,fuel = m + 1:=⟨fuel - 1,by omega⟩
  obtain rfl:i = t.size:=by omega
  have hr2:(8000000:Nat) ≤ roomMost:=Nat.le_of_ble_eq_true rfl
  rw [b_X,cfl (df (by omega)),← hvl,pf_end,app1 (by rw [hvl]; omega),Option.bind_some,w64 (n:=((Sl.l a).length:Int) - 1) (by omega) (by omega)]
  have hL:Sl.len (some (Sl.l a ++ t.flat.map (shN (Sl.l a).length))) = (((Sl.l a).length + t.size:Nat):Int):=by rw [← hvl]; rfl
  rw [hL,w64 (by omega) (by omega),hvl]
  rfl
 | succ d ih =>
  intro fuel i hi hf
  obtain ⟨fuel,rfl⟩:∃ m,fuel = m + 1:=⟨fuel - 1,by omega⟩
  have hif:i < t.flat.length:=by rw [Tm.flat_len]; omega
  have hx:=List.getElem?_eq_getElem hif
  have hx0:Sl.nth b i = t.flat[i]:=nth_l (by rw [hb]; exact hx)
  have K:=Tm.kid (d:=(0:Int)) (alg:=depA) ht hx
  have go:=ih fuel (i + 1) (by omega) (by omega)
  have hv:(Sl.l a ++ t.flat.map (shN (Sl.l a).length))[(Sl.l a).length + i]? = some (shN (Sl.l a).length t.flat[i]):=by
   rw [List.getElem?_append_right (by omega),Nat.add_sub_cancel_left,List.getElem?_map,hx]; rfl
  rw [b_X,ct (dt (by omega)),ck_ok (by rw [hb]; exact hif),Option.bind_some,hx0,kids_ok _ (by omega),Option.bind_some]
  generalize t.flat[i] = x at *
  have fin:b_bQ (m_0 n) n (b_X (m_0 n) n a b fuel) a b kind z ((Sl.l a).length:Int) (pf (Sl.l a ++ t.flat.map (shN (Sl.l a).length)) S_b.zero ((Sl.l a).length + i)) (i:Int) (shN (Sl.l a).length x) (Sl.len b) (i:Int) = some (some (Sl.l a ++ t.flat.map (shN (Sl.l a).length) ++ [⟨kind,((Sl.l a).length:Int) - 1,(((Sl.l a).length + t.size:Nat):Int) - 1,S_d.zero,0,0,0,0,false⟩])):=by
   rw [b_bQ,w64 (n:=((Sl.l a).length:Int) + i) (by omega) (by omega),ck_int (by omega) (by rw [pf_len (by omega)]; omega),Option.bind_some,show (((Sl.l a).length:Int) + i).toNat = (Sl.l a).length + i by omega,pf_put hv,wp1 (by omega)]
   exact go
  simp only [b_cI,kids_ok _ (show 1 ≤ n by omega),Option.bind_some]
  rcases K.at_ with ⟨h1,h2,h3,h4⟩ | ⟨h1,j,v,h2,h3,h4,h5,h6⟩ | ⟨h1,j,m,v,w,h2,h3,h4,h5,h6,h7,h8⟩
  ·rw [cfl (df (by omega)),cfl (df (by omega))]
   have e:shN (Sl.l a).length x = x:=by simp [shN,h1]
   rw [e] at fin; exact fin
  ·rw [ct (dt (by omega)),cfl (df (by show ¬ (1:Int) < ((kd x.f_Kind:Nat):Int); omega))]
   have e:shN (Sl.l a).length x = { x with f_A:=x.f_A + (Sl.l a).length }:=by simp [shN,h1]
   rw [e] at fin
   rw [w64 (n:=x.f_A + ((Sl.l a).length:Int)) (by omega) (by omega)]
   exact fin
  ·rw [ct (dt (by omega)),ct (dt (by show (1:Int) < ((kd x.f_Kind:Nat):Int); omega))]
   have e:shN (Sl.l a).length x = { x with f_A:=x.f_A + (Sl.l a).length,f_B:=x.f_B + (Sl.l a).length }:=by simp [shN,h1]
   rw [e] at fin
   rw [w64 (n:=x.f_A + ((Sl.l a).length:Int)) (by omega) (by omega)]
   show b_bQ _ _ _ _ _ _ _ _ _ _ { x with f_A:=x.f_A + (Sl.l a).length,f_B:=IntKind.i64.wrap (x.f_B + (Sl.l a).length) } _ _ = _
   rw [w64 (n:=x.f_B + ((Sl.l a).length:Int)) (by omega) (by omega)]
   exact fin
theorem join_ok {a b:Sl S_b} {t:Tm} {kind:Int} (hn:600 ≤ n) (hb:Sl.l b = t.flat) (ht:t.At 0) (hl:(Sl.l a).length ≤ 60) (hs:t.size ≤ 60) :
  m_cN n a b kind = some (some (Sl.l a ++ t.flat.map (shN (Sl.l a).length) ++ [⟨kind,((Sl.l a).length:Int) - 1,(((Sl.l a).length + t.size:Nat):Int) - 1,S_d.zero,0,0,0,0,false⟩])):=by
 obtain ⟨n,rfl⟩:∃ m,n = m + 1:=⟨n - 1,by omega⟩
 have hlen:Sl.len b = (t.size:Int):=by simp [Sl.len,hb,Tm.flat_len]
 have hlb:(Sl.l b).length = t.size:=by rw [hb,Tm.flat_len]
 simp only [m_cN,b_dX]
 have e1:IntKind.i64.wrap (Sl.len a + Sl.len b) = (((Sl.l a).length + t.size:Nat):Int):=by rw [hlen]; simp only [Sl.len]; rw [w64 (by omega) (by omega)]; omega
 rw [e1,wp1 (by omega),make_ok (z:=96) (by omega) (by omega) (by omega),Option.bind_some]
 have e2:Sl.copy (some (List.replicate ((Sl.l a).length + t.size) S_b.zero)) a = pf (Sl.l a ++ t.flat.map (shN (Sl.l a).length)) S_b.zero ((Sl.l a).length + 0):=by
  simp [Sl.copy,pf,Tm.flat_len]
  exact List.take_of_length_le (by omega)
 rw [e2]
 exact join_loop (by omega) hb ht hl hs t.size n 0 (by omega) (by omega)
end
theorem right_join {la lb:List S_b} {ta tb:Tm} {kind:Int} (ha:RightT la ta) (hb:RightT lb tb) (hda:ta.dep < 40) (hdb:tb.dep < 40) (hs:ta.size + tb.size < 500) (ga:gix 0 la = []) (gb:gix 0 lb = []) (hk:kind = 8 ∨ kind = 9) :
  RightT (la ++ tb.flat.map (shN la.length) ++ [⟨kind,(la.length:Int) - 1,((la.length + tb.size:Nat):Int) - 1,S_d.zero,0,0,0,0,false⟩]) (.two ⟨kind,(la.length:Int) - 1,((la.length + tb.size:Nat):Int) - 1,S_d.zero,0,0,0,0,false⟩ ta (shT la.length tb)):=by
 obtain ⟨hla,hta⟩:=tree_some ha.tree
 obtain ⟨hlb,htb⟩:=tree_some hb.tree
 have hll:la.length = ta.size:=by rw [hla,Tm.flat_len]
 have hpa:=ta.pos
 have hpb:=tb.pos
 generalize hx:(⟨kind,(la.length:Int) - 1,((la.length + tb.size:Nat):Int) - 1,S_d.zero,0,0,0,0,false⟩:S_b) = x
 have xk:x.f_Kind = kind:=by rw [← hx]
 have xA:x.f_A = (la.length:Int) - 1:=by rw [← hx]
 have xB:x.f_B = ((la.length + tb.size:Nat):Int) - 1:=by rw [← hx]
 have xf:fitsB x = true:=by rw [← hx]; rcases hk with rfl | rfl <;> rfl
 have xkd:kd x.f_Kind = 2:=by rw [xk]; rcases hk with rfl | rfl <;> rfl
 have at1:(Tm.two x ta (shT la.length tb)).At 0:=by
  refine ⟨hta,?_,xf,xkd,by rw [xA]; omega,by rw [xB,sh_size]; omega⟩
  have:=sh_at la.length htb
  rw [Nat.zero_add,← hll]; exact this
 have e:la ++ tb.flat.map (shN la.length) ++ [x] = (Tm.two x ta (shT la.length tb)).flat:=by rw [Tm.flat,sh_flat,← hla]
 have dv:=(sh_vals (d:=(0:Int)) (alg:=depA) la.length (sh_dep _) tb).1
 refine ⟨by rw [e]; exact tree_flat at1,by simp [Tm.size,sh_size]; omega,?_,?_,?_⟩
 ·rw [dep_two at1]
  have:(shT la.length tb).dep = tb.dep:=dv
  rw [this]; omega
 ·have g1:=ha.grp
  have g2:=hb.grp
  unfold groupedR at g1 g2 ⊢
  rw [ga] at g1
  rw [gb] at g2
  have g3:gix 0 (la ++ tb.flat.map (shN la.length) ++ [x]) = []:=by
   rw [gix_nil]
   intro y hy
   simp only [List.mem_append,List.mem_map,List.mem_singleton] at hy
   rcases hy with (hy | ⟨z,hz,rfl⟩) | rfl
   ·exact gix_nil.1 ga y hy
   ·rw [sh_kind]; exact gix_nil.1 gb z (hlb ▸ hz)
   ·rw [xk]; omega
  rw [g3]
  simp only [srt,List.mergeSort_nil,numOk,Bool.true_and,List.length_nil,Bool.and_eq_true,Bool.not_eq_true',List.any_eq_false] at g1 g2 ⊢
  refine ⟨g1.1,fun y hy=>?_⟩
  simp only [List.mem_append,List.mem_map,List.mem_singleton] at hy
  rcases hy with (hy | ⟨z,hz,rfl⟩) | rfl
  ·exact g1.2 y hy
  ·have:=g2.2 z (hlb ▸ hz)
   obtain ⟨a,b,h⟩:=sh_rest la.length z
   rw [h]; exact this
  ·have:y.f_Kind ≠ 12:=by rw [xk]; omega
   simp [oddB,this]
 ·intro i y hy hky j v hj hv
  have lv:=(sh_vals (d:=((0:Int),(0:Int))) (alg:=lenA) la.length (sh_len _) tb).2
  change (ta.lens ++ (shT la.length tb).lens ++ [_])[j]? = some v at hv
  rw [show (shT la.length tb).lens = tb.lens from lv] at hv
  by_cases hi:i < ta.size
  ·have hy':ta.flat[i]? = some y:=by
    rw [Tm.flat,List.append_assoc,List.getElem?_append_left (by rw [Tm.flat_len]; exact hi)] at hy; exact hy
   have K:=Tm.kid (d:=((0:Int),(0:Int))) (alg:=lenA) hta hy'
   refine ha.beh i y hy' hky j v hj ?_
   rcases K.at_ with ⟨h1,_⟩ | ⟨h1,j',v',h2,h3,h4,h5,h6⟩ | ⟨h1,_⟩
   ·rcases hky with k | k <;> simp [kd,k] at h1
   ·obtain rfl:j = j':=by rw [h3] at hj; omega
    rw [List.append_assoc,List.getElem?_append_left (by rw [Tm.vals_len]; omega)] at hv
    exact hv
   ·rcases hky with k | k <;> simp [kd,k] at h1
  ·by_cases hi2:i < ta.size + tb.size
   ·rw [Tm.flat,List.getElem?_append_left (by simp [Tm.flat_len,sh_size]; omega),List.getElem?_append_right (by rw [Tm.flat_len]; omega),Tm.flat_len,sh_flat,List.getElem?_map] at hy
    obtain ⟨z,hz,rfl⟩:=Option.map_eq_some_iff.1 hy
    rw [sh_kind] at hky
    have K:=Tm.kid (d:=((0:Int),(0:Int))) (alg:=lenA) htb hz
    rcases K.at_ with ⟨h1,_⟩ | ⟨h1,j',v',h2,h3,h4,h5,h6⟩ | ⟨h1,_⟩
    ·rcases hky with k | k <;> simp [kd,k] at h1
    ·have e2:shN la.length z = { z with f_A:=z.f_A + la.length }:=by simp [shN,h1]
     rw [e2] at hj
     have hj':z.f_A + la.length = (j:Int):=hj
     rw [h3] at hj'
     have hzl:=(List.getElem?_eq_some_iff.1 hz).1
     rw [Tm.flat_len] at hzl
     rw [List.getElem?_append_left (by simp [Tm.vals_len]; omega),List.getElem?_append_right (by rw [Tm.vals_len]; omega),Tm.vals_len,show j - ta.size = j' by omega] at hv
     exact hb.beh _ z hz hky j' v (by rw [h3]; omega) hv
    ·rcases hky with k | k <;> simp [kd,k] at h1
   ·have hlt:=(List.getElem?_eq_some_iff.1 hy).1
    rw [Tm.flat_len,Tm.size,sh_size] at hlt
    obtain rfl:i = ta.size + tb.size:=by omega
    rw [Tm.flat,List.getElem?_append_right (by simp [Tm.flat_len,sh_size])] at hy
    simp [Tm.flat_len,sh_size] at hy; subst hy
    rw [xk] at hky; omega
end Go.Proofs.YtaadjlpfdajggaaGreatDoor

set_option maxRecDepth 100000
set_option linter.unusedVariables false
set_option linter.unusedSimpArgs false
namespace Go.Proofs.YtaadjlpfdajggaaGreatDoor.factsCats
open Go Go.AM
theorem setZ {x:S_b} (h:x.f_Set = S_d.zero):SetIn x:=by
 intro w hw
 rw [h] at hw
 have:w ∈ List.replicate 4 (0:Int):=hw
 rw [List.eq_of_mem_replicate this]
 exact ⟨by decide,by decide⟩
theorem both {n:Nat} {a b:Sl S_b} {s t:Tm} {kind:Int} (hn:1500 ≤ n) (hla:(Sl.l a).length ≤ 60) (hlb:(Sl.l b).length ≤ 60) (hSa:∀ x ∈ Sl.l a,SetIn x) (hSb:∀ x ∈ Sl.l b,SetIn x) (ha:RightT (Sl.l a) s) (hb:RightT (Sl.l b) t) (hda:s.dep < 40) (hdb:t.dep < 40)
  (ga:gix 0 (Sl.l a) = []) (gb:gix 0 (Sl.l b) = []) (hk:kind = 8 ∨ kind = 9):∃ w,m_cN n a b kind = some w ∧ m_bG n w = some ((if kind = 8 then catK s.fac t.fac else altK s.fac t.fac).f_Facts,0):=by
 obtain ⟨hl,hA⟩:=tree_some ha.tree
 obtain ⟨hl2,hA2⟩:=tree_some hb.tree
 have h1:(Sl.l a).length = s.size:=by rw [hl,Tm.flat_len]
 have h2:(Sl.l b).length = t.size:=by rw [hl2,Tm.flat_len]
 refine ⟨_,join_ok (by omega) hl2 hA2 hla (by omega),?_⟩
 have hR:=right_join ha hb hda hdb (by omega) ga gb hk
 generalize hx:(⟨kind,((Sl.l a).length:Int) - 1,(((Sl.l a).length + t.size:Nat):Int) - 1,S_d.zero,0,0,0,0,false⟩:S_b) = x at hR ⊢
 have hS:∀ y ∈ Sl.l (some (Sl.l a ++ t.flat.map (shN (Sl.l a).length) ++ [x])),SetIn y:=fun y hy=>by
  simp only [Sl.l,List.mem_append,List.mem_map,List.mem_singleton] at hy
  rcases hy with (hy | ⟨z,hz,rfl⟩) | rfl
  ·exact hSa y hy
  ·obtain ⟨p,q,e⟩:=sh_rest (Sl.l a).length z
   simp only [Sl.l] at e
   rw [e]; exact hSb z (hl2 ▸ hz)
  ·exact setZ (by rw [← hx])
 rw [of_right (x0:=some (Sl.l a ++ t.flat.map (shN (Sl.l a).length) ++ [x])) (by omega) hS hR]
 have e:(Tm.two x s (shT (Sl.l a).length t)).fac = facA x s.fac t.fac:=by
  show facA x s.fac (shT (Sl.l a).length t).fac = _
  rw [show (shT (Sl.l a).length t).fac = t.fac from (sh_vals _ (sh_fac _) t).1]
 rw [e]
 have xk:x.f_Kind = kind:=by rw [← hx]
 have e2:facA x s.fac t.fac = if kind = 8 then catK s.fac t.fac else altK s.fac t.fac:=by
  unfold facA
  rw [xk]
  rcases hk with rfl | rfl
  ·rfl
  ·rfl
 rw [e2]
theorem cut_first (k:S_a):(cutK k).f_Facts.f_First = k.f_Facts.f_First ∧ (cutK k).f_Facts.f_Open = k.f_Facts.f_Open ∧ (cutK k).f_Facts.f_Fast = k.f_Facts.f_Fast:=by
 unfold cutK; split <;> exact ⟨rfl,rfl,rfl⟩
theorem pure (x0 x1:Sl S_b) (h:TreeIn x0) (h':TreeIn x1):∃ n,m_cX n x0 x1 = some true:=by
 refine ⟨2001,?_⟩
 simp only [m_cX,b_b9]
 obtain ⟨y,hy,hl,hT⟩:=cutT (n:=2000) (by omega) h 60
 obtain ⟨z,hz,hlz,hTz⟩:=cutT (n:=2000) (by omega) h' 60
 have hfix:m_c3 2000 = some true:=rfl
 rw [show ((60:Nat):Int) = 60 from rfl] at hy hz
 rw [hy,Option.bind_some,hz,Option.bind_some]
 have hS:=hT.set
 have hSz:=hTz.set
 have gy:=groups_ok (n:=2000) (y:=y) (by omega) (by omega)
 have gz:=groups_ok (n:=2000) (y:=z) (by omega) (by omega)
 have gl:=gix_len (l:=Sl.l y) (i:=0)
 have gl2:=gix_len (l:=Sl.l z) (i:=0)
 have gw:IntKind.i64.wrap (((gix 0 (Sl.l y)).length:Int) + ((gix 0 (Sl.l z)).length:Int)) = ((gix 0 (Sl.l y)).length:Int) + ((gix 0 (Sl.l z)).length:Int):=w64 (by omega) (by omega)
 rcases of_ok (n:=2000) (x0:=y) (by omega) hS with ⟨s,hs,ho⟩ | ⟨e,he,hno,ho⟩
 ·rcases of_ok (n:=2000) (x0:=z) (by omega) hSz with ⟨t,ht,ho2⟩ | ⟨e,he,hno,ho2⟩
  ·rw [ho,Option.bind_some,ho2,Option.bind_some]
   simp only
   rw [cfl (by rfl),gy,Option.bind_some,gz,Option.bind_some,gw,Option.bind_some]
   by_cases hg:0 < ((gix 0 (Sl.l y)).length:Int) + ((gix 0 (Sl.l z)).length:Int)
   ·rw [ct (dt hg),Option.bind_some,cond_true,ct (by rw [dt trivial]; rfl),hfix]; rfl
   ·rw [cfl (df hg),deep_right (by omega) hs,Option.bind_some,deep_right (by omega) ht,Option.bind_some,Option.bind_some]
    have ga:gix 0 (Sl.l y) = []:=List.length_eq_zero_iff.1 (by omega)
    have gb:gix 0 (Sl.l z) = []:=List.length_eq_zero_iff.1 (by omega)
    by_cases hd:40 ≤ max s.dep t.dep
    ·rw [ct (dt hd),ct (by rw [dt trivial]; rfl),hfix]; rfl
    ·rw [cfl (df hd)]
     obtain ⟨w1,a1,b1⟩:=both (n:=2000) (kind:=8) (by omega) hl hlz hS hSz hs ht (by omega) (by omega) ga gb (.inl rfl)
     obtain ⟨w2,a2,b2⟩:=both (n:=2000) (kind:=9) (by omega) hl hlz hS hSz hs ht (by omega) (by omega) ga gb (.inr rfl)
     rw [if_pos rfl] at b1
     rw [if_neg (by decide)] at b2
     rw [a1,Option.bind_some,b1,Option.bind_some,a2,Option.bind_some,b2,Option.bind_some]
     simp only [or_ok _ _ (show 10 ≤ 2000 by omega),Option.bind_some,b_bq]
     generalize s.fac = F
     generalize t.fac = G'
     obtain ⟨c1,c2,c3⟩:=cut_first ⟨⟨if F.f_Facts.f_Open then orS F.f_Facts.f_First G'.f_Facts.f_First else F.f_Facts.f_First,F.f_Facts.f_Open && G'.f_Facts.f_Open,F.f_Facts.f_Fast || (G'.f_Facts.f_Fast && F.f_none),if F.f_whole then F.f_Facts.f_Prefix ++ G'.f_Facts.f_Prefix else F.f_Facts.f_Prefix⟩,F.f_whole && G'.f_whole,F.f_none && G'.f_none⟩
     change (catK F G').f_Facts.f_First = _ at c1
     change (catK F G').f_Facts.f_Open = _ at c2
     change (catK F G').f_Facts.f_Fast = _ at c3
     rw [c1,c2,c3]
     cases hO:F.f_Facts.f_Open <;> cases hF:F.f_Facts.f_Fast <;> simp [altK,hfix,hO,hF]
  ·rw [ho,Option.bind_some,ho2,Option.bind_some]
   simp only
   rw [ct (by rw [df he]; rfl),Option.bind_some,cond_true,Option.bind_some,cond_true,ct (by rw [dt trivial]; rfl),hfix]; rfl
 ·have ⟨v,hv⟩:∃ v,m_bG 2000 z = some v:=by
   rcases of_ok (n:=2000) (x0:=z) (by omega) hSz with ⟨t,ht,ho2⟩ | ⟨e,he,hno,ho2⟩
   ·exact ⟨_,ho2⟩
   ·exact ⟨_,ho2⟩
  rw [ho,Option.bind_some,hv,Option.bind_some]
  simp only
  rw [ct (by rw [df he]; rfl),Option.bind_some,cond_true,Option.bind_some,cond_true,ct (by rw [dt trivial,Bool.or_true]),hfix]; rfl
end Go.Proofs.YtaadjlpfdajggaaGreatDoor.factsCats
