/-
  THE PLAIN LAW: no program in sight.
-/
import Derived.Test.YtaadjlpfdajggaaGreatDoorBvAm22
import Derived.Test.YtaadjlpfdajggaaGreatDoorBvTab
import Derived.Test.YtaadjlpfdajggaaGreatDoorBvAm28
import Derived.Test.YtaadjlpfdajggaaGreatDoorBvLaw3
set_option linter.unusedVariables false
set_option linter.unusedSimpArgs false
namespace Go.AM
open Go
abbrev B (s:ByteArray):List Int:=bytesOf s
theorem bind_some {α β:Type} (a:α) (f:α → Option β):(some a).bind f = f a:=rfl
theorem ck_ok {n:Nat} {i:Nat} (h:i < n):ck n (i:Int) = some i:=by
 rw [ck,if_pos (by omega)]; simp
theorem ck_int {n:Nat} {i:Int} (h:0 ≤ i) (h':i < n):ck n i = some i.toNat:=if_pos ⟨h,h'⟩
theorem w64 {n:Int} (h:-9223372036854775808 ≤ n) (h':n < 9223372036854775808):IntKind.i64.wrap n = n:=wrap_i64 h h'
theorem wp1 {j:Nat} (h:j < 1000000):IntKind.i64.wrap ((j:Int) + 1) = ((j + 1:Nat):Int):=by rw [w64 (by omega) (by omega)]; omega
end Go.AM

set_option maxRecDepth 100000
set_option linter.unusedVariables false
set_option linter.unusedSimpArgs false
namespace Go.Proofs.YtaadjlpfdajggaaGreatDoor
open Go Go.AM
section
variable {β:Type} {vs:List β} {z v w:β} {i j:Nat}
def pf (vs:List β) (z:β) (i:Nat):Sl β:=some (vs.take i ++ List.replicate (vs.length - i) z)
theorem pf_len (h:i ≤ vs.length):(Sl.l (pf vs z i)).length = vs.length:=by simp [pf,Sl.l]; omega
theorem pf_nth [Inhabited β] (h:j < i) (hv:vs[j]? = some v):Sl.nth (pf vs z i) j = v:=by
 have hj:=(List.getElem?_eq_some_iff.1 hv).1
 simp only [pf,Sl.nth,Sl.l,List.getD]
 rw [List.getElem?_append_left (by simp; omega),List.getElem?_take_of_lt h,hv]; rfl
theorem pf_put (hv:vs[i]? = some v):Sl.put (pf vs z i) i v = pf vs z (i + 1):=by
 obtain ⟨hi,rfl⟩:=List.getElem?_eq_some_iff.1 hv
 simp only [pf,Sl.put,Option.map_some,Option.some.injEq]
 rw [List.set_append_right _ _ (by simp; omega),show vs.length - i = (vs.length - (i + 1)) + 1 by omega,List.replicate_succ,show i - (List.take i vs).length = 0 by simp; omega,List.set_cons_zero,List.take_succ_eq_append_getElem hi,List.append_assoc]
 rfl
theorem pf_skip (hv:vs[i]? = some z):pf vs z i = pf vs z (i + 1):=by
 obtain ⟨hi,hz⟩:=List.getElem?_eq_some_iff.1 hv
 simp only [pf,Option.some.injEq]
 rw [show vs.length - i = (vs.length - (i + 1)) + 1 by omega,List.replicate_succ,List.take_succ_eq_append_getElem hi,hz,List.append_assoc]
 rfl
theorem pf_end:pf vs z vs.length = some vs:=by simp [pf]
theorem pf_0:pf vs z 0 = some (List.replicate vs.length z):=by simp [pf]
theorem nth_put_ne [Inhabited β] {x:Sl β} (h:i ≠ j):Sl.nth (Sl.put x i v) j = Sl.nth x j:=by
 cases x with
 | none=>rfl
 | some l=>simp only [Sl.put,Sl.nth,Sl.l,Option.map_some,List.getD,List.getElem?_set_ne h]
theorem put_put {x:Sl β}:Sl.put (Sl.put x i v) i w = Sl.put x i w:=by
 cases x with
 | none=>rfl
 | some l=>simp [Sl.put]
theorem put_len {x:Sl β}:(Sl.l (Sl.put x i v)).length = (Sl.l x).length:=by
 cases x with
 | none=>rfl
 | some l=>simp [Sl.put,Sl.l]
theorem nth_l [Inhabited β] {x:Sl β} (h:(Sl.l x)[i]? = some v):Sl.nth x i = v:=by simp [Sl.nth,List.getD,h]
end
def kd (k:Int):Nat:=if k = 8 ∨ k = 9 then 2 else if k = 10 ∨ k = 11 ∨ k = 13 ∨ k = 14 ∨ k = 15 ∨ k = 16 ∨ k = 17 then 1 else 0
theorem kids_ok {n:Nat} (k:Int) (h:1 ≤ n):m_v n k = some ((kd k:Nat):Int):=by
 obtain ⟨n,rfl⟩:∃ m,n = m + 1:=⟨n - 1,by omega⟩
 simp only [m_v,b_c1,b_bV,b_L,kd]
 by_cases h8:k = 8
 ·subst h8; rfl
 by_cases h9:k = 9
 ·subst h9; rfl
 by_cases h10:k = 10
 ·subst h10; rfl
 by_cases h11:k = 11
 ·subst h11; rfl
 by_cases h13:k = 13
 ·subst h13; rfl
 by_cases h14:k = 14
 ·subst h14; rfl
 by_cases h15:k = 15
 ·subst h15; rfl
 by_cases h16:k = 16
 ·subst h16; rfl
 by_cases h17:k = 17
 ·subst h17; rfl
 simp [*]
def bareS (x:S_a):S_a:={ x with f_Kind:=0,f_A:=0,f_B:=0 }
def fitsB (x:S_a):Bool:=decide (0 ≤ x.f_Kind) && decide (x.f_Kind < 18) && decide (bareS x = bareS (ownS x)) &&
 (!decide (x.f_Kind = 10) || (decide (0 ≤ x.f_Min) && decide (x.f_Min ≤ 100) && (decide (x.f_Max = -1) || (decide (x.f_Min ≤ x.f_Max) && decide (x.f_Max ≤ 100))) && decide (0 ≤ x.f_Mode) && decide (x.f_Mode ≤ 2)))
theorem fits_ok {n:Nat} (x:S_a) (h:2 ≤ n):m_V n x = some (fitsB x):=by
 obtain ⟨n,rfl⟩:∃ m,n = m + 2:=⟨n - 2,by omega⟩
 simp only [m_V,b_bR,m_bT,b_bU,m_b4,Option.bind_some,fitsB]
 show _ = some (_ && decide (bareS x = bareS (ownS x)) && _)
 by_cases h0:x.f_Kind < 0
 ·simp [h0,show ¬ (0 ≤ x.f_Kind) by omega]
 by_cases h1:18 ≤ x.f_Kind
 ·simp [h0,h1,show ¬ (x.f_Kind < 18) by omega]
 have h0':0 ≤ x.f_Kind:=by omega
 have h1':x.f_Kind < 18:=by omega
 by_cases h2:bareS x = bareS (ownS x)
 ·have h2':=h2
  simp only [bareS] at h2'
  by_cases h3:x.f_Kind = 10 <;> simp [h0,h1,h0',h1',h2,h2',h3]
 ·have h2':=h2
  simp only [bareS] at h2'
  by_cases h3:x.f_Kind = 10 <;> simp [h0,h1,h0',h1',h2,h2',h3]
inductive Tm where
 | leaf (n:S_a)
 | one (n:S_a) (t:Tm)
 | two (n:S_a) (a b:Tm)
def Tm.flat:Tm → List S_a
 | .leaf n=>[n]
 | .one n t=>t.flat ++ [n]
 | .two n a b=>a.flat ++ b.flat ++ [n]
def Tm.size:Tm → Nat
 | .leaf n=>1
 | .one n t=>t.size + 1
 | .two n a b=>a.size + b.size + 1
theorem Tm.pos:∀ t:Tm,0 < t.size
 | .leaf n=>by simp [Tm.size]
 | .one n t=>by simp [Tm.size]
 | .two n a b=>by simp [Tm.size]
theorem Tm.flat_len:∀ t:Tm,t.flat.length = t.size
 | .leaf n=>rfl
 | .one n t=>by simp [Tm.flat,Tm.size,t.flat_len]
 | .two n a b=>by simp [Tm.flat,Tm.size,a.flat_len,b.flat_len]; omega
def Tm.At (k:Nat):Tm → Prop
 | .leaf n=>fitsB n = true ∧ kd n.f_Kind = 0 ∧ n.f_A = 0 ∧ n.f_B = 0
 | .one n t=>t.At k ∧ fitsB n = true ∧ kd n.f_Kind = 1 ∧ n.f_A + 1 = ((k + t.size:Nat):Int) ∧ n.f_B = 0
 | .two n a b=>a.At k ∧ b.At (k + a.size) ∧ fitsB n = true ∧ kd n.f_Kind = 2 ∧ n.f_A + 1 = ((k + a.size:Nat):Int) ∧ n.f_B + 1 = ((k + a.size + b.size:Nat):Int)
section
variable {β:Type} (d:β) (alg:S_a → β → β → β)
def Tm.val:Tm → β
 | .leaf n=>alg n d d
 | .one n t=>alg n t.val d
 | .two n a b=>alg n a.val b.val
def Tm.vals:Tm → List β
 | .leaf n=>[alg n d d]
 | .one n t=>t.vals ++ [alg n (t.val d alg) d]
 | .two n a b=>a.vals ++ b.vals ++ [alg n (a.val d alg) (b.val d alg)]
theorem Tm.vals_len:∀ t:Tm,(t.vals d alg).length = t.size
 | .leaf n=>rfl
 | .one n t=>by simp [Tm.vals,Tm.size,t.vals_len]
 | .two n a b=>by simp [Tm.vals,Tm.size,a.vals_len,b.vals_len]; omega
theorem Tm.vals_last:∀ t:Tm,(t.vals d alg)[t.size - 1]? = some (t.val d alg)
 | .leaf n=>rfl
 | .one n t=>by
  simp only [Tm.vals,Tm.size,Tm.val,Nat.add_sub_cancel]
  rw [List.getElem?_append_right (by simp [Tm.vals_len]),Tm.vals_len]; simp
 | .two n a b=>by
  simp only [Tm.vals,Tm.size,Tm.val,Nat.add_sub_cancel]
  rw [List.getElem?_append_right (by simp [Tm.vals_len])]; simp [Tm.vals_len]
structure Kid (k i:Nat) (vs:List β) (x:S_a):Prop where
 fits:fitsB x = true
 at_:(kd x.f_Kind = 0 ∧ x.f_A = 0 ∧ x.f_B = 0 ∧ vs[i]? = some (alg x d d)) ∨
  (kd x.f_Kind = 1 ∧ ∃ j v,j < i ∧ x.f_A = ((k + j:Nat):Int) ∧ x.f_B = 0 ∧ vs[j]? = some v ∧ vs[i]? = some (alg x v d)) ∨
  (kd x.f_Kind = 2 ∧ ∃ j m v w,j < i ∧ m < i ∧ x.f_A = ((k + j:Nat):Int) ∧ x.f_B = ((k + m:Nat):Int) ∧ vs[j]? = some v ∧ vs[m]? = some w ∧ vs[i]? = some (alg x v w))
variable {d alg}
theorem Kid.left {k i:Nat} {vs us:List β} {x:S_a} (h:Kid d alg k i vs x):Kid d alg k i (vs ++ us) x:=by
 have up:∀ {j v},vs[j]? = some v → (vs ++ us)[j]? = some v:=fun {j v} hv=>by rw [List.getElem?_append_left (List.getElem?_eq_some_iff.1 hv).1]; exact hv
 refine ⟨h.fits,?_⟩
 rcases h.at_ with ⟨h1,h2,h3,h4⟩ | ⟨h1,j,v,h2,h3,h4,h5,h6⟩ | ⟨h1,j,m,v,w,h2,h3,h4,h5,h6,h7,h8⟩
 ·exact .inl ⟨h1,h2,h3,up h4⟩
 ·exact .inr (.inl ⟨h1,j,v,h2,h3,h4,up h5,up h6⟩)
 ·exact .inr (.inr ⟨h1,j,m,v,w,h2,h3,h4,h5,up h6,up h7,up h8⟩)
theorem Kid.right {k i a:Nat} {vs us:List β} {x:S_a} (h:Kid d alg (k + a) i vs x) (ha:us.length = a):Kid d alg k (a + i) (us ++ vs) x:=by
 have up:∀ {j v},vs[j]? = some v → (us ++ vs)[a + j]? = some v:=fun {j v} hv=>by rw [List.getElem?_append_right (by omega),← hv]; congr 1; omega
 refine ⟨h.fits,?_⟩
 rcases h.at_ with ⟨h1,h2,h3,h4⟩ | ⟨h1,j,v,h2,h3,h4,h5,h6⟩ | ⟨h1,j,m,v,w,h2,h3,h4,h5,h6,h7,h8⟩
 ·exact .inl ⟨h1,h2,h3,up h4⟩
 ·exact .inr (.inl ⟨h1,a + j,v,by omega,by rw [h3]; congr 1; omega,h4,up h5,up h6⟩)
 ·exact .inr (.inr ⟨h1,a + j,a + m,v,w,by omega,by omega,by rw [h4]; congr 1; omega,by rw [h5]; congr 1; omega,up h6,up h7,up h8⟩)
theorem Tm.kid:∀ {t:Tm} {k i:Nat} {x:S_a},t.At k → t.flat[i]? = some x → Kid d alg k i (t.vals d alg) x
 | .leaf n,k,i,x,h,hx=>by
  have hi:=(List.getElem?_eq_some_iff.1 hx).1
  simp [Tm.flat] at hi
  subst hi
  simp [Tm.flat] at hx; subst hx
  exact ⟨h.1,.inl ⟨h.2.1,h.2.2.1,h.2.2.2,rfl⟩⟩
 | .one n t,k,i,x,h,hx=>by
  obtain ⟨h1,h2,h3,h4,h5⟩:=h
  by_cases hi:i < t.size
  ·rw [Tm.flat,List.getElem?_append_left (by rw [Tm.flat_len]; exact hi)] at hx
   exact (Tm.kid h1 hx).left
  ·have hlt:=(List.getElem?_eq_some_iff.1 hx).1
   simp [Tm.flat,Tm.flat_len] at hlt
   obtain rfl:i = t.size:=by omega
   rw [Tm.flat,List.getElem?_append_right (by rw [Tm.flat_len]; exact Nat.le_refl _)] at hx
   simp [Tm.flat_len] at hx; subst hx
   have hp:=t.pos
   refine ⟨h2,.inr (.inl ⟨h3,t.size - 1,t.val d alg,by omega,by omega,h5,?_,?_⟩)⟩
   ·rw [Tm.vals,List.getElem?_append_left (by rw [Tm.vals_len]; omega)]; exact t.vals_last d alg
   ·exact Tm.vals_last d alg (.one n t)
 | .two n a b,k,i,x,h,hx=>by
  obtain ⟨h1,h2,h3,h4,h5,h6⟩:=h
  have ha:=a.pos
  have hb:=b.pos
  by_cases hi:i < a.size
  ·rw [Tm.flat,List.append_assoc,List.getElem?_append_left (by rw [Tm.flat_len]; exact hi)] at hx
   have:=(Tm.kid h1 hx).left (us:=b.vals d alg ++ [alg n (a.val d alg) (b.val d alg)])
   rw [← List.append_assoc] at this
   exact this
  ·by_cases hi2:i < a.size + b.size
   ·rw [Tm.flat,List.getElem?_append_left (by simp [Tm.flat_len]; omega),List.getElem?_append_right (by rw [Tm.flat_len]; omega),Tm.flat_len] at hx
    have:=((Tm.kid h2 hx).right (a.vals_len d alg)).left (us:=[alg n (a.val d alg) (b.val d alg)])
    rw [show a.size + (i - a.size) = i by omega] at this
    exact this
   ·have hlt:=(List.getElem?_eq_some_iff.1 hx).1
    simp [Tm.flat,Tm.flat_len] at hlt
    obtain rfl:i = a.size + b.size:=by omega
    rw [Tm.flat,List.getElem?_append_right (by simp [Tm.flat_len])] at hx
    simp [Tm.flat_len] at hx; subst hx
    refine ⟨h3,.inr (.inr ⟨h4,a.size - 1,a.size + b.size - 1,a.val d alg,b.val d alg,by omega,by omega,by omega,by omega,?_,?_,?_⟩)⟩
    ·rw [Tm.vals,List.append_assoc,List.getElem?_append_left (by rw [Tm.vals_len]; omega)]; exact a.vals_last d alg
    ·rw [Tm.vals,List.getElem?_append_left (by simp [Tm.vals_len]; omega),List.getElem?_append_right (by rw [Tm.vals_len]; omega),Tm.vals_len,show a.size + b.size - 1 - a.size = b.size - 1 by omega]; exact b.vals_last d alg
    ·exact Tm.vals_last d alg (.two n a b)
end
def szA (_:S_a) (v w:Int):Int:=1 + v + w
abbrev Tm.szs (t:Tm):List Int:=t.vals 0 szA
theorem Tm.sz_val:∀ t:Tm,t.val 0 szA = (t.size:Int)
 | .leaf n=>rfl
 | .one n t=>by simp [Tm.val,szA,Tm.size,t.sz_val]; omega
 | .two n a b=>by simp [Tm.val,szA,Tm.size,a.sz_val,b.sz_val]; omega
def st1 (k:Nat) (st:List Tm) (x:S_a):Option (List Tm) :=
 match kd x.f_Kind,st with
 | 0,st=>if fitsB x = true ∧ x.f_A = 0 ∧ x.f_B = 0 then some (.leaf x :: st) else none
 | 1,t :: st=>if fitsB x = true ∧ x.f_A + 1 = (k:Int) ∧ x.f_B = 0 then some (.one x t :: st) else none
 | 2,b :: a :: st=>if fitsB x = true ∧ x.f_A + 1 + b.size = (k:Int) ∧ x.f_B + 1 = (k:Int) then some (.two x a b :: st) else none
 | _,_=>none
def sts (k:Nat) (st:List Tm):List S_a → Option (List Tm)
 | []=>some st
 | x :: xs=>(st1 k st x).bind fun st'=>sts (k + 1) st' xs
def ff:List Tm → List S_a
 | []=>[]
 | t :: st=>ff st ++ t.flat
def fs:List Tm → List Int
 | []=>[]
 | t :: st=>fs st ++ t.szs
def FAt:List Tm → Prop
 | []=>True
 | t :: st=>FAt st ∧ t.At (ff st).length
theorem fs_len:∀ st,(fs st).length = (ff st).length
 | []=>rfl
 | t :: st=>by simp [fs,ff,fs_len st,Tm.vals_len,Tm.flat_len]
theorem kd_le (k:Int):kd k = 0 ∨ kd k = 1 ∨ kd k = 2:=by
 unfold kd
 split
 ·simp
 ·split <;> simp
theorem st1_some {k:Nat} {st st':List Tm} {x:S_a} (h:st1 k st x = some st') (hf:FAt st) (hk:k = (ff st).length):FAt st' ∧ ff st' = ff st ++ [x]:=by
 unfold st1 at h
 split at h
 ·rename_i h0
  split at h
  ·rename_i hc
   injection h with h; subst h
   exact ⟨⟨hf,hc.1,h0,hc.2.1,hc.2.2⟩,rfl⟩
  ·cases h
 ·rename_i t st0 h1
  split at h
  ·rename_i hc
   injection h with h; subst h
   refine ⟨⟨hf.1,hf.2,hc.1,h1,?_,hc.2.2⟩,by simp [ff,Tm.flat]⟩
   rw [hc.2.1,hk]; simp [ff,Tm.flat_len]
  ·cases h
 ·rename_i b a st0 h1
  split at h
  ·rename_i hc
   injection h with h; subst h
   refine ⟨⟨hf.1.1,hf.1.2,?_,hc.1,h1,?_,?_⟩,by simp [ff,Tm.flat]⟩
   ·have:=hf.2; simpa [ff,Tm.flat_len] using this
   ·have:=hc.2.1; rw [hk] at this; simp [ff,Tm.flat_len] at this ⊢; omega
   ·have:=hc.2.2; rw [hk] at this; simp [ff,Tm.flat_len] at this ⊢; omega
  ·cases h
 ·cases h
theorem sts_tree:∀ {t:Tm} {k:Nat} {st:List Tm} {xs:List S_a},t.At k → sts k st (t.flat ++ xs) = sts (k + t.size) (t :: st) xs
 | .leaf n,k,st,xs,h=>by
  obtain ⟨h1,h2,h3,h4⟩:=h
  simp only [Tm.flat,List.singleton_append,sts,Tm.size,st1,h2]
  rw [if_pos ⟨h1,h3,h4⟩]; rfl
 | .one n t,k,st,xs,h=>by
  obtain ⟨h1,h2,h3,h4,h5⟩:=h
  simp only [Tm.flat,List.append_assoc,Tm.size]
  rw [sts_tree h1]
  simp only [List.singleton_append,sts,st1,h3]
  rw [if_pos ⟨h2,h4,h5⟩]; rfl
 | .two n a b,k,st,xs,h=>by
  obtain ⟨h1,h2,h3,h4,h5,h6⟩:=h
  simp only [Tm.flat,List.append_assoc,Tm.size]
  rw [sts_tree h1,sts_tree h2]
  simp only [List.singleton_append,sts,st1,h4]
  rw [if_pos ⟨h3,by rw [h5]; simp,h6⟩]
  simp only [Option.bind_some]
  congr 1; omega
theorem sts_some:∀ {xs:List S_a} {k:Nat} {st st':List Tm},sts k st xs = some st' → FAt st → k = (ff st).length → FAt st' ∧ ff st' = ff st ++ xs
 | [],k,st,st',h,hf,hk=>by simp [sts] at h; subst h; exact ⟨hf,by simp⟩
 | x :: xs,k,st,st',h,hf,hk=>by
  simp only [sts,Option.bind_eq_some_iff] at h
  obtain ⟨s1,h1,h2⟩:=h
  obtain ⟨f1,e1⟩:=st1_some h1 hf hk
  obtain ⟨f2,e2⟩:=sts_some h2 f1 (by rw [e1,hk]; simp)
  exact ⟨f2,by rw [e2,e1]; simp⟩
def tree (l:List S_a):Option Tm :=
 match sts 0 [] l with
 | some [t]=>some t
 | _=>none
theorem tree_some {l:List S_a} {t:Tm} (h:tree l = some t):l = t.flat ∧ t.At 0:=by
 unfold tree at h
 split at h
 ·rename_i t' ht
  injection h with h; subst h
  obtain ⟨h1,h2⟩:=sts_some ht trivial rfl
  exact ⟨by simpa [ff] using h2.symm,by simpa [ff] using h1.2⟩
 ·cases h
theorem tree_flat {t:Tm} (h:t.At 0):tree t.flat = some t:=by
 have:=sts_tree (st:=[]) (xs:=[]) h
 rw [List.append_nil] at this
 simp [tree,this,sts]
end Go.Proofs.YtaadjlpfdajggaaGreatDoor

set_option maxRecDepth 100000
set_option linter.unusedVariables false
set_option linter.unusedSimpArgs false
namespace Go.Proofs.YtaadjlpfdajggaaGreatDoor
open Go Go.AM
theorem ct {α:Type} {c:Bool} {a b:α} (h:c = true):(bif c then a else b) = a:=by rw [h]; rfl
theorem cfl {α:Type} {c:Bool} {a b:α} (h:c = false):(bif c then a else b) = b:=by rw [h]; rfl
theorem dt {p:Prop} [Decidable p] (h:p):decide p = true:=decide_eq_true h
theorem df {p:Prop} [Decidable p] (h:¬ p):decide p = false:=decide_eq_false h
theorem fs_last {t:Tm} {st:List Tm}:(fs (t :: st))[(ff (t :: st)).length - 1]? = some (t.size:Int):=by
 have:=t.pos
 simp only [fs,ff,List.length_append,Tm.flat_len]
 rw [List.getElem?_append_right (by rw [fs_len]; omega),fs_len,show (ff st).length + t.size - 1 - (ff st).length = t.size - 1 by omega,← t.sz_val]
 exact t.vals_last 0 szA
theorem fs_last2 {a b:Tm} {st:List Tm}:(fs (b :: a :: st))[(ff (b :: a :: st)).length - 1 - b.size]? = some (a.size:Int):=by
 have:=a.pos
 have h:(ff (b :: a :: st)).length - 1 - b.size = (ff (a :: st)).length - 1:=by simp [ff,Tm.flat_len]; omega
 rw [h,fs,List.getElem?_append_left (by rw [fs_len]; simp [ff,Tm.flat_len]; omega)]
 exact fs_last
def single:List Tm → Bool
 | [_]=>true
 | _=>false
theorem put_rep {l:List Int} {m:Nat} {v z:Int} {k:Nat} (hk:k = l.length):Sl.put (some (l ++ List.replicate (m + 1) z)) k v = some ((l ++ [v]) ++ List.replicate m z):=by
 subst hk
 simp only [Sl.put,Option.map_some,Option.some.injEq]
 rw [List.set_append_right _ _ (Nat.le_refl _),Nat.sub_self,List.replicate_succ,List.set_cons_zero,List.append_assoc]; rfl
theorem nth_app {l:List Int} {m:List Int} {j:Nat} {v:Int} (h:l[j]? = some v):Sl.nth (some (l ++ m)) j = v:=by
 simp only [Sl.nth,Sl.l,List.getD]
 rw [List.getElem?_append_left (List.getElem?_eq_some_iff.1 h).1,h]; rfl
theorem make_ok {α:Type} {z n m:Nat} {a:α} (h:n ≤ m) (hm:z * m ≤ 10000000) (hm':m ≤ 10000000):Sl.make z n m a = some (some (List.replicate n a)):=by
 have hr:(10000000:Nat) ≤ roomMost:=Nat.le_of_ble_eq_true rfl
 have hr':((z:Int) * m) ≤ ((10000000:Nat):Int):=by rw [← Int.natCast_mul]; exact Int.ofNat_le.2 hm
 unfold Sl.make
 rw [if_pos ⟨by omega,by omega,by omega,by omega⟩]
 simp
theorem app1 {α:Type} {l:List α} {x:α} {z:Nat} (h:(l.length + 1) * z ≤ 8000000):Sl.app z (some l) (some [x]) = some (some (l ++ [x])):=by
 have hr2:(8000000:Nat) ≤ roomMost:=Nat.le_of_ble_eq_true rfl
 unfold Sl.app
 rw [if_neg (by simp [Sl.l]),if_pos (by simp [Sl.l]; omega)]
 rfl
section
variable {n:Nat} {x0:Sl S_a}
theorem sizes_2 {q:Sl Int → Int → Int → Option (Sl Int × Bool)} {x:S_a} {l:List Int} {m k:Nat} {a b s N:Int} (hn:2 ≤ n) (hk:k = l.length) (hm:k < 1000) :
  b_7 (m_v n) (m_V n) n q x0 (some (l ++ List.replicate (m + 1) 0)) (k:Int) x a b s N (k:Int) =
   if fitsB x = true ∧ x.f_A = a ∧ x.f_B = b then q (some ((l ++ [s]) ++ List.replicate m 0)) N ((k + 1:Nat):Int) else some (none,false):=by
 simp only [b_7,fits_ok x hn,Option.bind_some]
 by_cases h:fitsB x = true ∧ x.f_A = a ∧ x.f_B = b
 ·rw [if_pos h,cfl (by simp [h.1,h.2.1,h.2.2]),ck_ok (by simp [Sl.l]; omega),Option.bind_some,put_rep hk,wp1 (by omega)]
 ·rw [if_neg h,ct]
  simp only [Bool.or_eq_true,Bool.not_eq_true',decide_eq_false_iff_not]
  by_cases h1:fitsB x = true
  ·by_cases h2:x.f_A = a
   ·exact .inr fun h3=>h ⟨h1,h2,h3⟩
   ·exact .inl (.inr h2)
  ·exact .inl (.inl (by simpa using h1))
theorem sizes_loop (hn:2 ≤ n) (hN:(Sl.l x0).length ≤ 500):∀ (xs:List S_a) (fuel:Nat) (st:List Tm),Sl.l x0 = ff st ++ xs → xs.length < fuel →
  b_I (m_v n) (m_V n) n x0 fuel (some (fs st ++ List.replicate xs.length 0)) (Sl.len x0) ((ff st).length:Int) =
   match sts (ff st).length st xs with
   | none=>some (none,false)
   | some st'=>some (some (fs st'),single st'):=by
 intro xs
 induction xs with
 | nil =>
  intro fuel st hl hf
  obtain ⟨fuel,rfl⟩:∃ m,fuel = m + 1:=⟨fuel - 1,by simp at hf; omega⟩
  have hlen:Sl.len x0 = ((ff st).length:Int):=by simp [Sl.len,hl]
  rw [b_I,hlen,cfl (df (by omega))]
  simp only [sts,List.length_nil,List.replicate_zero,List.append_nil]
  have hb:(ff st).length ≤ 500:=by rw [hl] at hN; simpa using hN
  rw [w64 (by omega) (by omega)]
  cases st with
  | nil=>rfl
  | cons t st =>
   have hp:0 < (ff (t :: st)).length:=by have:=t.pos; simp [ff,Tm.flat_len]; omega
   rw [ct (dt (by omega)),ck_int (by omega) (by simp [Sl.l,fs_len]; omega),Option.bind_some,Option.bind_some]
   have hj:(((ff (t :: st)).length:Int) - 1).toNat = (ff (t :: st)).length - 1:=by omega
   rw [hj,nth_l (v:=(t.size:Int)) fs_last]
   congr 2
   cases st with
   | nil=>simp [single,ff,Tm.flat_len]
   | cons u st=>have:=u.pos; simp [single,ff,Tm.flat_len]; omega
 | cons x xs ih =>
  intro fuel st hl hf
  obtain ⟨fuel,rfl⟩:∃ m,fuel = m + 1:=⟨fuel - 1,by simp at hf; omega⟩
  have hlen:Sl.len x0 = (((ff st).length + xs.length + 1:Nat):Int):=by simp [Sl.len,hl]; omega
  have hb:(ff st).length + xs.length + 1 ≤ 500:=by rw [hl] at hN; simp at hN; omega
  have hx:Sl.nth x0 (ff st).length = x:=nth_l (by rw [hl,List.getElem?_append_right (Nat.le_refl _)]; simp)
  rw [b_I,ct (dt (by rw [hlen]; omega)),ck_ok (by rw [hl]; simp),Option.bind_some,hx,kids_ok _ (by omega),Option.bind_some]
  simp only [sts,List.length_cons]
  have hkl:(ff st).length = (fs st).length:=(fs_len st).symm
  rcases kd_le x.f_Kind with h0 | h1 | h2
  ·rw [h0,cfl (df (by omega)),cfl (df (by omega)),sizes_2 hn hkl (by omega)]
   unfold st1
   simp only [h0]
   by_cases hc:fitsB x = true ∧ x.f_A = 0 ∧ x.f_B = 0
   ·rw [if_pos hc,if_pos hc,Option.bind_some]
    have:=ih fuel (.leaf x :: st) (by rw [hl]; simp [ff,Tm.flat]) (by simp at hf; omega)
    simpa [fs,ff,Tm.flat,Tm.vals,szA] using this
   ·rw [if_neg hc,if_neg hc]; rfl
  ·rw [h1,ct (dt (by omega)),w64 (by omega) (by omega)]
   cases st with
   | nil=>rw [ct (dt (by simp [ff]))]; unfold st1; simp only [h1]; rfl
   | cons t st =>
    have hp:0 < (ff (t :: st)).length:=by have:=t.pos; simp [ff,Tm.flat_len]; omega
    have hts:t.size ≤ 500:=by
     have:t.size ≤ (ff (t :: st)).length:=by simp [ff,Tm.flat_len]
     omega
    have hj:(((ff (t :: st)).length:Int) - 1).toNat = (ff (t :: st)).length - 1:=by omega
    rw [cfl (df (by omega)),ck_int (by omega) (by simp [Sl.l,fs_len]; omega),Option.bind_some,hj,nth_app fs_last,w64 (by omega) (by omega),sizes_2 hn hkl (by omega)]
    unfold st1
    simp only [h1]
    by_cases hc:fitsB x = true ∧ x.f_A = ((ff (t :: st)).length:Int) - 1 ∧ x.f_B = 0
    ·rw [if_pos hc,if_pos ⟨hc.1,by omega,hc.2.2⟩,Option.bind_some]
     have:=ih fuel (.one x t :: st) (by rw [hl]; simp [ff,Tm.flat]) (by simp at hf; omega)
     simpa [fs,ff,Tm.flat,Tm.vals,szA,Tm.sz_val,Nat.add_assoc] using this
    ·rw [if_neg hc,if_neg fun hc'=>hc ⟨hc'.1,by omega,hc'.2.2⟩]; rfl
  ·rw [h2,cfl (df (by omega)),ct (dt (by omega)),w64 (by omega) (by omega)]
   cases st with
   | nil=>rw [ct (dt (by simp [ff]))]; unfold st1; simp only [h2]; rfl
   | cons b st =>
    have hp:0 < (ff (b :: st)).length:=by have:=b.pos; simp [ff,Tm.flat_len]; omega
    have hts:b.size ≤ (ff (b :: st)).length:=by simp [ff,Tm.flat_len]
    have hj:(((ff (b :: st)).length:Int) - 1).toNat = (ff (b :: st)).length - 1:=by omega
    have e:Sl.nth (some (fs (b :: st) ++ List.replicate (xs.length + 1) 0)) ((ff (b :: st)).length - 1) = (b.size:Int):=nth_app fs_last
    rw [cfl (df (by omega)),ck_int (by omega) (by simp [Sl.l,fs_len]; omega),Option.bind_some,hj]
    simp only [e]
    rw [w64 (by omega) (by omega)]
    cases st with
    | nil=>rw [ct (dt (by simp [ff,Tm.flat_len]; omega))]; unfold st1; simp only [h2]; rfl
    | cons a st =>
     have ha:=a.pos
     have has:a.size + b.size ≤ (ff (b :: a :: st)).length:=by simp only [ff,Tm.flat_len,List.length_append]; omega
     have hj2:(((ff (b :: a :: st)).length:Int) - 1 - (b.size:Int)).toNat = (ff (b :: a :: st)).length - 1 - b.size:=by omega
     rw [cfl (df (by omega)),ck_int (by omega) (by simp [Sl.l,fs_len]; omega),Option.bind_some,hj2,nth_app fs_last2,w64 (n:=(a.size:Int) + b.size) (by omega) (by omega),w64 (by omega) (by omega),sizes_2 hn hkl (by omega)]
     unfold st1
     simp only [h2]
     by_cases hc:fitsB x = true ∧ x.f_A = ((ff (b :: a :: st)).length:Int) - 1 - b.size ∧ x.f_B = ((ff (b :: a :: st)).length:Int) - 1
     ·rw [if_pos hc,if_pos ⟨hc.1,by omega,by omega⟩,Option.bind_some]
      have:=ih fuel (.two x a b :: st) (by rw [hl]; simp [ff,Tm.flat]) (by simp at hf; omega)
      simpa [fs,ff,Tm.flat,Tm.vals,szA,Tm.sz_val,Nat.add_assoc,Int.add_assoc] using this
     ·rw [if_neg hc,if_neg fun hc'=>hc ⟨hc'.1,by omega,by omega⟩]; rfl
theorem sizes_ok (hn:600 ≤ n) (hN:(Sl.l x0).length ≤ 500):m_M n x0 = match sts 0 [] (Sl.l x0) with
   | none=>some (none,false)
   | some st'=>some (some (fs st'),single st'):=by
 obtain ⟨n,rfl⟩:∃ m,n = m + 1:=⟨n - 1,by omega⟩
 simp only [m_M,b_cF,Sl.len]
 rw [make_ok (Nat.le_refl _) (by omega) (by omega),Option.bind_some]
 have:=sizes_loop (n:=n) (x0:=x0) (by omega) hN (Sl.l x0) n [] rfl (by omega)
 simpa [fs,ff,Sl.len] using this
theorem sizes_tree (hn:600 ≤ n) (hN:(Sl.l x0).length ≤ 500) {t:Tm} (ht:tree (Sl.l x0) = some t):m_M n x0 = some (some t.szs,true):=by
 rw [sizes_ok hn hN]
 unfold tree at ht
 split at ht
 ·rename_i t' h'
  injection ht with ht; subst ht
  rw [h']; simp [fs,single]
 ·cases ht
theorem sizes_none (hn:600 ≤ n) (hN:(Sl.l x0).length ≤ 500) (ht:tree (Sl.l x0) = none):∃ y,m_M n x0 = some (y,false):=by
 rw [sizes_ok hn hN]
 unfold tree at ht
 cases h:sts 0 [] (Sl.l x0) with
 | none=>exact ⟨_,rfl⟩
 | some st =>
  rw [h] at ht
  refine ⟨some (fs st),?_⟩
  match st,ht with
  | [],_=>rfl
  | [t],ht=>simp at ht
  | a :: b :: st,_=>rfl
end
end Go.Proofs.YtaadjlpfdajggaaGreatDoor

set_option maxRecDepth 100000
set_option linter.unusedVariables false
set_option linter.unusedSimpArgs false
namespace Go.Proofs.YtaadjlpfdajggaaGreatDoor
open Go Go.AM
def depA (x:S_a) (v w:Int):Int:=if kd x.f_Kind = 0 then 1 else if kd x.f_Kind = 1 then 1 + v else 1 + max v w
abbrev Tm.dep (t:Tm):Int:=t.val 0 depA
theorem dep_leaf {n:S_a} {k:Nat} (h:(Tm.leaf n).At k):(Tm.leaf n).dep = 1:=by simp [Tm.dep,Tm.val,depA,h.2.1]
theorem dep_one {n:S_a} {t:Tm} {k:Nat} (h:(Tm.one n t).At k):(Tm.one n t).dep = 1 + t.dep:=by simp [Tm.dep,Tm.val,depA,h.2.2.1]
theorem dep_two {n:S_a} {a b:Tm} {k:Nat} (h:(Tm.two n a b).At k):(Tm.two n a b).dep = 1 + max a.dep b.dep:=by simp [Tm.dep,Tm.val,depA,h.2.2.2.1]
theorem dep_rng:∀ {t:Tm} {k:Nat},t.At k → 1 ≤ t.dep ∧ t.dep ≤ t.size ∧ ∀ v ∈ t.vals 0 depA,1 ≤ v ∧ v ≤ t.dep
 | .leaf n,k,h=>by
  rw [dep_leaf h]
  refine ⟨by omega,by simp [Tm.size],fun v hv=>?_⟩
  simp [Tm.vals,depA,h.2.1] at hv; omega
 | .one n t,k,h=>by
  obtain ⟨h1,h2,h3⟩:=dep_rng h.1
  rw [dep_one h]
  refine ⟨by omega,by simp [Tm.size]; omega,fun v hv=>?_⟩
  simp only [Tm.vals,List.mem_append,List.mem_singleton] at hv
  rcases hv with hv | rfl
  ·have:=h3 v hv; omega
  ·have e:=dep_one h
   simp only [Tm.dep,Tm.val] at e ⊢
   rw [e]; simp only [Tm.dep] at h1; omega
 | .two n a b,k,h=>by
  obtain ⟨h1,h2,h3⟩:=dep_rng h.1
  obtain ⟨g1,g2,g3⟩:=dep_rng h.2.1
  rw [dep_two h]
  refine ⟨by omega,by simp [Tm.size]; omega,fun v hv=>?_⟩
  simp only [Tm.vals,List.mem_append,List.mem_singleton] at hv
  rcases hv with (hv | hv) | rfl
  ·have:=h3 v hv; omega
  ·have:=g3 v hv; omega
  ·have e:=dep_two h
   simp only [Tm.dep,Tm.val] at e ⊢
   rw [e]; simp only [Tm.dep] at h1 g1; omega
section
variable {n:Nat} {x0:Sl S_a} {t:Tm}
theorem depths_loop (hn:2 ≤ n) (hN:(Sl.l x0).length ≤ 500) (hl:Sl.l x0 = t.flat) (ht:t.At 0):∀ (d fuel i:Nat),i + d = t.size → d < fuel →
  b_D (m_v n) n x0 fuel (pf (t.vals 0 depA) 0 i) (Sl.len x0) (i:Int) = some (some (t.vals 0 depA)):=by
 have hlen:Sl.len x0 = (t.size:Int):=by simp [Sl.len,hl,Tm.flat_len]
 have hs:t.size ≤ 500:=by rw [hl,Tm.flat_len] at hN; exact hN
 have hvl:(t.vals 0 depA).length = t.size:=t.vals_len _ _
 obtain ⟨_,hd2,hd3⟩:=dep_rng ht
 have rng:∀ {j:Nat} {v:Int},(t.vals 0 depA)[j]? = some v → 1 ≤ v ∧ v ≤ 500:=fun {j v} hv=>by have:=hd3 v (List.mem_iff_getElem?.2 ⟨_,hv⟩); omega
 intro d
 induction d with
 | zero =>
  intro fuel i hi hf
  obtain ⟨fuel,rfl⟩:∃ m,fuel = m + 1:=⟨fuel - 1,by omega⟩
  obtain rfl:i = t.size:=by omega
  rw [b_D,cfl (df (by omega)),← hvl,pf_end]
 | succ d ih =>
  intro fuel i hi hf
  obtain ⟨fuel,rfl⟩:∃ m,fuel = m + 1:=⟨fuel - 1,by omega⟩
  have hif:i < t.flat.length:=by rw [Tm.flat_len]; omega
  have hx:=List.getElem?_eq_getElem hif
  have hx0:Sl.nth x0 i = t.flat[i]:=nth_l (by rw [hl]; exact hx)
  have K:=Tm.kid (d:=(0:Int)) (alg:=depA) ht hx
  rw [b_D,ct (dt (by omega)),ck_ok (by rw [hl]; exact hif),Option.bind_some,hx0,kids_ok _ (by omega),Option.bind_some]
  have hck:∀ {j:Nat} {v:Int},(t.vals 0 depA)[j]? = some v → ck (Sl.l (pf (t.vals 0 depA) 0 i)).length ((0 + j:Nat):Int) = some j:=fun {j v} hv=>by
   rw [pf_len (by omega),Nat.zero_add]; exact ck_ok (List.getElem?_eq_some_iff.1 hv).1
  have hci:ck (Sl.l (pf (t.vals 0 depA) 0 i)).length (i:Int) = some i:=by rw [pf_len (by omega)]; exact ck_ok (by omega)
  generalize t.flat[i] = x at *
  rcases K.at_ with ⟨h1,h2,h3,h4⟩ | ⟨h1,j,v,h2,h3,h4,h5,h6⟩ | ⟨h1,j,m,v,w,h2,h3,h4,h5,h6,h7,h8⟩
  ·rw [h1,ct (dt (by omega)),hci,Option.bind_some,b_O,wp1 (by omega)]
   have e:depA x 0 0 = 1:=by simp [depA,h1]
   rw [e] at h4
   rw [pf_put h4]
   exact ih fuel (i + 1) (by omega) (by omega)
  ·have r5:=rng h5
   rw [h1,cfl (df (by omega)),ct (dt (by omega)),h3,hck h5,Option.bind_some,hci,Option.bind_some,b_O,wp1 (by omega),pf_nth h2 h5,w64 (by omega) (by omega)]
   have e:depA x v 0 = 1 + v:=by simp [depA,h1]
   rw [e] at h6
   rw [pf_put h6]
   exact ih fuel (i + 1) (by omega) (by omega)
  ·have r5:=rng h6
   have r6:=rng h7
   rw [h1,cfl (df (by omega)),cfl (df (by omega)),h4,hck h6,Option.bind_some,h5,hck h7,Option.bind_some,hci,Option.bind_some,b_O,wp1 (by omega),pf_nth h2 h6,pf_nth h3 h7,w64 (by omega) (by omega)]
   have e:depA x v w = 1 + max v w:=by simp [depA,h1]
   rw [e] at h8
   rw [pf_put h8]
   exact ih fuel (i + 1) (by omega) (by omega)
theorem depths_ok (hn:600 ≤ n) (hN:(Sl.l x0).length ≤ 500) (ht:tree (Sl.l x0) = some t):m_bC n x0 = some (some (t.vals 0 depA)):=by
 obtain ⟨n,rfl⟩:∃ m,n = m + 1:=⟨n - 1,by omega⟩
 obtain ⟨hl,hA⟩:=tree_some ht
 have hs:t.size ≤ 500:=by rw [hl,Tm.flat_len] at hN; exact hN
 simp only [m_bC,b_cn]
 have:=depths_loop (n:=n) (by omega) hN hl hA t.size n 0 (by omega) (by omega)
 rw [show Sl.len x0 = ((t.size:Nat):Int) by simp [Sl.len,hl,Tm.flat_len]] at this ⊢
 rw [make_ok (Nat.le_refl _) (by omega) (by omega),Option.bind_some]
 rw [pf_0,Tm.vals_len] at this
 exact this
theorem max_loop {vs:List Int} {M:Int} (hM:∀ v ∈ vs,v ≤ M) (hl:vs.length ≤ 1000):∀ (d fuel i:Nat) (m:Int),i + d = vs.length → d < fuel → m ≤ M → (m = M ∨ M ∈ vs.drop i) →
  b_z n (some vs) fuel m (i:Int) = some M:=by
 intro d
 induction d with
 | zero =>
  intro fuel i m hi hf hm hor
  obtain ⟨fuel,rfl⟩:∃ m,fuel = m + 1:=⟨fuel - 1,by omega⟩
  rw [b_z,cfl (df (by simp [Sl.len,Sl.l]; omega))]
  rcases hor with rfl | h
  ·rfl
  ·rw [List.drop_eq_nil_of_le (by omega)] at h; cases h
 | succ d ih =>
  intro fuel i m hi hf hm hor
  obtain ⟨fuel,rfl⟩:∃ m,fuel = m + 1:=⟨fuel - 1,by omega⟩
  have hil:i < vs.length:=by omega
  rw [b_z,ct (dt (by simp [Sl.len,Sl.l]; omega)),ck_ok (by simpa [Sl.l] using hil),Option.bind_some,wp1 (by omega),nth_l (v:=vs[i]) (by simp [Sl.l])]
  have hv:=hM _ (List.getElem_mem hil)
  refine ih fuel (i + 1) _ (by omega) (by omega) (by omega) ?_
  rw [List.drop_eq_getElem_cons hil] at hor
  rcases hor with rfl | h
  ·exact .inl (by omega)
  ·rcases List.mem_cons.1 h with h | h
   ·exact .inl (by omega)
   ·exact .inr h
theorem max_ok {vs:List Int} {M:Int} (hn:1100 ≤ n) (hM:∀ v ∈ vs,v ≤ M) (hm:M ∈ vs) (hl:vs.length ≤ 1000):m_T n (some vs) = some M:=by
 obtain ⟨n,rfl⟩:∃ m,n = m + 1:=⟨n - 1,by omega⟩
 have hp:0 < vs.length:=List.length_pos_of_mem hm
 simp only [m_T,b_9,b_3]
 rw [cfl (df (by simp [Sl.len,Sl.l]; omega)),ck_int (by omega) (by simp [Sl.l]; omega),Option.bind_some]
 have hv:=hM _ (List.getElem_mem hp)
 rw [show ((0:Int)).toNat = 0 from rfl,nth_l (v:=vs[0]) (by simp [Sl.l])]
 refine max_loop hM hl (vs.length - 1) n 1 _ (by omega) (by omega) hv ?_
 obtain ⟨i,hi⟩:=List.mem_iff_getElem?.1 hm
 cases i with
 | zero=>rw [List.getElem?_eq_getElem hp] at hi; injection hi with hi; exact .inl hi
 | succ i=>exact .inr (List.mem_iff_getElem?.2 ⟨i,by rw [List.getElem?_drop,Nat.add_comm]; exact hi⟩)
def formedR (l:List S_a):Int:=if 500 < l.length then 4 else match tree l with | none=>3 | some t=>if 40 < t.dep then 4 else 0
theorem formed_ok (hn:1200 ≤ n):m_bB n x0 = some (formedR (Sl.l x0)):=by
 obtain ⟨n,rfl⟩:∃ m,n = m + 1:=⟨n - 1,by omega⟩
 simp only [m_bB,b_cw,formedR]
 by_cases h:500 < (Sl.l x0).length
 ·rw [ct (dt (by simp only [Sl.len]; omega)),if_pos h]
 ·rw [cfl (df (by simp only [Sl.len]; omega)),if_neg h]
  cases ht:tree (Sl.l x0) with
  | none =>
   obtain ⟨y,hy⟩:=sizes_none (n:=n) (by omega) (by omega) ht
   rw [hy]; rfl
  | some t =>
   rw [sizes_tree (by omega) (by omega) ht,Option.bind_some]
   obtain ⟨hl,hA⟩:=tree_some ht
   have hs:t.size ≤ 500:=by rw [hl,Tm.flat_len] at h; omega
   obtain ⟨h1,h2,h3⟩:=dep_rng hA
   rw [depths_ok (by omega) (by omega) ht]
   simp only [Bool.not_true,cond_false,Option.bind_some]
   rw [max_ok (M:=t.dep) (by omega) (fun v hv=>(h3 v hv).2) (List.mem_iff_getElem?.2 ⟨_,t.vals_last 0 depA⟩) (by rw [Tm.vals_len]; omega),Option.bind_some]
   by_cases h4:40 < t.dep
   ·rw [ct (dt h4)]; simp [h4]
   ·rw [cfl (df h4)]; simp [h4]
def deepR (l:List S_a):Int:=if 500 < l.length then 0 else match tree l with | none=>0 | some t=>t.dep
end
def plusI (a b:Int):Int:=if a = -1 ∨ b = -1 then -1 else min (IntKind.i64.wrap (a + b)) 1048576
def timesI (a k:Int):Int:=if a = 0 ∨ k = 0 then 0 else if a = -1 ∨ k = -1 then -1 else min (IntKind.i64.wrap (a * k)) 1048576
theorem plus_ok {n:Nat} (a b:Int) (h:1 ≤ n):m_bq n a b = some (plusI a b):=by
 obtain ⟨n,rfl⟩:∃ m,n = m + 1:=⟨n - 1,by omega⟩
 simp only [m_bq,b_cX,plusI]
 by_cases h1:a = -1 <;> by_cases h2:b = -1 <;> simp [h1,h2]
theorem times_ok {n:Nat} (a b:Int) (h:1 ≤ n):m_bc n a b = some (timesI a b):=by
 obtain ⟨n,rfl⟩:∃ m,n = m + 1:=⟨n - 1,by omega⟩
 simp only [m_bc,b_cC,timesI]
 by_cases h1:a = 0
 ·simp [h1]
 by_cases h2:b = 0
 ·simp [h2]
 by_cases h3:a = -1 <;> by_cases h4:b = -1 <;> simp [h1,h2,h3,h4]
def lenA (x:S_a) (v w:Int × Int):Int × Int :=
 if x.f_Kind = 1 then (1,1) else if x.f_Kind = 12 then (0,-1) else if x.f_Kind = 8 then (plusI v.1 w.1,plusI v.2 w.2)
 else if x.f_Kind = 9 then (min v.1 w.1,if min v.2 w.2 = -1 then -1 else max v.2 w.2)
 else if x.f_Kind = 10 then (timesI v.1 x.f_Min,timesI v.2 x.f_Max) else if x.f_Kind = 11 ∨ x.f_Kind = 17 then v else (0,0)
abbrev Tm.lens (t:Tm):List (Int × Int):=t.vals (0,0) lenA
theorem lens_loop {n:Nat} {x0:Sl S_a} {t:Tm} (hn:2 ≤ n) (hN:(Sl.l x0).length ≤ 500) (hl:Sl.l x0 = t.flat) (ht:t.At 0):∀ (d fuel i:Nat),i + d = t.size → d < fuel →
  b_p (m_bq n) (m_bc n) n x0 fuel (pf (t.lens.map Prod.fst) 0 i) (pf (t.lens.map Prod.snd) 0 i) (Sl.len x0) (i:Int) = some (some (t.lens.map Prod.fst),some (t.lens.map Prod.snd)):=by
 have hlen:Sl.len x0 = (t.size:Int):=by simp [Sl.len,hl,Tm.flat_len]
 have hs:t.size ≤ 500:=by rw [hl,Tm.flat_len] at hN; exact hN
 have hvl:(t.lens.map Prod.fst).length = t.size:=by simp [Tm.vals_len]
 have hvl2:(t.lens.map Prod.snd).length = t.size:=by simp [Tm.vals_len]
 intro d
 induction d with
 | zero =>
  intro fuel i hi hf
  obtain ⟨fuel,rfl⟩:∃ m,fuel = m + 1:=⟨fuel - 1,by omega⟩
  obtain rfl:i = t.size:=by omega
  rw [b_p,cfl (df (by omega))]
  conv=>lhs; rw [← hvl]
  rw [pf_end,hvl,← hvl2,pf_end]
 | succ d ih =>
  intro fuel i hi hf
  obtain ⟨fuel,rfl⟩:∃ m,fuel = m + 1:=⟨fuel - 1,by omega⟩
  have hif:i < t.flat.length:=by rw [Tm.flat_len]; omega
  have hx:=List.getElem?_eq_getElem hif
  have hx0:Sl.nth x0 i = t.flat[i]:=nth_l (by rw [hl]; exact hx)
  have K:=Tm.kid (d:=((0:Int),(0:Int))) (alg:=lenA) ht hx
  rw [b_p,ct (dt (by omega)),ck_ok (by rw [hl]; exact hif),Option.bind_some,hx0]
  have f1:∀ {j:Nat} {v:Int × Int},t.lens[j]? = some v → (t.lens.map Prod.fst)[j]? = some v.1:=fun {j v} hv=>by rw [List.getElem?_map,hv]; rfl
  have f2:∀ {j:Nat} {v:Int × Int},t.lens[j]? = some v → (t.lens.map Prod.snd)[j]? = some v.2:=fun {j v} hv=>by rw [List.getElem?_map,hv]; rfl
  have hck1:∀ {j:Nat} {v:Int × Int},t.lens[j]? = some v → ck (Sl.l (pf (t.lens.map Prod.fst) 0 i)).length ((0 + j:Nat):Int) = some j:=fun {j v} hv=>by
   rw [pf_len (by omega),Nat.zero_add]; exact ck_ok (List.getElem?_eq_some_iff.1 (f1 hv)).1
  have hck2:∀ {j:Nat} {v:Int × Int},t.lens[j]? = some v → ck (Sl.l (pf (t.lens.map Prod.snd) 0 i)).length ((0 + j:Nat):Int) = some j:=fun {j v} hv=>by
   rw [pf_len (by omega),Nat.zero_add]; exact ck_ok (List.getElem?_eq_some_iff.1 (f2 hv)).1
  have hci1:ck (Sl.l (pf (t.lens.map Prod.fst) 0 i)).length (i:Int) = some i:=by rw [pf_len (by omega)]; exact ck_ok (by omega)
  have hci2:ck (Sl.l (pf (t.lens.map Prod.snd) 0 i)).length (i:Int) = some i:=by rw [pf_len (by omega)]; exact ck_ok (by omega)
  have go:=ih fuel (i + 1) (by omega) (by omega)
  generalize t.flat[i] = x at *
  by_cases k1:x.f_Kind = 1
  ·rw [ct (dt k1),hci1,Option.bind_some,hci2,Option.bind_some,b_o,wp1 (by omega)]
   have hv:t.lens[i]? = some (1,1):=by
    rcases K.at_ with ⟨h1,h2,h3,h4⟩ | ⟨h1,j,v,h2,h3,h4,h5,h6⟩ | ⟨h1,j,m,v,w,h2,h3,h4,h5,h6,h7,h8⟩
    ·rw [h4]; simp [lenA,k1]
    ·rw [h6]; simp [lenA,k1]
    ·rw [h8]; simp [lenA,k1]
   rw [pf_put (f1 hv),pf_put (f2 hv)]; exact go
  rw [cfl (df k1)]
  by_cases k2:x.f_Kind = 12
  ·rw [ct (dt k2),hci2,Option.bind_some,b_o,wp1 (by omega)]
   have hv:t.lens[i]? = some (0,-1):=by
    rcases K.at_ with ⟨h1,h2,h3,h4⟩ | ⟨h1,j,v,h2,h3,h4,h5,h6⟩ | ⟨h1,j,m,v,w,h2,h3,h4,h5,h6,h7,h8⟩
    ·rw [h4]; simp [lenA,k2]
    ·rw [h6]; simp [lenA,k2]
    ·rw [h8]; simp [lenA,k2]
   rw [pf_skip (f1 hv),pf_put (f2 hv)]; exact go
  rw [cfl (df k2)]
  by_cases k3:x.f_Kind = 8
  ·rcases K.at_ with ⟨h1,_⟩ | ⟨h1,_⟩ | ⟨h1,j,m,v,w,h2,h3,h4,h5,h6,h7,h8⟩
   ·simp [kd,k3] at h1
   ·simp [kd,k3] at h1
   have hv:t.lens[i]? = some (plusI v.1 w.1,plusI v.2 w.2):=by rw [h8]; simp [lenA,k3]
   rw [ct (dt k3),h4,hck1 h6,Option.bind_some,h5,hck1 h7,Option.bind_some,plus_ok _ _ (by omega),Option.bind_some,hck2 h6,Option.bind_some,hck2 h7,Option.bind_some,plus_ok _ _ (by omega),Option.bind_some,hci1,Option.bind_some,hci2,Option.bind_some,
    b_o,wp1 (by omega),pf_nth h2 (f1 h6),pf_nth h3 (f1 h7),pf_nth h2 (f2 h6),pf_nth h3 (f2 h7),pf_put (f1 hv),pf_put (f2 hv)]
   exact go
  rw [cfl (df k3)]
  by_cases k4:x.f_Kind = 9
  ·rcases K.at_ with ⟨h1,_⟩ | ⟨h1,_⟩ | ⟨h1,j,m,v,w,h2,h3,h4,h5,h6,h7,h8⟩
   ·simp [kd,k4] at h1
   ·simp [kd,k4] at h1
   have hv:t.lens[i]? = some (min v.1 w.1,if min v.2 w.2 = -1 then -1 else max v.2 w.2):=by rw [h8]; simp [lenA,k4]
   rw [ct (dt k4),h4,hck1 h6,Option.bind_some,h5,hck1 h7,Option.bind_some,hck2 h6,Option.bind_some,hck2 h7,Option.bind_some,hci1,Option.bind_some,hci2,Option.bind_some]
   have n1:Sl.nth (pf (t.lens.map Prod.fst) 0 i) j = v.1:=pf_nth h2 (f1 h6)
   have n2:Sl.nth (pf (t.lens.map Prod.fst) 0 i) m = w.1:=pf_nth h3 (f1 h7)
   have n3:Sl.nth (pf (t.lens.map Prod.snd) 0 i) j = v.2:=pf_nth h2 (f2 h6)
   have n4:Sl.nth (pf (t.lens.map Prod.snd) 0 i) m = w.2:=pf_nth h3 (f2 h7)
   have e3:∀ z,Sl.nth (Sl.put (pf (t.lens.map Prod.snd) 0 i) i z) j = v.2:=fun z=>(nth_put_ne (by omega)).trans n3
   have e4:∀ z,Sl.nth (Sl.put (pf (t.lens.map Prod.snd) 0 i) i z) m = w.2:=fun z=>(nth_put_ne (by omega)).trans n4
   simp only [e3,e4,n1,n2,n3,n4,put_put,b_o,wp1 (show i < 1000000 by omega)]
   by_cases hm:min v.2 w.2 = -1
   ·rw [if_pos hm] at hv
    rw [ct (dt hm),pf_put (f1 hv),pf_put (f2 hv)]; exact go
   ·rw [if_neg hm] at hv
    rw [cfl (df hm),pf_put (f1 hv),pf_put (f2 hv)]; exact go
  rw [cfl (df k4)]
  by_cases k5:x.f_Kind = 10
  ·rcases K.at_ with ⟨h1,_⟩ | ⟨h1,j,v,h2,h3,h4,h5,h6⟩ | ⟨h1,_⟩
   ·simp [kd,k5] at h1
   case inr.inr=>simp [kd,k5] at h1
   have hv:t.lens[i]? = some (timesI v.1 x.f_Min,timesI v.2 x.f_Max):=by rw [h6]; simp [lenA,k5]
   rw [ct (dt k5),h3,hck1 h5,Option.bind_some,times_ok _ _ (by omega),Option.bind_some,hck2 h5,Option.bind_some,times_ok _ _ (by omega),Option.bind_some,hci1,Option.bind_some,hci2,Option.bind_some,
    b_o,wp1 (by omega),pf_nth h2 (f1 h5),pf_nth h2 (f2 h5),pf_put (f1 hv),pf_put (f2 hv)]
   exact go
  rw [cfl (df k5)]
  by_cases k6:x.f_Kind = 11 ∨ x.f_Kind = 17
  ·rcases K.at_ with ⟨h1,_⟩ | ⟨h1,j,v,h2,h3,h4,h5,h6⟩ | ⟨h1,_⟩
   ·rcases k6 with k6 | k6 <;> simp [kd,k6] at h1
   case inr.inr=>rcases k6 with k6 | k6 <;> simp [kd,k6] at h1
   have hv:t.lens[i]? = some v:=by rw [h6]; rcases k6 with k6 | k6 <;> simp [lenA,k6]
   have fin:b_bg (m_bq n) (m_bc n) n (b_p (m_bq n) (m_bc n) n x0 fuel) x0 (pf (t.lens.map Prod.fst) 0 i) (pf (t.lens.map Prod.snd) 0 i) i x (Sl.len x0) i true = some (some (t.lens.map Prod.fst),some (t.lens.map Prod.snd)):=by
    rw [b_bg,cond_true,h3,hck1 h5,Option.bind_some,hck2 h5,Option.bind_some,hci1,Option.bind_some,hci2,Option.bind_some,b_o,wp1 (by omega),pf_nth h2 (f1 h5),pf_nth h2 (f2 h5),pf_put (f1 hv),pf_put (f2 hv)]
    exact go
   by_cases k7:x.f_Kind = 11
   ·rw [ct (dt k7),dt k7]; exact fin
   ·rw [cfl (df k7),dt (k6.resolve_left k7)]; exact fin
  rw [cfl (df fun h=>k6 (.inl h)),df fun h=>k6 (.inr h),b_bg,cond_false,b_o,wp1 (by omega)]
  have hv:t.lens[i]? = some (0,0):=by
   have e:∀ v w,lenA x v w = (0,0):=fun v w=>by simp only [lenA,if_neg k1,if_neg k2,if_neg k3,if_neg k4,if_neg k5,if_neg k6]
   rcases K.at_ with ⟨h1,h2,h3,h4⟩ | ⟨h1,j,v,h2,h3,h4,h5,h6⟩ | ⟨h1,j,m,v,w,h2,h3,h4,h5,h6,h7,h8⟩
   ·rw [h4,e]
   ·rw [h6,e]
   ·rw [h8,e]
  rw [pf_skip (f1 hv),pf_skip (f2 hv)]; exact go
theorem lens_ok {n:Nat} {x0:Sl S_a} {t:Tm} (hn:600 ≤ n) (hN:(Sl.l x0).length ≤ 500) (ht:tree (Sl.l x0) = some t):m_b5 n x0 = some (some (t.lens.map Prod.fst),some (t.lens.map Prod.snd)):=by
 obtain ⟨n,rfl⟩:∃ m,n = m + 1:=⟨n - 1,by omega⟩
 obtain ⟨hl,hA⟩:=tree_some ht
 have hs:t.size ≤ 500:=by rw [hl,Tm.flat_len] at hN; exact hN
 simp only [m_b5,b_c3]
 have:=lens_loop (n:=n) (by omega) hN hl hA t.size n 0 (by omega) (by omega)
 rw [show Sl.len x0 = ((t.size:Nat):Int) by simp [Sl.len,hl,Tm.flat_len]] at this ⊢
 rw [make_ok (Nat.le_refl _) (by omega) (by omega),Option.bind_some]
 rw [pf_0,pf_0,List.length_map,List.length_map,Tm.vals_len] at this
 exact this
end Go.Proofs.YtaadjlpfdajggaaGreatDoor

set_option maxRecDepth 100000
set_option linter.unusedVariables false
set_option linter.unusedSimpArgs false
namespace Go.Proofs.YtaadjlpfdajggaaGreatDoor
open Go Go.AM
theorem sz_rng:∀ {t:Tm},∀ v ∈ t.szs,1 ≤ v ∧ v ≤ t.size
 | .leaf n=>fun v hv=>by simp [Tm.vals,szA] at hv; simp [Tm.size]; omega
 | .one n t=>fun v hv=>by
  simp only [Tm.vals,List.mem_append,List.mem_singleton] at hv
  rcases hv with hv | rfl
  ·have:=sz_rng v hv; simp [Tm.size]; omega
  ·simp [szA,Tm.sz_val,Tm.size]; omega
 | .two n a b=>fun v hv=>by
  simp only [Tm.vals,List.mem_append,List.mem_singleton] at hv
  rcases hv with (hv | hv) | rfl
  ·have:=sz_rng v hv; simp [Tm.size]; omega
  ·have:=sz_rng v hv; simp [Tm.size]; omega
  ·simp [szA,Tm.sz_val,Tm.size]; omega
def szAt (sz:List Int) (x:Int):Int:=sz.getD x.toNat default
def cfG (sz:List Int) (x y:Int):Int:=if (x - szAt sz x + 1) - (y - szAt sz y + 1) ≠ 0 then (x - szAt sz x + 1) - (y - szAt sz y + 1) else szAt sz y - szAt sz x
def InR (sz:List Int) (x:Int):Prop:=0 ≤ x ∧ x < sz.length
theorem srt_congr {cf cg:Int → Int → Int} {l:List Int} (h:∀ a ∈ l,∀ b ∈ l,cf a b = cg a b):srt cf l = srt cg l:=by
 have:=List.map_mergeSort (r:=fun x y=>!ltC cf y x) (s:=fun x y=>!ltC cg y x) (f:=id) (l:=l) (fun a ha b hb=>by simp only [ltC,id,h b hb a ha])
 simpa [srt] using this
theorem ltG {sz:List Int} {x y:Int}:ltC (cfG sz) x y = true ↔ (x - szAt sz x < y - szAt sz y ∨ (x - szAt sz x = y - szAt sz y ∧ szAt sz y < szAt sz x)):=by
 unfold ltC cfG
 rw [decide_eq_true_iff]
 split <;> omega
theorem ltG' {sz:List Int} {x y:Int}:ltC (cfG sz) x y = false ↔ ¬ (x - szAt sz x < y - szAt sz y ∨ (x - szAt sz x = y - szAt sz y ∧ szAt sz y < szAt sz x)):=by
 rw [← ltG,Bool.not_eq_true]
theorem ord_G (sz l:List Int):OrdOn (ltC (cfG sz)) l where
 irrefl x _:=by rw [ltG']; omega
 trans x _ y _ z _ h1 h2:=by rw [ltG] at *; omega
 ntrans x _ y _ z _ h1 h2:=by rw [ltG'] at *; omega
 anti x _ y _ h1 h2:=by rw [ltG'] at *; omega
section
variable {n:Nat} {sz:List Int}
theorem c1_ok {x:Int} (hn:1 ≤ n) (hb:∀ v ∈ sz,1 ≤ v ∧ v ≤ 500) (hl:sz.length ≤ 500) (hx:InR sz x):m_bh n x (some sz) = some (x - szAt sz x + 1):=by
 obtain ⟨n,rfl⟩:∃ m,n = m + 1:=⟨n - 1,by omega⟩
 obtain ⟨h1,h2⟩:=hx
 have hj:x.toNat < sz.length:=by omega
 have:=hb _ (List.getElem_mem hj)
 have e:szAt sz x = sz[x.toNat]:=by simp [szAt,List.getD,hj]
 simp only [m_bh,b_bE,Sl.l]
 rw [ck_int h1 h2,Option.bind_some,nth_l (v:=sz[x.toNat]) (by simp [Sl.l,hj]),w64 (n:=x - _) (by omega) (by omega),w64 (by omega) (by omega),e]
theorem c2_ok {x y:Int} (hn:2 ≤ n) (hb:∀ v ∈ sz,1 ≤ v ∧ v ≤ 500) (hl:sz.length ≤ 500) (hx:InR sz x) (hy:InR sz y):m_l n x y (some sz) (some sz) = some (cfG sz x y):=by
 obtain ⟨n,rfl⟩:∃ m,n = m + 1:=⟨n - 1,by omega⟩
 have hjx:x.toNat < sz.length:=by have:=hx.1; have:=hx.2; omega
 have hjy:y.toNat < sz.length:=by have:=hy.1; have:=hy.2; omega
 have b1:=hb _ (List.getElem_mem hjx)
 have b2:=hb _ (List.getElem_mem hjy)
 have e1:szAt sz x = sz[x.toNat]:=by simp [szAt,List.getD,hjx]
 have e2:szAt sz y = sz[y.toNat]:=by simp [szAt,List.getD,hjy]
 simp only [m_l,b_bF]
 rw [c1_ok (by omega) hb hl hx,Option.bind_some,c1_ok (by omega) hb hl hy,Option.bind_some]
 have:=hx.1; have:=hx.2; have:=hy.1; have:=hy.2
 rw [w64 (by omega) (by omega)]
 unfold cfG
 by_cases h:(x - szAt sz x + 1) - (y - szAt sz y + 1) = 0
 ·rw [cfl (by simp [h]),if_neg (by simp [h])]
  simp only [Sl.l]
  rw [ck_int hy.1 hy.2,Option.bind_some,ck_int hx.1 hx.2,Option.bind_some,nth_l (x:=some sz) (v:=sz[y.toNat]) (by simp [Sl.l,hjy]),nth_l (x:=some sz) (v:=sz[x.toNat]) (by simp [Sl.l,hjx]),w64 (by omega) (by omega),e1,e2]
 ·rw [ct (by simp [h]),if_pos h]
theorem sort_ok {l:List Int} (hn:3 ≤ n) (hb:∀ v ∈ sz,1 ≤ v ∧ v ≤ 500) (hl:sz.length ≤ 500) (hx:∀ x ∈ l,InR sz x) (h0:l ≠ []) (hl':l.length ≤ 500):m_h n (some l) (some sz) = some (some (srt (cfG sz) l)):=by
 obtain ⟨n,rfl⟩:∃ m,n = m + 1:=⟨n - 1,by omega⟩
 have hc:∀ x ∈ l,∀ y ∈ l,(m_l n x y (some sz) (some sz)).getD 0 = cfG sz x y:=fun x h y h'=>by rw [c2_ok (by omega) hb hl (hx x h) (hx y h')]; rfl
 simp only [m_h]
 rw [if_pos,srt_congr hc]
 refine ⟨h0,by omega,fun x h y h'=>by rw [c2_ok (by omega) hb hl (hx x h) (hx y h')]; simp,?_⟩
 have o:=ord_G sz l
 have e:∀ x ∈ l,∀ y ∈ l,ltC (fun x y=>(m_l n x y (some sz) (some sz)).getD 0) x y = ltC (cfG sz) x y:=fun x h y h'=>by simp only [ltC,hc x h y h']
 exact ⟨fun x h=>by rw [e x h x h]; exact o.irrefl x h,fun x h y h' z h''=>by rw [e x h y h',e y h' z h'',e x h z h'']; exact o.trans x h y h' z h'',fun x h y h' z h''=>by rw [e x h y h',e y h' z h'',e x h z h'']; exact o.ntrans x h y h' z h'',fun x h y h'=>by rw [e x h y h',e y h' x h]; exact o.anti x h y h'⟩
end
def gix (i:Nat):List S_a → List Int
 | []=>[]
 | x :: xs=>if x.f_Kind = 11 then (i:Int) :: gix (i + 1) xs else gix (i + 1) xs
theorem gix_rng:∀ {l:List S_a} {i:Nat},∀ x ∈ gix i l,(i:Int) ≤ x ∧ x < i + l.length
 | [],i=>fun x hx=>by simp [gix] at hx
 | y :: l,i=>fun x hx=>by
  unfold gix at hx
  have ih:=@gix_rng l (i + 1)
  split at hx
  ·rcases List.mem_cons.1 hx with rfl | hx
   ·simp; omega
   ·have:=ih x hx; simp; omega
  ·have:=ih x hx; simp; omega
theorem gix_len:∀ {l:List S_a} {i:Nat},(gix i l).length ≤ l.length
 | [],i=>by simp [gix]
 | y :: l,i=>by
  have:=@gix_len l (i + 1)
  unfold gix
  split <;> simp <;> omega
def oddB (g:Nat) (x:S_a):Bool:=decide (x.f_Kind = 12) && (decide (x.f_N < 1) || decide ((g:Int) < x.f_N))
def numOk (l:List S_a):List Int → Int → Bool
 | [],_=>true
 | i :: S,k=>decide ((l.getD i.toNat default).f_N = k + 1) && numOk l S (k + 1)
def ol (l:List Int):Sl Int:=if l = [] then none else some l
theorem ol_l (l:List Int):Sl.l (ol l) = l:=by
 unfold ol; split
 ·rename_i h; rw [h]; rfl
 ·rfl
def groupedR (l:List S_a) (sz:List Int):Bool :=
 numOk l (srt (cfG sz) (gix 0 l)) 0 && (decide ((gix 0 l).length ≤ 9) && !l.any (oddB (gix 0 l).length))
section
variable {n:Nat} {x0:Sl S_a} {sz:List Int}
theorem idx_loop {o:Sl Int} {g:Nat} (hg:(Sl.l o).length = g) (hn:2 ≤ n) (hN:(Sl.l x0).length ≤ 500):∀ (d fuel i:Nat),i + d = (Sl.l x0).length → d < fuel →
  ∃ r,b_s (m_2 n) n x0 o fuel (Sl.len x0) (i:Int) = some r ∧ decide (0 ≤ r) = ((Sl.l x0).drop i).any (oddB g):=by
 intro d
 induction d with
 | zero =>
  intro fuel i hi hf
  obtain ⟨fuel,rfl⟩:∃ m,fuel = m + 1:=⟨fuel - 1,by omega⟩
  rw [b_s,cfl (df (by simp only [Sl.len]; omega)),List.drop_eq_nil_of_le (by omega)]
  exact ⟨_,rfl,rfl⟩
 | succ d ih =>
  intro fuel i hi hf
  obtain ⟨fuel,rfl⟩:∃ m,fuel = m + 1:=⟨fuel - 1,by omega⟩
  have hil:i < (Sl.l x0).length:=by omega
  rw [b_s,ct (dt (by simp only [Sl.len]; omega)),ck_ok hil,Option.bind_some,nth_l (List.getElem?_eq_getElem hil),List.drop_eq_getElem_cons hil,List.any_cons]
  have h3:∀ x,m_2 n x o = some (oddB g x):=fun x=>by
   obtain ⟨n,rfl⟩:∃ m,n = m + 1:=⟨n - 1,by omega⟩
   simp only [m_2,b_bK,oddB,Sl.len,hg]
  rw [h3,Option.bind_some]
  cases hv:oddB g (Sl.l x0)[i] with
  | true=>exact ⟨_,rfl,by simp⟩
  | false =>
   rw [cond_false,wp1 (by omega),Bool.false_or]
   exact ih fuel (i + 1) (by omega) (by omega)
theorem cont_ok {o:Sl Int} {g:Nat} (hg:(Sl.l o).length = g) (hn:600 ≤ n) (hN:(Sl.l x0).length ≤ 500):m_w n x0 o = some ((Sl.l x0).any (oddB g)):=by
 obtain ⟨n,rfl⟩:∃ m,n = m + 2:=⟨n - 2,by omega⟩
 obtain ⟨r,h1,h2⟩:=idx_loop (n:=n) hg (by omega) hN (Sl.l x0).length n 0 (by omega) (by omega)
 simp only [m_w,b_1,m_0,b_Y]
 rw [show ((0:Nat):Int) = 0 from rfl] at h1
 rw [h1,Option.bind_some,h2,List.drop_zero]
theorem num_loop {S:List Int} {N:Nat} (hN:N = S.length) (hn:700 ≤ n) (hx:(Sl.l x0).length ≤ 500) (hS:∀ x ∈ S,0 ≤ x ∧ x < ((Sl.l x0).length:Int)) (hl:S.length ≤ 500) {o:Sl Int} (ho:Sl.l o = S):∀ (d fuel i:Nat),i + d = N → d < fuel →
  b_U (m_M n) (m_h n) (m_w n) n x0 fuel o (N:Int) (i:Int) =
   some (numOk (Sl.l x0) (S.drop i) i && (decide (S.length ≤ 9) && !(Sl.l x0).any (oddB S.length))):=by
 intro d
 induction d with
 | zero =>
  intro fuel i hi hf
  obtain ⟨fuel,rfl⟩:∃ m,fuel = m + 1:=⟨fuel - 1,by omega⟩
  rw [b_U,cfl (df (by omega)),List.drop_eq_nil_of_le (by omega),numOk,Bool.true_and]
  by_cases h9:S.length ≤ 9
  ·rw [ct (dt (by simp only [Sl.len,ho]; omega)),cont_ok (g:=S.length) (by rw [ho]) (by omega) hx,dt h9]; rfl
  ·rw [cfl (df (by simp only [Sl.len,ho]; omega)),df h9]; rfl
 | succ d ih =>
  intro fuel i hi hf
  obtain ⟨fuel,rfl⟩:∃ m,fuel = m + 1:=⟨fuel - 1,by omega⟩
  have hil:i < S.length:=by omega
  have hm:=hS _ (List.getElem_mem hil)
  have hil':i < (Sl.l o).length:=by rw [ho]; exact hil
  have ho':Sl.nth o i = S[i]:=nth_l (by rw [ho]; exact List.getElem?_eq_getElem hil)
  rw [b_U,ct (dt (by omega)),ck_ok hil',Option.bind_some,ho',ck_int hm.1 hm.2,Option.bind_some,wp1 (by omega),List.drop_eq_getElem_cons hil,numOk]
  have e:Sl.nth x0 S[i].toNat = (Sl.l x0).getD S[i].toNat default:=rfl
  rw [e]
  by_cases h:((Sl.l x0).getD S[i].toNat default).f_N = ((i + 1:Nat):Int)
  ·rw [cfl (by rw [dt h]; rfl),ih fuel (i + 1) (by omega) (by omega),dt (show _ = (i:Int) + 1 by rw [h]; omega),Bool.true_and]
   congr 2
  ·rw [ct (by rw [df h]; rfl),df (show ¬ (_ = (i:Int) + 1) by omega)]; rfl
theorem grp_loop (hn:700 ≤ n) (hN:(Sl.l x0).length ≤ 500) (hb:∀ v ∈ sz,1 ≤ v ∧ v ≤ 500) (hsz:sz.length = (Sl.l x0).length):∀ (xs:List S_a) (fuel i:Nat) (acc:List Int),(Sl.l x0).drop i = xs → i ≤ (Sl.l x0).length → xs.length < fuel → (∀ x ∈ acc,InR sz x) → acc.length ≤ i →
  b_E (m_M n) (m_h n) (m_w n) n x0 fuel (some sz) (ol acc) (Sl.len x0) (i:Int) =
   some (numOk (Sl.l x0) (srt (cfG sz) (acc ++ gix i xs)) 0 && (decide ((acc ++ gix i xs).length ≤ 9) && !(Sl.l x0).any (oddB (acc ++ gix i xs).length))):=by
 intro xs
 induction xs with
 | nil =>
  intro fuel i acc hd hi hf hr ha
  obtain ⟨fuel,rfl⟩:∃ m,fuel = m + 1:=⟨fuel - 1,by omega⟩
  have hlen:(Sl.l x0).length ≤ i:=List.drop_eq_nil_iff.1 hd
  rw [b_E,cfl (df (by simp only [Sl.len]; omega))]
  simp only [gix,List.append_nil]
  have hlen':Sl.len (ol acc) = ((acc.length:Nat):Int):=by simp only [Sl.len,ol_l]
  by_cases h0:acc = []
  ·subst h0
   obtain ⟨n,rfl⟩:∃ m,n = m + 1:=⟨n - 1,by omega⟩
   have e:m_h (n + 1) (ol []) (some sz) = some none:=rfl
   have:=num_loop (n:=n + 1) (x0:=x0) (S:=[]) (N:=0) rfl (by omega) hN (by simp) (by simp) (o:=none) rfl 0 (n + 1) 0 rfl (by omega)
   rw [e,Option.bind_some,hlen']
   simpa [srt,numOk] using this
  ·have e:ol acc = some acc:=if_neg h0
   have hS:∀ x ∈ srt (cfG sz) acc,0 ≤ x ∧ x < ((Sl.l x0).length:Int):=fun x hx=>by
    have:=hr x (List.mem_mergeSort.1 hx)
    rw [InR,hsz] at this; exact this
   have hl:(srt (cfG sz) acc).length = acc.length:=List.length_mergeSort _
   rw [hlen',e,sort_ok (by omega) hb (by omega) hr h0 (by omega),Option.bind_some]
   have:=num_loop (n:=n) (x0:=x0) (S:=srt (cfG sz) acc) (N:=acc.length) hl.symm hn hN hS (by omega) (o:=some (srt (cfG sz) acc)) rfl acc.length n 0 (by omega) (by omega)
   rw [hl] at this
   exact this
 | cons x xs ih =>
  intro fuel i acc hd hi hf hr ha
  obtain ⟨fuel,rfl⟩:∃ m,fuel = m + 1:=⟨fuel - 1,by simp at hf; omega⟩
  have hil:i < (Sl.l x0).length:=by
   rcases Nat.lt_or_ge i (Sl.l x0).length with h | h
   ·exact h
   ·rw [List.drop_eq_nil_of_le h] at hd; cases hd
  rw [List.drop_eq_getElem_cons hil] at hd
  injection hd with hx hd
  rw [b_E,ct (dt (by simp only [Sl.len]; omega)),ck_ok hil,Option.bind_some,nth_l (List.getElem?_eq_getElem hil),hx]
  by_cases h:x.f_Kind = 11
  ·rw [ct (dt h),show gix i (x :: xs) = (i:Int) :: gix (i + 1) xs by simp [gix,h]]
   have e:Sl.app 8 (ol acc) (some ([(i:Int)]:List Int)) = some (ol (acc ++ [(i:Int)])):=by
    have hr2:(8000000:Nat) ≤ roomMost:=Nat.le_of_ble_eq_true rfl
    unfold Sl.app
    rw [if_neg (by simp [Sl.l]),if_pos (by rw [ol_l]; simp [Sl.l]; omega),ol_l]
    simp [ol,Sl.l]
   rw [e,Option.bind_some,b_5,wp1 (by omega)]
   have:=ih fuel (i + 1) (acc ++ [(i:Int)]) hd (by omega) (by simp at hf; omega) (fun y hy=>by
    rcases List.mem_append.1 hy with hy | hy
    ·exact hr y hy
    ·rw [List.mem_singleton] at hy; subst hy; exact ⟨by omega,by rw [hsz]; omega⟩) (by simp; omega)
   rw [List.append_assoc] at this
   exact this
  ·rw [cfl (df h),show gix i (x :: xs) = gix (i + 1) xs by simp [gix,h],b_5,wp1 (by omega)]
   exact ih fuel (i + 1) acc hd (by omega) (by simp at hf; omega) hr (by omega)
theorem grouped_ok {t:Tm} (hn:800 ≤ n) (hN:(Sl.l x0).length ≤ 500) (ht:tree (Sl.l x0) = some t):m_bo n x0 = some (groupedR (Sl.l x0) t.szs):=by
 obtain ⟨n,rfl⟩:∃ m,n = m + 1:=⟨n - 1,by omega⟩
 obtain ⟨hl,hA⟩:=tree_some ht
 have hs:t.size ≤ 500:=by rw [hl,Tm.flat_len] at hN; exact hN
 simp only [m_bo,b_cg]
 rw [sizes_tree (by omega) hN ht,Option.bind_some]
 have:=grp_loop (n:=n) (x0:=x0) (sz:=t.szs) (by omega) hN (fun v hv=>by have:=sz_rng v hv; omega) (by rw [Tm.vals_len,hl,Tm.flat_len]) (Sl.l x0) n 0 [] rfl (by omega) (by omega) (by simp) (by simp)
 simpa [ol,groupedR] using this
end
def BehOk (t:Tm):Prop:=∀ (i:Nat) x,t.flat[i]? = some x → (x.f_Kind = 15 ∨ x.f_Kind = 16) → ∀ (j:Nat) v,x.f_A = (j:Int) → t.lens[j]? = some v → v.1 = v.2 ∧ v.1 ≤ 255
section
variable {n:Nat} {x0:Sl S_a} {t:Tm}
theorem right_loop {c1:T_bA} {c2:T_b7} {c3:T_bp} (hl:Sl.l x0 = t.flat) (ht:t.At 0) (hs:t.size ≤ 500):∀ (d fuel i:Nat),i + d = t.size → d < fuel →
  ∃ r,b_N c1 c2 c3 n x0 fuel (some (t.lens.map Prod.fst)) (some (t.lens.map Prod.snd)) (Sl.len x0) (i:Int) = some r ∧ (r = 0 ∨ r = 7) ∧ (r = 0 ↔ ∀ (i':Nat) x,i ≤ i' → t.flat[i']? = some x → (x.f_Kind = 15 ∨ x.f_Kind = 16) → ∀ (j:Nat) v,x.f_A = (j:Int) → t.lens[j]? = some v → v.1 = v.2 ∧ v.1 ≤ 255):=by
 have hlen:Sl.len x0 = (t.size:Int):=by simp [Sl.len,hl,Tm.flat_len]
 intro d
 induction d with
 | zero =>
  intro fuel i hi hf
  obtain ⟨fuel,rfl⟩:∃ m,fuel = m + 1:=⟨fuel - 1,by omega⟩
  rw [b_N,cfl (df (by omega))]
  refine ⟨0,rfl,.inl rfl,fun _ i' x hi' hx=>?_,fun _=>rfl⟩
  have:=(List.getElem?_eq_some_iff.1 hx).1
  rw [Tm.flat_len] at this; omega
 | succ d ih =>
  intro fuel i hi hf
  obtain ⟨fuel,rfl⟩:∃ m,fuel = m + 1:=⟨fuel - 1,by omega⟩
  have hif:i < t.flat.length:=by rw [Tm.flat_len]; omega
  have hx:=List.getElem?_eq_getElem hif
  have hx0:Sl.nth x0 i = t.flat[i]:=nth_l (by rw [hl]; exact hx)
  have K:=Tm.kid (d:=((0:Int),(0:Int))) (alg:=lenA) ht hx
  obtain ⟨r,hr1,hr2,hr3⟩:=ih fuel (i + 1) (by omega) (by omega)
  rw [b_N,ct (dt (by omega)),ck_ok (by rw [hl]; exact hif),Option.bind_some,hx0]
  generalize t.flat[i] = x at *
  have step:(∀ (j:Nat) v,(x.f_Kind = 15 ∨ x.f_Kind = 16) → x.f_A = (j:Int) → t.lens[j]? = some v → v.1 = v.2 ∧ v.1 ≤ 255) → (r = 0 ↔ ∀ (i':Nat) x,i ≤ i' → t.flat[i']? = some x → (x.f_Kind = 15 ∨ x.f_Kind = 16) → ∀ (j:Nat) v,x.f_A = (j:Int) → t.lens[j]? = some v → v.1 = v.2 ∧ v.1 ≤ 255):=fun hc=>by
   refine ⟨fun h i' y hi' hy hk j v hj hv=>?_,fun h=>hr3.2 fun i' y hi'=>h i' y (by omega)⟩
   rcases Nat.lt_or_ge i i' with h' | h'
   ·exact hr3.1 h i' y (by omega) hy hk j v hj hv
   ·obtain rfl:i' = i:=by omega
    rw [hx] at hy; injection hy with hy; subst hy
    exact hc j v hk hj hv
  by_cases k:x.f_Kind = 15 ∨ x.f_Kind = 16
  ·have f1:∀ {j:Nat} {v:Int × Int},t.lens[j]? = some v → (t.lens.map Prod.fst)[j]? = some v.1:=fun {j v} hv=>by rw [List.getElem?_map,hv]; rfl
   have f2:∀ {j:Nat} {v:Int × Int},t.lens[j]? = some v → (t.lens.map Prod.snd)[j]? = some v.2:=fun {j v} hv=>by rw [List.getElem?_map,hv]; rfl
   rcases K.at_ with ⟨h1,_⟩ | ⟨h1,j,v,h2,h3,h4,h5,h6⟩ | ⟨h1,_⟩
   ·rcases k with k | k <;> simp [kd,k] at h1
   case inr.inr=>rcases k with k | k <;> simp [kd,k] at h1
   have hj:j < t.lens.length:=(List.getElem?_eq_some_iff.1 h5).1
   rw [cfl (by rcases k with k | k <;> simp [k]),h3,Nat.zero_add,ck_ok (by simp [Sl.l]; exact hj),Option.bind_some,ck_ok (by simp [Sl.l]; exact hj),Option.bind_some,nth_l (x:=some (t.lens.map Prod.fst)) (f1 h5),nth_l (x:=some (t.lens.map Prod.snd)) (f2 h5)]
   by_cases hc:v.1 = v.2 ∧ v.1 ≤ 255
   ·rw [cfl (by simp [hc.1]; have:=hc.2; have:=hc.1; omega),b_bm,wp1 (by omega)]
    refine ⟨r,hr1,hr2,step fun j' v' _ hj' hv'=>?_⟩
    obtain rfl:j' = j:=by rw [h3] at hj'; omega
    rw [h5] at hv'; injection hv' with hv'; subst hv'; exact hc
   ·rw [ct (by
     simp only [Bool.or_eq_true,Bool.not_eq_true',decide_eq_false_iff_not,decide_eq_true_eq]
     by_cases h:v.1 = v.2
     ·exact .inr (by
      have:¬ (v.1 ≤ 255):=fun h'=>hc ⟨h,h'⟩
      omega)
     ·exact .inl h)]
    refine ⟨7,rfl,.inr rfl,fun h=>(by cases h),fun h=>(hc (h i x (Nat.le_refl _) hx k j v (by rw [h3,Nat.zero_add]) h5)).elim⟩
  ·rw [ct (by simp only [Bool.and_eq_true,Bool.not_eq_true',decide_eq_false_iff_not]; exact ⟨fun h=>k (.inl h),fun h=>k (.inr h)⟩),b_bm,wp1 (by omega)]
   exact ⟨r,hr1,hr2,step fun _ _ h=>(k h).elim⟩
structure RightT (l:List S_a) (t:Tm):Prop where
 tree:tree l = some t
 len:t.size ≤ 500
 dep:t.dep ≤ 40
 grp:groupedR l t.szs = true
 beh:BehOk t
theorem right_ok (hn:1300 ≤ n):∃ e,m_bw n x0 = some e ∧ (e = 0 ↔ ∃ t,RightT (Sl.l x0) t):=by
 obtain ⟨n,rfl⟩:∃ m,n = m + 1:=⟨n - 1,by omega⟩
 simp only [m_bw,b_cD]
 rw [formed_ok (by omega),Option.bind_some]
 by_cases hf:formedR (Sl.l x0) = 0
 ·rw [cfl (by rw [dt hf]; rfl)]
  unfold formedR at hf
  split at hf
  ·cases hf
  rename_i hN
  cases ht:tree (Sl.l x0) with
  | none=>rw [ht] at hf; cases hf
  | some t =>
   rw [ht] at hf
   simp only at hf
   have hdep:t.dep ≤ 40:=by
    by_cases h:40 < t.dep
    ·rw [if_pos h] at hf; cases hf
    ·omega
   obtain ⟨hl,hA⟩:=tree_some ht
   have hs:t.size ≤ 500:=by rw [hl,Tm.flat_len] at hN; omega
   have uniq:∀ {t'},RightT (Sl.l x0) t' → t' = t:=fun h=>by have:=h.tree; rw [ht] at this; injection this with this; exact this.symm
   rw [grouped_ok (by omega) (by omega) ht,Option.bind_some]
   cases hg:groupedR (Sl.l x0) t.szs with
   | false =>
    refine ⟨6,rfl,fun h=>(by cases h),fun ⟨t',h⟩=>?_⟩
    have h2:=h.grp
    rw [uniq h,hg] at h2; cases h2
   | true =>
    rw [Bool.not_true,cond_false,lens_ok (by omega) (by omega) ht,Option.bind_some]
    obtain ⟨r,h1,h2,h3⟩:=right_loop (n:=n) (x0:=x0) (c1:=m_bB n) (c2:=m_b5 n) (c3:=m_bo n) hl hA hs t.size n 0 (by omega) (by omega)
    refine ⟨r,h1,h3.trans ⟨fun h=>⟨t,ht,hs,hdep,hg,fun i x=>h i x (by omega)⟩,fun ⟨t',h⟩ i x _=>by obtain rfl:=uniq h; exact h.beh i x⟩⟩
 ·rw [ct (by rw [df hf]; rfl)]
  refine ⟨_,rfl,fun h=>(hf h).elim,fun ⟨t,h⟩=>?_⟩
  unfold formedR
  have:=h.dep
  have hl:=(tree_some h.tree).1
  have hs:=h.len
  rw [if_neg (by rw [hl,Tm.flat_len]; omega),h.tree]
  simp only
  rw [if_neg (by omega)]
end
end Go.Proofs.YtaadjlpfdajggaaGreatDoor

set_option maxRecDepth 100000
set_option linter.unusedVariables false
set_option linter.unusedSimpArgs false
namespace Go.Proofs.YtaadjlpfdajggaaGreatDoor
open Go Go.AM
theorem read_fin {r:Nat} (h1:4503599627370496 ≤ r) (h2:r < 9218868437227405312):Ieee.double.read r = .number false (4503599627370496 + r % 4503599627370496) (-1074 + ((r / 4503599627370496 - 1:Nat):Int)):=by
 have e1:Ieee.double.signWeight = 9223372036854775808:=by decide
 have e2:Ieee.double.binade = 4503599627370496:=by decide
 have e3:Ieee.double.infRung = 9218868437227405312:=by decide
 have e4:Ieee.double.leastPlace = -1074:=by decide
 unfold Ieee.Format.read
 simp only [e1,e2,e3,e4]
 have d1:r / 9223372036854775808 % 2 = 0:=by omega
 have d2:r % 9223372036854775808 = r:=by omega
 rw [d1,d2,if_neg (by omega),if_pos h2]
 rfl
theorem read_inf:Ieee.double.read 9218868437227405312 = .infinity false:=by decide
theorem p52:(2:Nat) ^ 52 = 4503599627370496:=by decide
theorem p53:(2:Nat) ^ 53 = 9007199254740992:=by decide
theorem log2_of {n k:Nat} (h1:2 ^ k ≤ n) (h2:n < 2 ^ (k + 1)):n.log2 = k:=by
 have h0:n ≠ 0:=by have:=Nat.two_pow_pos k; omega
 exact (Nat.log2_eq_iff h0).2 ⟨h1,h2⟩
theorem nearest_of {mag:Nat} {place:Int} {d e:Nat} {M:Nat} (hm:mag = M * 2 ^ d) (hM:4503599627370496 ≤ M) (hM2:M < 9007199254740992) (hp:place + d = -1074 + (e:Int)) (hd:d ≤ 60) :
  Ieee.double.nearest false mag place = min (e * 4503599627370496 + M) 9218868437227405312:=by
 have e2:Ieee.double.binade = 4503599627370496:=by decide
 have e3:Ieee.double.infRung = 9218868437227405312:=by decide
 have e4:Ieee.double.leastPlace = -1074:=by decide
 have e5:Ieee.double.fractionBits = 52:=rfl
 have hpos:=Nat.two_pow_pos d
 have hl:mag.log2 = 52 + d:=by
  refine log2_of ?_ ?_
  ·rw [hm,Nat.pow_add,p52]; exact Nat.mul_le_mul_right _ hM
  ·rw [hm,show 52 + d + 1 = 53 + d by omega,Nat.pow_add,p53]; exact Nat.mul_lt_mul_of_pos_right hM2 hpos
 have h0:mag ≠ 0:=by rw [hm]; exact Nat.mul_ne_zero (by omega) (by omega)
 unfold Ieee.Format.nearest
 rw [if_neg h0]
 simp only [e2,e3,e4,e5,hl]
 have hlast:max (place + ((52 + d:Nat):Int) - ((52:Nat):Int)) (-1074) = -1074 + (e:Int):=by omega
 rw [hlast]
 have h1:(place - (-1074 + (e:Int))).toNat = 0:=by omega
 have h2:((-1074 + (e:Int)) - place).toNat = d:=by omega
 have h3:((-1074 + (e:Int)) - -1074).toNat = e:=by omega
 rw [h1,h2,h3,Nat.shiftLeft_zero]
 have hc:Ieee.Toward.even.cut false mag d = M:=by
  unfold Ieee.Toward.cut
  simp only [hl]
  rw [show min d (52 + d + 2) = d by omega,Nat.one_shiftLeft,hm,Nat.mul_div_cancel _ hpos,Nat.mul_mod_left]
  have:¬ (2 ^ d < 2 * 0):=by omega
  have h':(2 ^ d == 2 * 0) = false:=by simp
  simp only [decide_eq_false this,h',Bool.false_and,Bool.or_false,Bool.toNat_false,Nat.add_zero]
 rw [hc,Ieee.Format.word,if_neg (by simp)]
theorem add_dbl {r:Nat} (h1:4503599627370496 ≤ r) (h2:r ≤ 9218868437227405312):Ieee.double.add r r = some (min (r + 4503599627370496) 9218868437227405312):=by
 unfold Ieee.Format.add
 by_cases h:r = 9218868437227405312
 ·subst h; rw [read_inf]; rfl
 ·rw [read_fin h1 (by omega)]
  simp only [Ieee.Datum.sum,Option.map_some,Ieee.Format.write]
  refine congrArg some ?_
  have hb:∀ i:Int,min i i = i:=fun i=>by omega
  rw [hb,Int.sub_self,Int.toNat_zero]
  have hs:∀ m,Ieee.signed false m 0 = (m:Int):=fun m=>by simp [Ieee.signed]
  rw [hs]
  have ht:((4503599627370496 + r % 4503599627370496:Nat):Int) + ((4503599627370496 + r % 4503599627370496:Nat):Int) = ((((4503599627370496 + r % 4503599627370496) * 2 ^ 1:Nat)):Int):=by omega
  rw [ht,Int.natAbs_natCast,if_neg (by omega),show decide ((((4503599627370496 + r % 4503599627370496) * 2 ^ 1:Nat):Int) < 0) = false from decide_eq_false (by omega)]
  rw [nearest_of (d:=1) (e:=r / 4503599627370496) (M:=4503599627370496 + r % 4503599627370496) rfl (by omega) (by omega) (by omega) (by omega)]
  omega
def dblN (k r:Nat):Nat:=min (r + k * 4503599627370496) 9218868437227405312
theorem dblN_0 {r:Nat} (h2:r ≤ 9218868437227405312):dblN 0 r = r:=by unfold dblN; omega
theorem dblN_s {k r:Nat}:dblN k (min (r + 4503599627370496) 9218868437227405312) = dblN (k + 1) r:=by unfold dblN; omega
theorem dbl_rng {r:Nat} (h1:4503599627370496 ≤ r):4503599627370496 ≤ min (r + 4503599627370496) 9218868437227405312 ∧ min (r + 4503599627370496) 9218868437227405312 ≤ 9218868437227405312:=by omega
theorem dblN_rng {k r:Nat} (h1:4503599627370496 ≤ r):4503599627370496 ≤ dblN k r ∧ dblN k r ≤ 9218868437227405312:=by unfold dblN; omega
theorem order_le {r s:Nat} (h1:4503599627370496 ≤ r) (h2:r ≤ s) (h3:s ≤ 9218868437227405312):fcmp .lss s r = false:=by
 have key:Ieee.double.order s r = some .eq ∨ Ieee.double.order s r = some .gt:=by
  unfold Ieee.Format.order
  by_cases hs:s = 9218868437227405312
  ·subst hs; rw [read_inf]
   by_cases hr:r = 9218868437227405312
   ·subst hr; rw [read_inf]; exact .inl rfl
   ·rw [read_fin h1 (by omega)]; exact .inr rfl
  ·rw [read_fin h1 (by omega),read_fin (by omega) (by omega)]
   simp only [Ieee.Datum.order]
   have hc:∀ x y:Int,y ≤ x → some (compare x y) = some Ordering.eq ∨ some (compare x y) = some Ordering.gt:=fun x y h=>by
    rcases Int.lt_or_eq_of_le h with h | h
    ·right; simp only [compare,compareOfLessAndEq]; rw [if_neg (by omega),if_neg (by omega)]
    ·left; subst h; simp [compare,compareOfLessAndEq]
   refine hc _ _ ?_
   have hsg:∀ m i,Ieee.signed false m i = ((m <<< i:Nat):Int):=fun m i=>by simp [Ieee.signed]
   rw [hsg,hsg]
   refine Int.ofNat_le.2 ?_
   have hd:r / 4503599627370496 ≤ s / 4503599627370496:=Nat.div_le_div_right h2
   have hmin:min (-1074 + ((s / 4503599627370496 - 1:Nat):Int)) (-1074 + ((r / 4503599627370496 - 1:Nat):Int)) = -1074 + ((r / 4503599627370496 - 1:Nat):Int):=by omega
   rw [hmin,Int.sub_self,Int.toNat_zero,Nat.shiftLeft_zero]
   rcases Nat.lt_or_eq_of_le hd with hlt | heq
   ·have hp:1 ≤ ((-1074 + ((s / 4503599627370496 - 1:Nat):Int)) - (-1074 + ((r / 4503599627370496 - 1:Nat):Int))).toNat:=by omega
    rw [Nat.shiftLeft_eq]
    have h2p:2 ^ 1 ≤ 2 ^ ((-1074 + ((s / 4503599627370496 - 1:Nat):Int)) - (-1074 + ((r / 4503599627370496 - 1:Nat):Int))).toNat:=Nat.pow_le_pow_right (by omega) hp
    have:=Nat.mul_le_mul (Nat.le_add_right 4503599627370496 (s % 4503599627370496)) h2p
    omega
   ·rw [heq,Int.sub_self,Int.toNat_zero,Nat.shiftLeft_zero]
    omega
 show (Ieee.double.order s r == some .lt) = false
 rcases key with e | e <;> rw [e] <;> rfl
def startB (n:Nat):Bool:=(match Ieee.double.add (fnear n) 4607182418800017408 with | some x=>decide (x = fnear ((n + 1:Nat):Int)) | none=>false) && decide (4607182418800017408 ≤ fnear ((n + 1:Nat):Int)) && decide (fnear ((n + 1:Nat):Int) ≤ fnear ((n + 2:Nat):Int)) && decide (fnear ((n + 2:Nat):Int) ≤ 9218868437227405312)
theorem start_0:(List.range 500).all (fun i=>startB (i + 0)) = true:=by kernel_rfl
theorem start_1:(List.range 500).all (fun i=>startB (i + 500)) = true:=by kernel_rfl
theorem start_2:(List.range 500).all (fun i=>startB (i + 1000)) = true:=by kernel_rfl
theorem start_3:(List.range 500).all (fun i=>startB (i + 1500)) = true:=by kernel_rfl
theorem start_4:(List.range 500).all (fun i=>startB (i + 2000)) = true:=by kernel_rfl
theorem start_5:(List.range 500).all (fun i=>startB (i + 2500)) = true:=by kernel_rfl
theorem start_6:(List.range 500).all (fun i=>startB (i + 3000)) = true:=by kernel_rfl
theorem start_7:(List.range 500).all (fun i=>startB (i + 3500)) = true:=by kernel_rfl
theorem start_8:(List.range 500).all (fun i=>startB (i + 4000)) = true:=by kernel_rfl
theorem start_9:(List.range 500).all (fun i=>startB (i + 4500)) = true:=by kernel_rfl
theorem start_10:(List.range 500).all (fun i=>startB (i + 5000)) = true:=by kernel_rfl
theorem start_11:(List.range 500).all (fun i=>startB (i + 5500)) = true:=by kernel_rfl
theorem start_12:(List.range 500).all (fun i=>startB (i + 6000)) = true:=by kernel_rfl
theorem start_13:(List.range 500).all (fun i=>startB (i + 6500)) = true:=by kernel_rfl
theorem start_14:(List.range 500).all (fun i=>startB (i + 7000)) = true:=by kernel_rfl
theorem start_15:(List.range 500).all (fun i=>startB (i + 7500)) = true:=by kernel_rfl
theorem start_16:(List.range 500).all (fun i=>startB (i + 8000)) = true:=by kernel_rfl
theorem start_17:(List.range 500).all (fun i=>startB (i + 8500)) = true:=by kernel_rfl
theorem start_18:(List.range 500).all (fun i=>startB (i + 9000)) = true:=by kernel_rfl
theorem start_19:(List.range 500).all (fun i=>startB (i + 9500)) = true:=by kernel_rfl
theorem start_20:(List.range 500).all (fun i=>startB (i + 10000)) = true:=by kernel_rfl
theorem start_all {n:Nat} (h:n ≤ 10000):startB n = true:=by
 have key:∀ k,(List.range 500).all (fun i=>startB (i + k)) = true → k ≤ n → n < k + 500 → startB n = true:=fun k hk h1 h2=>by
  have:=List.all_eq_true.1 hk (n - k) (List.mem_range.2 (by omega))
  rwa [show n - k + k = n by omega] at this
 by_cases h0:n < 500
 ·exact key 0 start_0 (by omega) (by omega)
 by_cases h1:n < 1000
 ·exact key 500 start_1 (by omega) (by omega)
 by_cases h2:n < 1500
 ·exact key 1000 start_2 (by omega) (by omega)
 by_cases h3:n < 2000
 ·exact key 1500 start_3 (by omega) (by omega)
 by_cases h4:n < 2500
 ·exact key 2000 start_4 (by omega) (by omega)
 by_cases h5:n < 3000
 ·exact key 2500 start_5 (by omega) (by omega)
 by_cases h6:n < 3500
 ·exact key 3000 start_6 (by omega) (by omega)
 by_cases h7:n < 4000
 ·exact key 3500 start_7 (by omega) (by omega)
 by_cases h8:n < 4500
 ·exact key 4000 start_8 (by omega) (by omega)
 by_cases h9:n < 5000
 ·exact key 4500 start_9 (by omega) (by omega)
 by_cases h10:n < 5500
 ·exact key 5000 start_10 (by omega) (by omega)
 by_cases h11:n < 6000
 ·exact key 5500 start_11 (by omega) (by omega)
 by_cases h12:n < 6500
 ·exact key 6000 start_12 (by omega) (by omega)
 by_cases h13:n < 7000
 ·exact key 6500 start_13 (by omega) (by omega)
 by_cases h14:n < 7500
 ·exact key 7000 start_14 (by omega) (by omega)
 by_cases h15:n < 8000
 ·exact key 7500 start_15 (by omega) (by omega)
 by_cases h16:n < 8500
 ·exact key 8000 start_16 (by omega) (by omega)
 by_cases h17:n < 9000
 ·exact key 8500 start_17 (by omega) (by omega)
 by_cases h18:n < 9500
 ·exact key 9000 start_18 (by omega) (by omega)
 by_cases h19:n < 10000
 ·exact key 9500 start_19 (by omega) (by omega)
 by_cases h20:n < 10500
 ·exact key 10000 start_20 (by omega) (by omega)
 omega
theorem start_ok {n:Nat} (h:n ≤ 10000):Ieee.double.add (fnear n) 4607182418800017408 = some (fnear ((n + 1:Nat):Int)) ∧ 4607182418800017408 ≤ fnear ((n + 1:Nat):Int) ∧ fnear ((n + 1:Nat):Int) ≤ fnear ((n + 2:Nat):Int) ∧ fnear ((n + 2:Nat):Int) ≤ 9218868437227405312:=by
 have:=start_all h
 unfold startB at this
 simp only [Bool.and_eq_true,decide_eq_true_eq] at this
 obtain ⟨⟨⟨h1,h2⟩,h3⟩,h4⟩:=this
 refine ⟨?_,h2,h3,h4⟩
 split at h1
 ·rename_i x hx; rw [hx,of_decide_eq_true h1]
 ·cases h1
end Go.Proofs.YtaadjlpfdajggaaGreatDoor

set_option maxRecDepth 100000
set_option linter.unusedVariables false
set_option linter.unusedSimpArgs false
namespace Go.Proofs.YtaadjlpfdajggaaGreatDoor
open Go Go.AM
def tnA (w:Int) (x:S_a):Int:=IntKind.i64.wrap ((if x.f_Max = -1 then IntKind.i64.wrap (x.f_Min + w) else min (IntKind.i64.wrap (x.f_Min + w)) x.f_Max) + 1)
def bndA (w:Int) (x:S_a) (a b:Int):Int :=
 if x.f_Kind = 8 then min (IntKind.i64.wrap (IntKind.i64.wrap (1 + a) + b)) 1099511627776
 else if x.f_Kind = 9 then min (IntKind.i64.wrap (1 + max a b)) 1099511627776
 else if x.f_Kind = 11 then min (IntKind.i64.wrap (2 + a)) 1099511627776
 else if x.f_Kind = 13 ∨ x.f_Kind = 14 ∨ x.f_Kind = 15 ∨ x.f_Kind = 16 ∨ x.f_Kind = 17 then min (IntKind.i64.wrap (3 + a)) 1099511627776
 else if x.f_Kind = 10 then min (IntKind.i64.wrap (4 + IntKind.i64.wrap (tnA w x * IntKind.i64.wrap (1 + a)))) 1099511627776
 else 1
abbrev Tm.bnds (t:Tm) (w:Int):List Int:=t.vals 0 (bndA w)
abbrev Tm.bnd (t:Tm) (w:Int):Int:=t.val 0 (bndA w)
theorem bcut_ok {n:Nat} (x:Int) (h:1 ≤ n):m_bd n x = some (min x 1099511627776):=by
 obtain ⟨n,rfl⟩:∃ m,n = m + 1:=⟨n - 1,by omega⟩
 rfl
theorem turns_ok {n:Nat} (x:S_a) (w:Int) (h:1 ≤ n):m_X n x w = some (tnA w x):=by
 obtain ⟨n,rfl⟩:∃ m,n = m + 1:=⟨n - 1,by omega⟩
 simp only [m_X,b_ch,b_br,tnA]
 by_cases hm:x.f_Max = -1
 ·rw [cfl (by rw [dt hm]; rfl),if_pos hm]
 ·rw [ct (by rw [df hm]; rfl),if_neg hm]
theorem bnd_le {w:Int}:∀ t:Tm,t.bnd w ≤ 1099511627776:=by
 have key:∀ x a b,bndA w x a b ≤ 1099511627776:=fun x a b=>by
  unfold bndA
  repeat' split
  all_goals omega
 intro t
 cases t <;> exact key _ _ _
section
variable {n:Nat} {x0:Sl S_a} {t:Tm} {w:Int}
theorem ball_loop (hn:100 ≤ n) (hN:(Sl.l x0).length ≤ 500) (hl:Sl.l x0 = t.flat) (ht:t.At 0):∀ (d fuel i:Nat),i + d = t.size → d < fuel →
  b_n (m_bd n) (m_X n) n x0 fuel w (pf (t.bnds w) 0 i) (Sl.len x0) (i:Int) = some (some (t.bnds w)):=by
 have hlen:Sl.len x0 = (t.size:Int):=by simp [Sl.len,hl,Tm.flat_len]
 have hs:t.size ≤ 500:=by rw [hl,Tm.flat_len] at hN; exact hN
 have hvl:(t.bnds w).length = t.size:=t.vals_len _ _
 intro d
 induction d with
 | zero =>
  intro fuel i hi hf
  obtain ⟨fuel,rfl⟩:∃ m,fuel = m + 1:=⟨fuel - 1,by omega⟩
  obtain rfl:i = t.size:=by omega
  rw [b_n,cfl (df (by omega)),← hvl,pf_end]
 | succ d ih =>
  intro fuel i hi hf
  obtain ⟨fuel,rfl⟩:∃ m,fuel = m + 1:=⟨fuel - 1,by omega⟩
  have hif:i < t.flat.length:=by rw [Tm.flat_len]; omega
  have hx:=List.getElem?_eq_getElem hif
  have hx0:Sl.nth x0 i = t.flat[i]:=nth_l (by rw [hl]; exact hx)
  have K:=Tm.kid (d:=(0:Int)) (alg:=bndA w) ht hx
  rw [b_n,ct (dt (by omega)),ck_ok (by rw [hl]; exact hif),Option.bind_some,hx0]
  have hck:∀ {j:Nat} {v:Int},(t.bnds w)[j]? = some v → ck (Sl.l (pf (t.bnds w) 0 i)).length ((0 + j:Nat):Int) = some j:=fun {j v} hv=>by
   rw [pf_len (by omega),Nat.zero_add]; exact ck_ok (List.getElem?_eq_some_iff.1 hv).1
  have hci:ck (Sl.l (pf (t.bnds w) 0 i)).length (i:Int) = some i:=by rw [pf_len (by omega)]; exact ck_ok (by omega)
  have go:=ih fuel (i + 1) (by omega) (by omega)
  generalize t.flat[i] = x at *
  by_cases k1:x.f_Kind = 8
  ·rcases K.at_ with ⟨h1,_⟩ | ⟨h1,_⟩ | ⟨h1,j,m,v,u,h2,h3,h4,h5,h6,h7,h8⟩
   ·simp [kd,k1] at h1
   ·simp [kd,k1] at h1
   have hv:(t.bnds w)[i]? = some (min (IntKind.i64.wrap (IntKind.i64.wrap (1 + v) + u)) 1099511627776):=by rw [h8,bndA,if_pos k1]
   rw [ct (dt k1),h4,hck h6,Option.bind_some,h5,hck h7,Option.bind_some,pf_nth h2 h6,pf_nth h3 h7,bcut_ok _ (by omega),Option.bind_some,hci,Option.bind_some,b_t,wp1 (by omega),pf_put hv]
   exact go
  rw [cfl (df k1)]
  by_cases k2:x.f_Kind = 9
  ·rcases K.at_ with ⟨h1,_⟩ | ⟨h1,_⟩ | ⟨h1,j,m,v,u,h2,h3,h4,h5,h6,h7,h8⟩
   ·simp [kd,k2] at h1
   ·simp [kd,k2] at h1
   have hv:(t.bnds w)[i]? = some (min (IntKind.i64.wrap (1 + max v u)) 1099511627776):=by rw [h8,bndA,if_neg k1,if_pos k2]
   rw [ct (dt k2),h4,hck h6,Option.bind_some,h5,hck h7,Option.bind_some,pf_nth h2 h6,pf_nth h3 h7,bcut_ok _ (by omega),Option.bind_some,hci,Option.bind_some,b_t,wp1 (by omega),pf_put hv]
   exact go
  rw [cfl (df k2)]
  have one:kd x.f_Kind = 1 → ∃ j v,j < i ∧ x.f_A = ((0 + j:Nat):Int) ∧ (t.bnds w)[j]? = some v ∧ (t.bnds w)[i]? = some (bndA w x v 0):=fun hk=>by
   rcases K.at_ with ⟨h1,_⟩ | ⟨h1,j,v,h2,h3,h4,h5,h6⟩ | ⟨h1,_⟩
   ·omega
   ·exact ⟨j,v,h2,h3,h5,h6⟩
   ·omega
  by_cases k3:x.f_Kind = 11
  ·obtain ⟨j,v,h2,h3,h5,h6⟩:=one (by simp [kd,k3])
   rw [bndA,if_neg k1,if_neg k2,if_pos k3] at h6
   rw [ct (dt k3),h3,hck h5,Option.bind_some,pf_nth h2 h5,bcut_ok _ (by omega),Option.bind_some,hci,Option.bind_some,b_t,wp1 (by omega),pf_put h6]
   exact go
  rw [cfl (df k3)]
  have look:(x.f_Kind = 13 ∨ x.f_Kind = 14 ∨ x.f_Kind = 15 ∨ x.f_Kind = 16 ∨ x.f_Kind = 17) → ∀ k,b_J (m_bd n) (m_X n) n (b_n (m_bd n) (m_X n) n x0 fuel) x0 w (pf (t.bnds w) 0 i) (i:Int) x (Sl.len x0) (i:Int) k true = some (some (t.bnds w)):=fun h k=>by
   obtain ⟨j,v,h2,h3,h5,h6⟩:=one (by rcases h with h | h | h | h | h <;> simp [kd,h])
   rw [bndA,if_neg k1,if_neg k2,if_neg k3,if_pos h] at h6
   rw [b_J,cond_true,h3,hck h5,Option.bind_some,pf_nth h2 h5,bcut_ok _ (by omega),Option.bind_some,hci,Option.bind_some,b_t,wp1 (by omega),pf_put h6]
   exact go
  by_cases k4:x.f_Kind = 13
  ·rw [ct (dt k4),dt k4]; exact look (.inl k4) _
  rw [cfl (df k4)]
  by_cases k5:x.f_Kind = 14
  ·rw [ct (dt k5),dt k5]; exact look (.inr (.inl k5)) _
  rw [cfl (df k5)]
  by_cases k6:x.f_Kind = 15
  ·rw [ct (dt k6),dt k6]; exact look (.inr (.inr (.inl k6))) _
  rw [cfl (df k6)]
  by_cases k7:x.f_Kind = 16
  ·rw [ct (dt k7),dt k7]; exact look (.inr (.inr (.inr (.inl k7)))) _
  rw [cfl (df k7)]
  by_cases k8:x.f_Kind = 17
  ·rw [dt k8]; exact look (.inr (.inr (.inr (.inr k8)))) _
  rw [df k8,b_J,cond_false]
  by_cases k9:x.f_Kind = 10
  ·obtain ⟨j,v,h2,h3,h5,h6⟩:=one (by simp [kd,k9])
   rw [bndA,if_neg k1,if_neg k2,if_neg k3,if_neg (by omega),if_pos k9] at h6
   rw [ct (dt k9),turns_ok _ _ (by omega),Option.bind_some,h3,hck h5,Option.bind_some,pf_nth h2 h5,bcut_ok _ (by omega),Option.bind_some,hci,Option.bind_some,b_t,wp1 (by omega),pf_put h6]
   exact go
  have hv:(t.bnds w)[i]? = some 1:=by
   have e:∀ a b,bndA w x a b = 1:=fun a b=>by rw [bndA,if_neg k1,if_neg k2,if_neg k3,if_neg (by omega),if_neg k9]
   rcases K.at_ with ⟨h1,h2,h3,h4⟩ | ⟨h1,j,v,h2,h3,h4,h5,h6⟩ | ⟨h1,j,m,v,u,h2,h3,h4,h5,h6,h7,h8⟩
   ·rw [h4,e]
   ·rw [h6,e]
   ·rw [h8,e]
  rw [cfl (df k9),hci,Option.bind_some,b_t,wp1 (by omega),pf_put hv]
  exact go
theorem ball_ok (hn:600 ≤ n) (hN:(Sl.l x0).length ≤ 500) (ht:tree (Sl.l x0) = some t):m_cc n x0 w = some (some (t.bnds w)):=by
 obtain ⟨n,rfl⟩:∃ m,n = m + 1:=⟨n - 1,by omega⟩
 obtain ⟨hl,hA⟩:=tree_some ht
 have hs:t.size ≤ 500:=by rw [hl,Tm.flat_len] at hN; exact hN
 simp only [m_cc,b_cH]
 have:=ball_loop (n:=n) (w:=w) (by omega) hN hl hA t.size n 0 (by omega) (by omega)
 rw [show Sl.len x0 = ((t.size:Nat):Int) by simp [Sl.len,hl,Tm.flat_len]] at this ⊢
 rw [make_ok (Nat.le_refl _) (by omega) (by omega),Option.bind_some]
 rw [pf_0,Tm.vals_len] at this
 exact this
def longT (t:Tm) (w:Int):Int:=IntKind.i64.wrap (t.bnd w + 1)
theorem long_tree (hn:1400 ≤ n) (hR:m_bw (n - 1) x0 = some 0) (hN:(Sl.l x0).length ≤ 500) (ht:tree (Sl.l x0) = some t) (h0:0 ≤ w) (h1:w ≤ 10000):m_B n x0 w = some (longT t w,0):=by
 obtain ⟨n,rfl⟩:∃ m,n = m + 1:=⟨n - 1,by omega⟩
 rw [Nat.add_sub_cancel] at hR
 obtain ⟨hl,hA⟩:=tree_some ht
 have hp:=t.pos
 have hs:t.size ≤ 500:=by rw [hl,Tm.flat_len] at hN; exact hN
 simp only [m_B,b_bX]
 rw [hR,Option.bind_some,cfl (by rfl),cfl (by rw [df (by omega),df (by omega)]; rfl),ball_ok (by omega) hN ht,Option.bind_some]
 have hlen:Sl.len x0 = (t.size:Int):=by simp [Sl.len,hl,Tm.flat_len]
 have hb:=bnd_le (w:=w) t
 rw [hlen,w64 (by omega) (by omega),ck_int (by omega) (by simp [Sl.l,Tm.vals_len]; omega),Option.bind_some,show ((t.size:Int) - 1).toNat = t.size - 1 by omega,nth_l (v:=t.bnd w) (t.vals_last _ _),bcut_ok _ (by omega),Option.bind_some,Int.min_eq_left hb]
 rfl
theorem long_err {e:Int} (hn:1400 ≤ n) (hR:m_bw (n - 1) x0 = some e) (he:e ≠ 0):m_B n x0 w = some (0,e):=by
 obtain ⟨n,rfl⟩:∃ m,n = m + 1:=⟨n - 1,by omega⟩
 rw [Nat.add_sub_cancel] at hR
 simp only [m_B,b_bX]
 rw [hR,Option.bind_some,ct (by rw [df he]; rfl)]
def wdA (k:Int) (r:Nat):Nat:=if 1100 < k then 9218868437227405312 else dblN k.toNat r
theorem isinf_ok (hn:1 ≤ n):m_b3 n 9218868437227405312 1 = some true:=by
 obtain ⟨n,rfl⟩:∃ m,n = m + 1:=⟨n - 1,by omega⟩
 rfl
theorem steps_loop {k:Int} (hn:1 ≤ n):∀ (d fuel i r:Nat),((i + d:Nat):Int) = max (min k 2000) i → d < fuel → i ≤ 3000 → d ≤ 3000 → 4503599627370496 ≤ r → r ≤ 9218868437227405312 → (2000 < k → dblN d r = 9218868437227405312) →
  b_R (m_B n) (m_b3 n) (m_cZ n) n x0 fuel k r (min k 2000) (i:Int) = some (dblN d r,0):=by
 intro d
 induction d with
 | zero =>
  intro fuel i r hi hf hi' hd h1 h2 h3
  obtain ⟨fuel,rfl⟩:∃ m,fuel = m + 1:=⟨fuel - 1,by omega⟩
  rw [b_R,cfl (df (by omega)),dblN_0 h2]
  by_cases hk:2000 < k
  ·have:=h3 hk
   rw [dblN_0 h2] at this
   subst this
   rw [ct (dt hk),isinf_ok hn]; rfl
  ·rw [cfl (df hk)]; rfl
 | succ d ih =>
  intro fuel i r hi hf hi' hd h1 h2 h3
  obtain ⟨fuel,rfl⟩:∃ m,fuel = m + 1:=⟨fuel - 1,by omega⟩
  rw [b_R,ct (dt (by omega)),add_dbl h1 h2,Option.bind_some,wp1 (by omega)]
  rw [← dblN_s]
  exact ih fuel (i + 1) _ (by omega) (by omega) (by omega) (by omega) (dbl_rng h1).1 (dbl_rng h1).2 fun hk=>by rw [dblN_s]; exact h3 hk
theorem steps_ok {k:Int} (hn:2100 ≤ n) (h0:0 ≤ w) (h1:w ≤ 10000) (hL:m_B (n - 1) x0 w = some (k,0)) :
  m_bL n x0 w = some (wdA k (fnear ((w.toNat + 1:Nat):Int)),0):=by
 obtain ⟨n,rfl⟩:∃ m,n = m + 1:=⟨n - 1,by omega⟩
 rw [Nat.add_sub_cancel] at hL
 obtain ⟨s1,s2,s3,s4⟩:=start_ok (n:=w.toNat) (by omega)
 simp only [m_bL,b_cf]
 rw [hL,Option.bind_some,cfl (by rfl)]
 rw [show ((w.toNat:Nat):Int) = w by omega] at s1
 rw [s1,Option.bind_some]
 generalize fnear ((w.toNat + 1:Nat):Int) = r at *
 have:=steps_loop (n:=n) (x0:=x0) (k:=k) (by omega) (min k 2000).toNat n 0 r (by omega) (by omega) (by omega) (by omega) (by omega) (by omega) fun hk=>by
  rw [show (min k 2000).toNat = 2000 by omega]; unfold dblN; omega
 simp only [Int.ofNat_zero,show ((0:Nat):Int) = 0 from rfl] at this
 rw [this]
 refine congrArg some (Prod.ext ?_ rfl)
 unfold wdA
 by_cases hk:1100 < k
 ·rw [if_pos hk]; show dblN _ _ = _; unfold dblN; omega
 ·rw [if_neg hk,show min k 2000 = k by omega]
end
end Go.Proofs.YtaadjlpfdajggaaGreatDoor

set_option maxRecDepth 100000
set_option linter.unusedVariables false
set_option linter.unusedSimpArgs false
namespace Go.Proofs.YtaadjlpfdajggaaGreatDoor
open Go Go.AM
section
variable {n:Nat} {x0:Sl S_a} {t:Tm}
theorem deep_ok (hn:1200 ≤ n):m_b8 n x0 = some (deepR (Sl.l x0)):=by
 obtain ⟨n,rfl⟩:∃ m,n = m + 1:=⟨n - 1,by omega⟩
 simp only [m_b8,b_cY,deepR]
 by_cases h:500 < (Sl.l x0).length
 ·rw [ct (dt (by simp only [Sl.len]; omega)),if_pos h]
 ·rw [cfl (df (by simp only [Sl.len]; omega)),if_neg h]
  cases ht:tree (Sl.l x0) with
  | none =>
   obtain ⟨y,hy⟩:=sizes_none (n:=n) (by omega) (by omega) ht
   rw [hy]; rfl
  | some t =>
   rw [sizes_tree (by omega) (by omega) ht,Option.bind_some]
   obtain ⟨hl,hA⟩:=tree_some ht
   have hs:t.size ≤ 500:=by rw [hl,Tm.flat_len] at h; omega
   have hp:=t.pos
   rw [depths_ok (by omega) (by omega) ht]
   simp only [Bool.not_true,cond_false,Option.bind_some]
   have hlen:Sl.len x0 = (t.size:Int):=by simp [Sl.len,hl,Tm.flat_len]
   rw [hlen,w64 (by omega) (by omega),ck_int (by omega) (by simp [Sl.l,Tm.vals_len]; omega),Option.bind_some,show ((t.size:Int) - 1).toNat = t.size - 1 by omega,nth_l (v:=t.dep) (t.vals_last 0 depA)]
end
end Go.Proofs.YtaadjlpfdajggaaGreatDoor

set_option maxRecDepth 100000
set_option linter.unusedVariables false
set_option linter.unusedSimpArgs false
namespace Go.Proofs.YtaadjlpfdajggaaGreatDoor
open Go Go.AM
def NodeIn (s:S_a):Prop:=(InK .i64 s.f_Kind) ∧ (InK .i64 s.f_A) ∧ (InK .i64 s.f_B) ∧ ((∀ x ∈ s.f_Set.f_W.l,InK .u64 x) ∧ True) ∧ (InK .i64 s.f_Min) ∧ (InK .i64 s.f_Max) ∧ (InK .i64 s.f_Mode) ∧ (InK .i64 s.f_N) ∧ (True) ∧ True
def TreeIn (t:Sl S_a):Prop:=∀ l,t = some l → l.length ≤ maxLen ∧ ∀ y ∈ l,NodeIn y
theorem deep_right {n:Nat} {x0:Sl S_a} {t:Tm} (hn:1200 ≤ n) (h:RightT (Sl.l x0) t):m_b8 n x0 = some t.dep:=by
 rw [deep_ok hn,deepR]
 have hl:=(tree_some h.tree).1
 have hs:=h.len
 rw [if_neg (by rw [hl,Tm.flat_len]; omega),h.tree]
theorem copy_rep {x:Sl S_a} {z:S_a}:Sl.copy (some (List.replicate (Sl.l x).length z)) x = some (Sl.l x):=by simp [Sl.copy]
theorem wrap_ok {n:Nat} {y:Sl S_a} {x:S_a} (hn:1 ≤ n) (hl:(Sl.l y).length ≤ 500):m_cp n y x = some (some (Sl.l y ++ [{ x with f_A:=((Sl.l y).length:Int) - 1,f_B:=0 }])):=by
 obtain ⟨n,rfl⟩:∃ m,n = m + 1:=⟨n - 1,by omega⟩
 have hr2:(8000000:Nat) ≤ roomMost:=Nat.le_of_ble_eq_true rfl
 simp only [m_cp,b_cV,Sl.len]
 rw [wp1 (by omega),make_ok (z:=96) (by omega) (by omega) (by omega),Option.bind_some,copy_rep]
 simp only [Sl.app,Sl.l,List.length_replicate,List.length_singleton]
 rw [if_neg (by omega),if_pos (by simp only [Sl.l] at hl; omega),Option.bind_some,w64 (by omega) (by simp only [Sl.l] at hl; omega)]
theorem gix_app {l:List S_a} {x:S_a}:∀ {i:Nat},gix i (l ++ [x]) = gix i l ++ (if x.f_Kind = 11 then [((i + l.length:Nat):Int)] else []):=by
 induction l with
 | nil=>intro i; simp [gix]
 | cons y l ih =>
  intro i
  rw [List.cons_append,gix,gix,ih]
  have e:i + 1 + l.length = i + (y :: l).length:=by simp; omega
  split <;> simp [e]
theorem szAt_app {sz us:List Int} {x:Int} (h:InR sz x):szAt (sz ++ us) x = szAt sz x:=by
 have:=h.1
 have:=h.2
 simp only [szAt,List.getD]
 rw [List.getElem?_append_left (by omega)]
theorem cfG_app {sz us:List Int} {x y:Int} (h:InR sz x) (h':InR sz y):cfG (sz ++ us) x y = cfG sz x y:=by simp only [cfG,szAt_app h,szAt_app h']
theorem numOk_app {l us:List S_a}:∀ {S:List Int} {k:Int},(∀ x ∈ S,0 ≤ x ∧ x < l.length) → numOk (l ++ us) S k = numOk l S k
 | [],k,h=>rfl
 | i :: S,k,h=>by
  have hi:=h i (by simp)
  rw [numOk,numOk,numOk_app (S:=S) fun x hx=>h x (by simp [hx])]
  congr 2
  simp only [List.getD]
  rw [List.getElem?_append_left (by omega)]
theorem right_wrap {l:List S_a} {t:Tm} {x:S_a} (h:RightT l t) (hd:t.dep < 40) (hs:t.size < 500) (hf:fitsB x = true) (hk:kd x.f_Kind = 1) (k1:x.f_Kind ≠ 11) (k2:x.f_Kind ≠ 15) (k3:x.f_Kind ≠ 16) (hA:x.f_A = (l.length:Int) - 1) (hB:x.f_B = 0):RightT (l ++ [x]) (.one x t):=by
 obtain ⟨hl,ht⟩:=tree_some h.tree
 have hll:l.length = t.size:=by rw [hl,Tm.flat_len]
 have hp:=t.pos
 have at1:(Tm.one x t).At 0:=⟨ht,hf,hk,by rw [hA,hll]; omega,hB⟩
 have e:l ++ [x] = (Tm.one x t).flat:=by rw [hl]; rfl
 refine ⟨by rw [e]; exact tree_flat at1,by simp [Tm.size]; omega,by rw [dep_one at1]; omega,?_,?_⟩
 ·have hg:=h.grp
  have hr:∀ y ∈ gix 0 l,InR t.szs y:=fun y hy=>by
   have:=gix_rng y hy
   exact ⟨by omega,by rw [Tm.vals_len]; omega⟩
  have e1:gix 0 (l ++ [x]) = gix 0 l:=by rw [gix_app,if_neg k1,List.append_nil]
  have e2:srt (cfG (Tm.one x t).szs) (gix 0 l) = srt (cfG t.szs) (gix 0 l):=srt_congr fun a ha b hb=>by
   show cfG (t.szs ++ _) a b = _
   exact cfG_app (hr a ha) (hr b hb)
  have e3:∀ g,oddB g x = false:=fun g=>by
   have:x.f_Kind ≠ 12:=fun h=>by simp [kd,h] at hk
   simp [oddB,this]
  unfold groupedR at hg ⊢
  rw [e1,e2,numOk_app fun y hy=>by have:=hr y (List.mem_mergeSort.1 hy); have h1:=this.1; have h2:=this.2; rw [Tm.vals_len] at h2; exact ⟨h1,by rw [hll]; exact h2⟩]
  rw [List.any_append]
  simp only [List.any_cons,List.any_nil,e3,Bool.or_false]
  exact hg
 ·intro i y hy hky j v hj hv
  by_cases hi:i < t.size
  ·have hy':t.flat[i]? = some y:=by
    rw [Tm.flat,List.getElem?_append_left (by rw [Tm.flat_len]; exact hi)] at hy; exact hy
   have K:=Tm.kid (d:=((0:Int),(0:Int))) (alg:=lenA) ht hy'
   refine h.beh i y hy' hky j v hj ?_
   rcases K.at_ with ⟨h1,_⟩ | ⟨h1,j',v',h2,h3,h4,h5,h6⟩ | ⟨h1,_⟩
   ·rcases hky with k | k <;> simp [kd,k] at h1
   ·obtain rfl:j = j':=by rw [h3] at hj; omega
    change (t.lens ++ [lenA x (t.val (0,0) lenA) (0,0)])[j]? = some v at hv
    rw [List.getElem?_append_left (by rw [Tm.vals_len]; omega)] at hv
    exact hv
   ·rcases hky with k | k <;> simp [kd,k] at h1
  ·have hlt:=(List.getElem?_eq_some_iff.1 hy).1
   rw [Tm.flat_len,Tm.size] at hlt
   obtain rfl:i = t.size:=by omega
   rw [Tm.flat,List.getElem?_append_right (by rw [Tm.flat_len]; exact Nat.le_refl _)] at hy
   simp [Tm.flat_len] at hy; subst hy
   rcases hky with k | k
   ·exact (k2 k).elim
   ·exact (k3 k).elim
end Go.Proofs.YtaadjlpfdajggaaGreatDoor

set_option maxRecDepth 100000
set_option linter.unusedVariables false
set_option linter.unusedSimpArgs false
namespace Go.Proofs.YtaadjlpfdajggaaGreatDoor
open Go Go.AM
def shN (k:Nat) (x:S_a):S_a :=
 if kd x.f_Kind = 0 then x else if kd x.f_Kind = 1 then { x with f_A:=x.f_A + k } else { x with f_A:=x.f_A + k,f_B:=x.f_B + k }
theorem fits_ab (x:S_a) (a b:Int):fitsB { x with f_A:=a,f_B:=b } = fitsB x:=rfl
theorem sh_kind (k:Nat) (x:S_a):(shN k x).f_Kind = x.f_Kind:=by
 unfold shN
 split
 ·rfl
 ·split <;> rfl
theorem sh_rest (k:Nat) (x:S_a):∃ a b,shN k x = { x with f_A:=a,f_B:=b }:=by
 unfold shN
 split
 ·exact ⟨x.f_A,x.f_B,rfl⟩
 ·split
  ·exact ⟨x.f_A + k,x.f_B,rfl⟩
  ·exact ⟨_,_,rfl⟩
theorem sh_fits (k:Nat) (x:S_a):fitsB (shN k x) = fitsB x:=by obtain ⟨a,b,h⟩:=sh_rest k x; rw [h]; exact fits_ab x a b
def shT (k:Nat):Tm → Tm
 | .leaf n=>.leaf (shN k n)
 | .one n t=>.one (shN k n) (shT k t)
 | .two n a b=>.two (shN k n) (shT k a) (shT k b)
theorem sh_flat (k:Nat):∀ t:Tm,(shT k t).flat = t.flat.map (shN k)
 | .leaf n=>rfl
 | .one n t=>by simp [shT,Tm.flat,sh_flat k t]
 | .two n a b=>by simp [shT,Tm.flat,sh_flat k a,sh_flat k b]
theorem sh_size (k:Nat):∀ t:Tm,(shT k t).size = t.size
 | .leaf n=>rfl
 | .one n t=>by simp [shT,Tm.size,sh_size k t]
 | .two n a b=>by simp [shT,Tm.size,sh_size k a,sh_size k b]
theorem sh_at (k:Nat):∀ {t:Tm} {m:Nat},t.At m → (shT k t).At (k + m)
 | .leaf n,m,h=>by
  obtain ⟨h1,h2,h3,h4⟩:=h
  have e:shN k n = n:=by simp [shN,h2]
  simp only [shT,e]; exact ⟨h1,h2,h3,h4⟩
 | .one n t,m,h=>by
  obtain ⟨h1,h2,h3,h4,h5⟩:=h
  have e:shN k n = { n with f_A:=n.f_A + k }:=by simp [shN,h3]
  refine ⟨sh_at k h1,by rw [sh_fits]; exact h2,by rw [sh_kind]; exact h3,?_,by rw [e]; exact h5⟩
  rw [e,sh_size]
  show n.f_A + k + 1 = _
  omega
 | .two n a b,m,h=>by
  obtain ⟨h1,h2,h3,h4,h5,h6⟩:=h
  have e:shN k n = { n with f_A:=n.f_A + k,f_B:=n.f_B + k }:=by simp [shN,h4]
  refine ⟨sh_at k h1,?_,by rw [sh_fits]; exact h3,by rw [sh_kind]; exact h4,?_,?_⟩
  ·have:=sh_at k h2
   rw [sh_size,Nat.add_assoc]; exact this
  ·rw [e,sh_size]
   show n.f_A + k + 1 = _
   omega
  ·rw [e,sh_size,sh_size]
   show n.f_B + k + 1 = _
   omega
theorem sh_vals {β:Type} {d:β} {alg:S_a → β → β → β} (k:Nat) (ha:∀ x v w,alg (shN k x) v w = alg x v w):∀ t:Tm,(shT k t).val d alg = t.val d alg ∧ (shT k t).vals d alg = t.vals d alg
 | .leaf n=>by simp [shT,Tm.val,Tm.vals,ha]
 | .one n t=>by simp [shT,Tm.val,Tm.vals,ha,sh_vals k ha t]
 | .two n a b=>by simp [shT,Tm.val,Tm.vals,ha,sh_vals k ha a,sh_vals k ha b]
theorem sh_dep (k:Nat) (x:S_a) (v w:Int):depA (shN k x) v w = depA x v w:=by simp only [depA,sh_kind]
theorem sh_len (k:Nat) (x:S_a) (v w:Int × Int):lenA (shN k x) v w = lenA x v w:=by obtain ⟨a,b,h⟩:=sh_rest k x; rw [h]; rfl
theorem gix_nil:∀ {l:List S_a} {i:Nat},gix i l = [] ↔ ∀ x ∈ l,x.f_Kind ≠ 11
 | [],i=>by simp [gix]
 | y :: l,i=>by
  unfold gix
  split
  ·rename_i h
   simp [h]
  ·rename_i h
   rw [gix_nil]; simp [h]
section
variable {n:Nat} {y:Sl S_a}
theorem groups_loop (hN:(Sl.l y).length ≤ 500):∀ (d fuel i:Nat) (c:Nat),i + d = (Sl.l y).length → d < fuel → c ≤ i →
  b_K n y fuel (c:Int) (Sl.len y) (i:Int) = some (((c + (gix i ((Sl.l y).drop i)).length:Nat)):Int):=by
 intro d
 induction d with
 | zero =>
  intro fuel i c hi hf hc
  obtain ⟨fuel,rfl⟩:∃ m,fuel = m + 1:=⟨fuel - 1,by omega⟩
  rw [b_K,cfl (df (by simp only [Sl.len]; omega)),List.drop_eq_nil_of_le (by omega)]; simp [gix]
 | succ d ih =>
  intro fuel i c hi hf hc
  obtain ⟨fuel,rfl⟩:∃ m,fuel = m + 1:=⟨fuel - 1,by omega⟩
  have hil:i < (Sl.l y).length:=by omega
  rw [b_K,ct (dt (by simp only [Sl.len]; omega)),ck_ok hil,Option.bind_some,nth_l (List.getElem?_eq_getElem hil),List.drop_eq_getElem_cons hil]
  simp only [b_bD]
  by_cases h:(Sl.l y)[i].f_Kind = 11
  ·rw [ct (dt h),wp1 (by omega),wp1 (by omega),ih fuel (i + 1) (c + 1) (by omega) (by omega) (by omega)]
   simp [gix,h]; omega
  ·rw [cfl (df h),wp1 (by omega),ih fuel (i + 1) c (by omega) (by omega) (by omega)]
   simp [gix,h]
theorem groups_ok (hn:600 ≤ n) (hN:(Sl.l y).length ≤ 500):m_b1 n y = some ((gix 0 (Sl.l y)).length:Int):=by
 obtain ⟨n,rfl⟩:∃ m,n = m + 1:=⟨n - 1,by omega⟩
 have:=groups_loop (n:=n) hN (Sl.l y).length n 0 0 (by omega) (by omega) (by omega)
 simp only [m_b1,b_cv]
 simpa using this
theorem join_loop {a b:Sl S_a} {t:Tm} {kind:Int} {z:Sl S_a} (hn:2 ≤ n) (hb:Sl.l b = t.flat) (ht:t.At 0) (hl:(Sl.l a).length ≤ 60) (hs:t.size ≤ 60):∀ (d fuel i:Nat),i + d = t.size → d < fuel →
  b_r (m_v n) n a b fuel kind z ((Sl.l a).length:Int) (pf (Sl.l a ++ t.flat.map (shN (Sl.l a).length)) S_a.zero ((Sl.l a).length + i)) (Sl.len b) (i:Int) =
   some (some (Sl.l a ++ t.flat.map (shN (Sl.l a).length) ++ [⟨kind,((Sl.l a).length:Int) - 1,(((Sl.l a).length + t.size:Nat):Int) - 1,S_b.zero,0,0,0,0,false⟩])):=by
 have hlen:Sl.len b = (t.size:Int):=by simp [Sl.len,hb,Tm.flat_len]
 have hvl:(Sl.l a ++ t.flat.map (shN (Sl.l a).length)).length = (Sl.l a).length + t.size:=by simp [Tm.flat_len]
 intro d
 induction d with
 | zero =>
  intro fuel i hi hf
  obtain ⟨fuel,rfl⟩:∃ m,fuel = m + 1:=⟨fuel - 1,by omega⟩
  obtain rfl:i = t.size:=by omega
  have hr2:(8000000:Nat) ≤ roomMost:=Nat.le_of_ble_eq_true rfl
  rw [b_r,cfl (df (by omega)),← hvl,pf_end,app1 (by rw [hvl]; omega),Option.bind_some,w64 (n:=((Sl.l a).length:Int) - 1) (by omega) (by omega)]
  have hL:Sl.len (some (Sl.l a ++ t.flat.map (shN (Sl.l a).length))) = (((Sl.l a).length + t.size:Nat):Int):=by rw [← hvl]; rfl
  rw [hL,w64 (by omega) (by omega),hvl]
  rfl
 | succ d ih =>
  intro fuel i hi hf
  obtain ⟨fuel,rfl⟩:∃ m,fuel = m + 1:=⟨fuel - 1,by omega⟩
  have hif:i < t.flat.length:=by rw [Tm.flat_len]; omega
  have hx:=List.getElem?_eq_getElem hif
  have hx0:Sl.nth b i = t.flat[i]:=nth_l (by rw [hb]; exact hx)
  have K:=Tm.kid (d:=(0:Int)) (alg:=depA) ht hx
  have go:=ih fuel (i + 1) (by omega) (by omega)
  have hv:(Sl.l a ++ t.flat.map (shN (Sl.l a).length))[(Sl.l a).length + i]? = some (shN (Sl.l a).length t.flat[i]):=by
   rw [List.getElem?_append_right (by omega),Nat.add_sub_cancel_left,List.getElem?_map,hx]; rfl
  rw [b_r,ct (dt (by omega)),ck_ok (by rw [hb]; exact hif),Option.bind_some,hx0,kids_ok _ (by omega),Option.bind_some]
  generalize t.flat[i] = x at *
  have fin:b_S (m_v n) n (b_r (m_v n) n a b fuel) a b kind z ((Sl.l a).length:Int) (pf (Sl.l a ++ t.flat.map (shN (Sl.l a).length)) S_a.zero ((Sl.l a).length + i)) (i:Int) (shN (Sl.l a).length x) (Sl.len b) (i:Int) = some (some (Sl.l a ++ t.flat.map (shN (Sl.l a).length) ++ [⟨kind,((Sl.l a).length:Int) - 1,(((Sl.l a).length + t.size:Nat):Int) - 1,S_b.zero,0,0,0,0,false⟩])):=by
   rw [b_S,w64 (n:=((Sl.l a).length:Int) + i) (by omega) (by omega),ck_int (by omega) (by rw [pf_len (by omega)]; omega),Option.bind_some,show (((Sl.l a).length:Int) + i).toNat = (Sl.l a).length + i by omega,pf_put hv,wp1 (by omega)]
   exact go
  simp only [b_be,kids_ok _ (show 1 ≤ n by omega),Option.bind_some]
  rcases K.at_ with ⟨h1,h2,h3,h4⟩ | ⟨h1,j,v,h2,h3,h4,h5,h6⟩ | ⟨h1,j,m,v,w,h2,h3,h4,h5,h6,h7,h8⟩
  ·rw [cfl (df (by omega)),cfl (df (by omega))]
   have e:shN (Sl.l a).length x = x:=by simp [shN,h1]
   rw [e] at fin; exact fin
  ·rw [ct (dt (by omega)),cfl (df (by show ¬ (1:Int) < ((kd x.f_Kind:Nat):Int); omega))]
   have e:shN (Sl.l a).length x = { x with f_A:=x.f_A + (Sl.l a).length }:=by simp [shN,h1]
   rw [e] at fin
   rw [w64 (n:=x.f_A + ((Sl.l a).length:Int)) (by omega) (by omega)]
   exact fin
  ·rw [ct (dt (by omega)),ct (dt (by show (1:Int) < ((kd x.f_Kind:Nat):Int); omega))]
   have e:shN (Sl.l a).length x = { x with f_A:=x.f_A + (Sl.l a).length,f_B:=x.f_B + (Sl.l a).length }:=by simp [shN,h1]
   rw [e] at fin
   rw [w64 (n:=x.f_A + ((Sl.l a).length:Int)) (by omega) (by omega)]
   show b_S _ _ _ _ _ _ _ _ _ _ { x with f_A:=x.f_A + (Sl.l a).length,f_B:=IntKind.i64.wrap (x.f_B + (Sl.l a).length) } _ _ = _
   rw [w64 (n:=x.f_B + ((Sl.l a).length:Int)) (by omega) (by omega)]
   exact fin
theorem join_ok {a b:Sl S_a} {t:Tm} {kind:Int} (hn:600 ≤ n) (hb:Sl.l b = t.flat) (ht:t.At 0) (hl:(Sl.l a).length ≤ 60) (hs:t.size ≤ 60) :
  m_bH n a b kind = some (some (Sl.l a ++ t.flat.map (shN (Sl.l a).length) ++ [⟨kind,((Sl.l a).length:Int) - 1,(((Sl.l a).length + t.size:Nat):Int) - 1,S_b.zero,0,0,0,0,false⟩])):=by
 obtain ⟨n,rfl⟩:∃ m,n = m + 1:=⟨n - 1,by omega⟩
 have hlen:Sl.len b = (t.size:Int):=by simp [Sl.len,hb,Tm.flat_len]
 have hlb:(Sl.l b).length = t.size:=by rw [hb,Tm.flat_len]
 simp only [m_bH,b_cu]
 have e1:IntKind.i64.wrap (Sl.len a + Sl.len b) = (((Sl.l a).length + t.size:Nat):Int):=by rw [hlen]; simp only [Sl.len]; rw [w64 (by omega) (by omega)]; omega
 rw [e1,wp1 (by omega),make_ok (z:=96) (by omega) (by omega) (by omega),Option.bind_some]
 have e2:Sl.copy (some (List.replicate ((Sl.l a).length + t.size) S_a.zero)) a = pf (Sl.l a ++ t.flat.map (shN (Sl.l a).length)) S_a.zero ((Sl.l a).length + 0):=by
  simp [Sl.copy,pf,Tm.flat_len]
  exact List.take_of_length_le (by omega)
 rw [e2]
 exact join_loop (by omega) hb ht hl hs t.size n 0 (by omega) (by omega)
end
theorem right_join {la lb:List S_a} {ta tb:Tm} {kind:Int} (ha:RightT la ta) (hb:RightT lb tb) (hda:ta.dep < 40) (hdb:tb.dep < 40) (hs:ta.size + tb.size < 500) (ga:gix 0 la = []) (gb:gix 0 lb = []) (hk:kind = 8 ∨ kind = 9) :
  RightT (la ++ tb.flat.map (shN la.length) ++ [⟨kind,(la.length:Int) - 1,((la.length + tb.size:Nat):Int) - 1,S_b.zero,0,0,0,0,false⟩]) (.two ⟨kind,(la.length:Int) - 1,((la.length + tb.size:Nat):Int) - 1,S_b.zero,0,0,0,0,false⟩ ta (shT la.length tb)):=by
 obtain ⟨hla,hta⟩:=tree_some ha.tree
 obtain ⟨hlb,htb⟩:=tree_some hb.tree
 have hll:la.length = ta.size:=by rw [hla,Tm.flat_len]
 have hpa:=ta.pos
 have hpb:=tb.pos
 generalize hx:(⟨kind,(la.length:Int) - 1,((la.length + tb.size:Nat):Int) - 1,S_b.zero,0,0,0,0,false⟩:S_a) = x
 have xk:x.f_Kind = kind:=by rw [← hx]
 have xA:x.f_A = (la.length:Int) - 1:=by rw [← hx]
 have xB:x.f_B = ((la.length + tb.size:Nat):Int) - 1:=by rw [← hx]
 have xf:fitsB x = true:=by rw [← hx]; rcases hk with rfl | rfl <;> rfl
 have xkd:kd x.f_Kind = 2:=by rw [xk]; rcases hk with rfl | rfl <;> rfl
 have at1:(Tm.two x ta (shT la.length tb)).At 0:=by
  refine ⟨hta,?_,xf,xkd,by rw [xA]; omega,by rw [xB,sh_size]; omega⟩
  have:=sh_at la.length htb
  rw [Nat.zero_add,← hll]; exact this
 have e:la ++ tb.flat.map (shN la.length) ++ [x] = (Tm.two x ta (shT la.length tb)).flat:=by rw [Tm.flat,sh_flat,← hla]
 have dv:=(sh_vals (d:=(0:Int)) (alg:=depA) la.length (sh_dep _) tb).1
 refine ⟨by rw [e]; exact tree_flat at1,by simp [Tm.size,sh_size]; omega,?_,?_,?_⟩
 ·rw [dep_two at1]
  have:(shT la.length tb).dep = tb.dep:=dv
  rw [this]; omega
 ·have g1:=ha.grp
  have g2:=hb.grp
  unfold groupedR at g1 g2 ⊢
  rw [ga] at g1
  rw [gb] at g2
  have g3:gix 0 (la ++ tb.flat.map (shN la.length) ++ [x]) = []:=by
   rw [gix_nil]
   intro y hy
   simp only [List.mem_append,List.mem_map,List.mem_singleton] at hy
   rcases hy with (hy | ⟨z,hz,rfl⟩) | rfl
   ·exact gix_nil.1 ga y hy
   ·rw [sh_kind]; exact gix_nil.1 gb z (hlb ▸ hz)
   ·rw [xk]; omega
  rw [g3]
  simp only [srt,List.mergeSort_nil,numOk,Bool.true_and,List.length_nil,Bool.and_eq_true,Bool.not_eq_true',List.any_eq_false] at g1 g2 ⊢
  refine ⟨g1.1,fun y hy=>?_⟩
  simp only [List.mem_append,List.mem_map,List.mem_singleton] at hy
  rcases hy with (hy | ⟨z,hz,rfl⟩) | rfl
  ·exact g1.2 y hy
  ·have:=g2.2 z (hlb ▸ hz)
   obtain ⟨a,b,h⟩:=sh_rest la.length z
   rw [h]; exact this
  ·have:y.f_Kind ≠ 12:=by rw [xk]; omega
   simp [oddB,this]
 ·intro i y hy hky j v hj hv
  have lv:=(sh_vals (d:=((0:Int),(0:Int))) (alg:=lenA) la.length (sh_len _) tb).2
  change (ta.lens ++ (shT la.length tb).lens ++ [_])[j]? = some v at hv
  rw [show (shT la.length tb).lens = tb.lens from lv] at hv
  by_cases hi:i < ta.size
  ·have hy':ta.flat[i]? = some y:=by
    rw [Tm.flat,List.append_assoc,List.getElem?_append_left (by rw [Tm.flat_len]; exact hi)] at hy; exact hy
   have K:=Tm.kid (d:=((0:Int),(0:Int))) (alg:=lenA) hta hy'
   refine ha.beh i y hy' hky j v hj ?_
   rcases K.at_ with ⟨h1,_⟩ | ⟨h1,j',v',h2,h3,h4,h5,h6⟩ | ⟨h1,_⟩
   ·rcases hky with k | k <;> simp [kd,k] at h1
   ·obtain rfl:j = j':=by rw [h3] at hj; omega
    rw [List.append_assoc,List.getElem?_append_left (by rw [Tm.vals_len]; omega)] at hv
    exact hv
   ·rcases hky with k | k <;> simp [kd,k] at h1
  ·by_cases hi2:i < ta.size + tb.size
   ·rw [Tm.flat,List.getElem?_append_left (by simp [Tm.flat_len,sh_size]; omega),List.getElem?_append_right (by rw [Tm.flat_len]; omega),Tm.flat_len,sh_flat,List.getElem?_map] at hy
    obtain ⟨z,hz,rfl⟩:=Option.map_eq_some_iff.1 hy
    rw [sh_kind] at hky
    have K:=Tm.kid (d:=((0:Int),(0:Int))) (alg:=lenA) htb hz
    rcases K.at_ with ⟨h1,_⟩ | ⟨h1,j',v',h2,h3,h4,h5,h6⟩ | ⟨h1,_⟩
    ·rcases hky with k | k <;> simp [kd,k] at h1
    ·have e2:shN la.length z = { z with f_A:=z.f_A + la.length }:=by simp [shN,h1]
     rw [e2] at hj
     have hj':z.f_A + la.length = (j:Int):=hj
     rw [h3] at hj'
     have hzl:=(List.getElem?_eq_some_iff.1 hz).1
     rw [Tm.flat_len] at hzl
     rw [List.getElem?_append_left (by simp [Tm.vals_len]; omega),List.getElem?_append_right (by rw [Tm.vals_len]; omega),Tm.vals_len,show j - ta.size = j' by omega] at hv
     exact hb.beh _ z hz hky j' v (by rw [h3]; omega) hv
    ·rcases hky with k | k <;> simp [kd,k] at h1
   ·have hlt:=(List.getElem?_eq_some_iff.1 hy).1
    rw [Tm.flat_len,Tm.size,sh_size] at hlt
    obtain rfl:i = ta.size + tb.size:=by omega
    rw [Tm.flat,List.getElem?_append_right (by simp [Tm.flat_len,sh_size])] at hy
    simp [Tm.flat_len,sh_size] at hy; subst hy
    rw [xk] at hky; omega
end Go.Proofs.YtaadjlpfdajggaaGreatDoor

set_option maxRecDepth 100000
set_option linter.unusedVariables false
set_option linter.unusedSimpArgs false
namespace Go.Proofs.YtaadjlpfdajggaaGreatDoor
open Go Go.AM
theorem fits_rep' {x:S_a} (h:fitsB x = true) (hk:x.f_Kind = 10):0 ≤ x.f_Min ∧ x.f_Min ≤ 100 ∧ (x.f_Max = -1 ∨ (x.f_Min ≤ x.f_Max ∧ x.f_Max ≤ 100)):=by
 simp [fitsB,hk] at h
 obtain ⟨_,h⟩:=h
 omega
theorem tn_eq {w:Int} {x:S_a} (hf:fitsB x = true) (hk:x.f_Kind = 10) (h0:0 ≤ w) (h1:w ≤ 10000):tnA w x = (if x.f_Max = -1 then x.f_Min + w else min (x.f_Min + w) x.f_Max) + 1:=by
 obtain ⟨m0,m1,m2⟩:=fits_rep' hf hk
 unfold tnA
 rw [w64 (n:=x.f_Min + w) (by omega) (by omega),w64 (by split <;> omega) (by split <;> omega)]
theorem tn_rng {w:Int} {x:S_a} (hf:fitsB x = true) (hk:x.f_Kind = 10) (h0:0 ≤ w) (h1:w ≤ 10000):1 ≤ tnA w x ∧ tnA w x ≤ 10101:=by
 obtain ⟨m0,m1,m2⟩:=fits_rep' hf hk
 rw [tn_eq hf hk h0 h1]
 split <;> omega
theorem tn_mono {w w':Int} {x:S_a} (hf:fitsB x = true) (hk:x.f_Kind = 10) (h0:0 ≤ w) (h:w ≤ w') (h1:w' ≤ 10000):tnA w x ≤ tnA w' x:=by
 rw [tn_eq hf hk h0 (by omega),tn_eq hf hk (by omega) h1]
 split <;> omega
structure BR (a:Int):Prop where
 lo:1 ≤ a
 hi:a ≤ 1099511627776
theorem mul_rng1 {t a:Int} (h1:1 ≤ t) (h2:t ≤ 10101) (h3:1 ≤ a) (h4:a ≤ 1099511627777):a ≤ t * a ∧ t * a ≤ 11106167000000000:=by
 refine ⟨?_,?_⟩
 ·have:=Int.mul_le_mul_of_nonneg_right h1 (show 0 ≤ a by omega); omega
 ·have:=Int.mul_le_mul h2 h4 (by omega) (by omega); omega
def bndC (w:Int) (x:S_a) (a b:Int):Int :=
 if x.f_Kind = 8 then min (1 + a + b) 1099511627776
 else if x.f_Kind = 9 then min (1 + max a b) 1099511627776
 else if x.f_Kind = 11 then min (2 + a) 1099511627776
 else if x.f_Kind = 13 ∨ x.f_Kind = 14 ∨ x.f_Kind = 15 ∨ x.f_Kind = 16 ∨ x.f_Kind = 17 then min (3 + a) 1099511627776
 else if x.f_Kind = 10 then min (4 + tnA w x * (1 + a)) 1099511627776
 else 1
theorem bnd_c {w:Int} {x:S_a} {a b:Int} (hf:fitsB x = true) (h0:0 ≤ w) (h1:w ≤ 10000) (a0:0 ≤ a) (a1:a ≤ 1099511627776) (b0:0 ≤ b) (b1:b ≤ 1099511627776):bndA w x a b = bndC w x a b:=by
 unfold bndA bndC
 split
 ·rw [w64 (n:=1 + a) (by omega) (by omega),w64 (by omega) (by omega)]
 split
 ·rw [w64 (by omega) (by omega)]
 split
 ·rw [w64 (by omega) (by omega)]
 split
 ·rw [w64 (by omega) (by omega)]
 split
 ·rename_i hk
  obtain ⟨t0,t1⟩:=tn_rng hf hk h0 h1
  obtain ⟨m0,m1⟩:=mul_rng1 t0 t1 (show 1 ≤ 1 + a by omega) (by omega)
  rw [w64 (n:=1 + a) (by omega) (by omega),w64 (n:=tnA w x * (1 + a)) (by omega) (by omega),w64 (by omega) (by omega)]
 ·rfl
theorem bnd_k8 {w:Int} {x:S_a} {a b:Int} (hk:x.f_Kind = 8):bndC w x a b = min (1 + a + b) 1099511627776:=by unfold bndC; rw [if_pos hk]
theorem bnd_k3 {w:Int} {x:S_a} {a b:Int} (hk:x.f_Kind = 13 ∨ x.f_Kind = 14 ∨ x.f_Kind = 15 ∨ x.f_Kind = 16 ∨ x.f_Kind = 17):bndC w x a b = min (3 + a) 1099511627776:=by unfold bndC; rw [if_neg (by omega),if_neg (by omega),if_neg (by omega),if_pos hk]
theorem bndC_rng {w:Int} {x:S_a} {a b:Int} (hf:fitsB x = true) (h0:0 ≤ w) (h1:w ≤ 10000) (a0:0 ≤ a) (b0:0 ≤ b) (a1:a ≤ 1099511627776):BR (bndC w x a b):=by
 unfold bndC
 split
 ·exact ⟨by omega,by omega⟩
 split
 ·exact ⟨by omega,by omega⟩
 split
 ·exact ⟨by omega,by omega⟩
 split
 ·exact ⟨by omega,by omega⟩
 split
 ·rename_i hk
  obtain ⟨t0,t1⟩:=tn_rng hf hk h0 h1
  obtain ⟨m0,m1⟩:=mul_rng1 t0 t1 (show 1 ≤ 1 + a by omega) (by omega)
  exact ⟨by omega,by omega⟩
 ·exact ⟨by omega,by omega⟩
theorem bnd_rng {w:Int} (h0:0 ≤ w) (h1:w ≤ 10000):∀ {t:Tm} {k:Nat},t.At k → BR (t.bnd w)
 | .leaf x,k,h=>by
  show BR (bndA w x 0 0)
  rw [bnd_c h.1 h0 h1 (by omega) (by omega) (by omega) (by omega)]
  exact bndC_rng h.1 h0 h1 (by omega) (by omega) (by omega)
 | .one x t,k,h=>by
  have I:=bnd_rng h0 h1 h.1
  have i0:=I.lo
  have i1:=I.hi
  show BR (bndA w x (t.bnd w) 0)
  rw [bnd_c h.2.1 h0 h1 (by omega) (by omega) (by omega) (by omega)]
  exact bndC_rng h.2.1 h0 h1 (by omega) (by omega) (by omega)
 | .two x a b,k,h=>by
  have I:=bnd_rng h0 h1 h.1
  have J:=bnd_rng h0 h1 h.2.1
  have i0:=I.lo
  have i1:=I.hi
  have j0:=J.lo
  have j1:=J.hi
  show BR (bndA w x (a.bnd w) (b.bnd w))
  rw [bnd_c h.2.2.1 h0 h1 (by omega) (by omega) (by omega) (by omega)]
  exact bndC_rng h.2.2.1 h0 h1 (by omega) (by omega) (by omega)
theorem bndC_mono {w w':Int} {x:S_a} {a b a' b':Int} (hf:fitsB x = true) (h0:0 ≤ w) (h:w ≤ w') (h1:w' ≤ 10000) (a0:0 ≤ a) (b0:0 ≤ b) (ha:a ≤ a') (hb:b ≤ b'):bndC w x a b ≤ bndC w' x a' b':=by
 unfold bndC
 split
 ·omega
 split
 ·omega
 split
 ·omega
 split
 ·omega
 split
 ·rename_i hk
  have t0:=(tn_rng hf hk h0 (by omega)).1
  have tm:=tn_mono hf hk h0 h h1
  have:=Int.mul_le_mul tm (show 1 + a ≤ 1 + a' by omega) (by omega) (by omega)
  omega
 ·omega
theorem bnd_mono {w w':Int} (h0:0 ≤ w) (h:w ≤ w') (h1:w' ≤ 10000):∀ {t:Tm} {k:Nat},t.At k → t.bnd w ≤ t.bnd w'
 | .leaf x,k,q=>by
  show bndA w x 0 0 ≤ bndA w' x 0 0
  rw [bnd_c q.1 h0 (by omega) (by omega) (by omega) (by omega) (by omega),bnd_c q.1 (by omega) h1 (by omega) (by omega) (by omega) (by omega)]
  exact bndC_mono q.1 h0 h h1 (by omega) (by omega) (by omega) (by omega)
 | .one x t,k,q=>by
  have I:=bnd_rng h0 (show w ≤ 10000 by omega) q.1
  have I':=bnd_rng (show 0 ≤ w' by omega) h1 q.1
  have M:=bnd_mono h0 h h1 q.1
  have i0:=I.lo
  have i1:=I.hi
  have i0':=I'.lo
  have i1':=I'.hi
  show bndA w x (t.bnd w) 0 ≤ bndA w' x (t.bnd w') 0
  rw [bnd_c q.2.1 h0 (by omega) (by omega) (by omega) (by omega) (by omega),bnd_c q.2.1 (by omega) h1 (by omega) (by omega) (by omega) (by omega)]
  exact bndC_mono q.2.1 h0 h h1 (by omega) (by omega) M (by omega)
 | .two x a b,k,q=>by
  have I:=bnd_rng h0 (show w ≤ 10000 by omega) q.1
  have I':=bnd_rng (show 0 ≤ w' by omega) h1 q.1
  have M:=bnd_mono h0 h h1 q.1
  have J:=bnd_rng h0 (show w ≤ 10000 by omega) q.2.1
  have J':=bnd_rng (show 0 ≤ w' by omega) h1 q.2.1
  have M':=bnd_mono h0 h h1 q.2.1
  have i0:=I.lo
  have i1:=I.hi
  have i0':=I'.lo
  have i1':=I'.hi
  have j0:=J.lo
  have j1:=J.hi
  have j0':=J'.lo
  have j1':=J'.hi
  show bndA w x (a.bnd w) (b.bnd w) ≤ bndA w' x (a.bnd w') (b.bnd w')
  rw [bnd_c q.2.2.1 h0 (by omega) (by omega) (by omega) (by omega) (by omega),bnd_c q.2.2.1 (by omega) h1 (by omega) (by omega) (by omega) (by omega)]
  exact bndC_mono q.2.2.1 h0 h h1 (by omega) (by omega) M M'
theorem sh_bnd (k:Nat) (w:Int) (x:S_a) (v u:Int):bndA w (shN k x) v u = bndA w x v u:=by obtain ⟨a,b,h⟩:=sh_rest k x; rw [h]; rfl
theorem long_eq {w:Int} {t:Tm} {k:Nat} (h0:0 ≤ w) (h1:w ≤ 10000) (h:t.At k):longT t w = t.bnd w + 1:=by
 have I:=bnd_rng h0 h1 h
 have i0:=I.lo
 have i1:=I.hi
 exact w64 (by omega) (by omega)
section
variable {n:Nat} {x0:Sl S_a} {t:Tm} {w:Int}
theorem long_right (hn:1500 ≤ n) (h:RightT (Sl.l x0) t) (h0:0 ≤ w) (h1:w ≤ 10000):m_B n x0 w = some (t.bnd w + 1,0):=by
 obtain ⟨e,he,hR⟩:=right_ok (n:=n - 1) (x0:=x0) (by omega)
 have e0:e = 0:=hR.2 ⟨t,h⟩
 subst e0
 obtain ⟨hl,hA⟩:=tree_some h.tree
 have:=h.len
 rw [long_tree (by omega) he (by rw [hl,Tm.flat_len]; exact this) h.tree h0 h1,long_eq h0 h1 hA]
theorem long_cases (hn:1500 ≤ n) (h0:0 ≤ w) (h1:w ≤ 10000):(∃ t,RightT (Sl.l x0) t) ∨ ∃ e,e ≠ 0 ∧ ∀ w,m_B n x0 w = some (0,e):=by
 obtain ⟨e,he,hR⟩:=right_ok (n:=n - 1) (x0:=x0) (by omega)
 by_cases h:e = 0
 ·exact .inl (hR.1 h)
 ·exact .inr ⟨e,h,fun w=>long_err (by omega) he h⟩
end
end Go.Proofs.YtaadjlpfdajggaaGreatDoor

set_option maxRecDepth 100000
set_option linter.unusedVariables false
set_option linter.unusedSimpArgs false
namespace Go.Proofs.YtaadjlpfdajggaaGreatDoor.boundGrows
open Go Go.AM
section
variable {n:Nat}
theorem join_some_loop {a b:Sl S_a} {kind:Int} {z:Sl S_a} (hn:2 ≤ n) (hla:(Sl.l a).length ≤ 60) (hlb:(Sl.l b).length ≤ 60):∀ (d fuel i:Nat) (l:List S_a),i + d = (Sl.l b).length → d < fuel → l.length = (Sl.l a).length + (Sl.l b).length →
  ∃ y,b_r (m_v n) n a b fuel kind z ((Sl.l a).length:Int) (some l) (Sl.len b) (i:Int) = some y:=by
 intro d
 induction d with
 | zero =>
  intro fuel i l hi hf hl
  obtain ⟨fuel,rfl⟩:∃ m,fuel = m + 1:=⟨fuel - 1,by omega⟩
  rw [b_r,cfl (df (by simp only [Sl.len]; omega)),app1 (by rw [hl]; omega),Option.bind_some]
  exact ⟨_,rfl⟩
 | succ d ih =>
  intro fuel i l hi hf hl
  obtain ⟨fuel,rfl⟩:∃ m,fuel = m + 1:=⟨fuel - 1,by omega⟩
  have hil:i < (Sl.l b).length:=by omega
  rw [b_r,ct (dt (by simp only [Sl.len]; omega)),ck_ok hil,Option.bind_some]
  have fin:∀ x:S_a,∃ y,b_S (m_v n) n (b_r (m_v n) n a b fuel) a b kind z ((Sl.l a).length:Int) (some l) (i:Int) x (Sl.len b) (i:Int) = some y:=fun x=>by
   rw [b_S,w64 (n:=((Sl.l a).length:Int) + i) (by omega) (by omega),ck_int (by omega) (by simp only [Sl.l] at *; omega),Option.bind_some,show (((Sl.l a).length:Int) + i).toNat = (Sl.l a).length + i by omega,wp1 (by omega)]
   exact ih fuel (i + 1) (l.set ((Sl.l a).length + i) x) (by omega) (by omega) (by rw [List.length_set]; exact hl)
  have two:∀ x:S_a,∃ y,b_be (m_v n) n (b_r (m_v n) n a b fuel) a b kind z ((Sl.l a).length:Int) (some l) (i:Int) x (Sl.len b) (i:Int) = some y:=fun x=>by
   rw [b_be,kids_ok _ (by omega),Option.bind_some]
   cases decide ((1:Int) < ((kd x.f_Kind:Nat):Int)) with
   | true=>exact fin _
   | false=>exact fin _
  rw [kids_ok _ (by omega),Option.bind_some]
  cases decide ((0:Int) < ((kd (Sl.nth b i).f_Kind:Nat):Int)) with
  | true=>exact two _
  | false=>exact two _
theorem join_some {a b:Sl S_a} {kind:Int} (hn:600 ≤ n) (hla:(Sl.l a).length ≤ 60) (hlb:(Sl.l b).length ≤ 60):∃ y,m_bH n a b kind = some y:=by
 obtain ⟨n,rfl⟩:∃ m,n = m + 1:=⟨n - 1,by omega⟩
 simp only [m_bH,b_cu]
 have e1:IntKind.i64.wrap (Sl.len a + Sl.len b) = (((Sl.l a).length + (Sl.l b).length:Nat):Int):=by simp only [Sl.len]; rw [w64 (by omega) (by omega)]; omega
 rw [e1,wp1 (by omega),make_ok (z:=96) (by omega) (by omega) (by omega),Option.bind_some]
 exact join_some_loop (by omega) hla hlb (Sl.l b).length n 0 _ (by omega) (by omega) (by simp)
theorem wd_mono {k k':Int} {r r':Nat} (h0:4607182418800017408 ≤ r) (hr:r ≤ r') (hk:k ≤ k') (h1:r' ≤ 9218868437227405312):fcmp .lss (wdA k' r') (wdA k r) = false:=by
 have a:=dblN_rng (k:=k.toNat) (r:=r) (by omega)
 have b:=dblN_rng (k:=k'.toNat) (r:=r') (by omega)
 unfold wdA
 by_cases h:1100 < k
 ·rw [if_pos h,if_pos (by omega)]; exact order_le (by omega) (Nat.le_refl _) (by omega)
 ·rw [if_neg h]
  by_cases h':1100 < k'
  ·rw [if_pos h']; exact order_le a.1 a.2 (by omega)
  ·rw [if_neg h']
   refine order_le a.1 ?_ b.2
   unfold dblN; omega
end
theorem cutN {n:Nat} {x:Sl S_a} (hn:1 ≤ n) (m:Nat):∃ y,m_bx n x (m:Int) = some y ∧ (Sl.l y).length ≤ m:=by
 obtain ⟨n,rfl⟩:∃ m,n = m + 1:=⟨n - 1,by omega⟩
 simp only [m_bx,b_cd,Sl.upto]
 rw [if_pos ⟨by simp only [Sl.len]; omega,by omega⟩]
 refine ⟨_,rfl,?_⟩
 cases x with
 | none=>simp [Sl.l]
 | some l=>simp [Sl.l,Sl.len]; omega
theorem pure (x0 x1:Sl S_a) (z:Int) (h:TreeIn x0) (h':TreeIn x1) (hz:InK .u8 z):∃ n,m_b2 n x0 x1 z = some true:=by
 refine ⟨3001,?_⟩
 simp only [m_b2,b_bs]
 obtain ⟨y,hy,hl⟩:=cutN (n:=3000) (x:=x0) (by omega) 60
 obtain ⟨u,hu,hlu⟩:=cutN (n:=3000) (x:=x1) (by omega) 60
 have hfix:m_bN 3000 = some true:=rfl
 rw [show ((60:Nat):Int) = 60 from rfl] at hy hu
 have w0:0 ≤ z:=hz.1
 have w1:z ≤ 255:=hz.2
 rw [hy,Option.bind_some,hu,Option.bind_some,w64 (n:=z) (by omega) (by omega),w64 (n:=z + 1) (by omega) (by omega)]
 have gy:=groups_ok (n:=3000) (y:=y) (by omega) (by omega)
 have gz:=groups_ok (n:=3000) (y:=u) (by omega) (by omega)
 have gl:=gix_len (l:=Sl.l y) (i:=0)
 have gl2:=gix_len (l:=Sl.l u) (i:=0)
 have gw:IntKind.i64.wrap (((gix 0 (Sl.l y)).length:Int) + ((gix 0 (Sl.l u)).length:Int)) = ((gix 0 (Sl.l y)).length:Int) + ((gix 0 (Sl.l u)).length:Int):=w64 (by omega) (by omega)
 rcases long_cases (n:=3000) (x0:=y) (by omega) w0 (by omega) with ⟨s,hs⟩ | ⟨e,he,ho⟩
 ·have l1:=fun n (hn:1500 ≤ n)=>long_right (n:=n) hn hs w0 (show z ≤ 10000 by omega)
  have l2:=fun n (hn:1500 ≤ n)=>long_right (n:=n) hn hs (show 0 ≤ z + 1 by omega) (show z + 1 ≤ 10000 by omega)
  obtain ⟨hsl,hsA⟩:=tree_some hs.tree
  have zs:(Sl.l y).length = s.size:=by rw [hsl,Tm.flat_len]
  have I:=bnd_rng w0 (show z ≤ 10000 by omega) hsA
  have i0:=I.lo
  have i1:=I.hi
  have M:=bnd_mono w0 (show z ≤ z + 1 by omega) (show z + 1 ≤ 10000 by omega) hsA
  rw [l1 _ (by omega),Option.bind_some,l2 _ (by omega),Option.bind_some]
  simp only
  rw [cfl (by rfl),deep_right (by omega) hs,Option.bind_some,Option.bind_some]
  have out:((bif (decide ((0:Int) = 0)) && ((decide ((0:Int) = 0)) || (decide (s.bnd z + 1 = 0))) then ((m_bN 3000).bind fun v158=>some v158) else some false).bind fun y159=>some y159) = some true:=by
   rw [ct (by simp),hfix]; rfl
  by_cases hd:39 ≤ s.dep
  ·rw [ct (dt hd),Option.bind_some,cond_true,Option.bind_some,cond_true]
   exact out
  rw [cfl (df hd),deep_ok (by omega),Option.bind_some,Option.bind_some]
  by_cases hdu:39 ≤ deepR (Sl.l u)
  ·rw [ct (dt hdu),Option.bind_some,cond_true]
   exact out
  rw [cfl (df hdu),gy,Option.bind_some,gz,Option.bind_some,gw,Option.bind_some]
  by_cases hg:0 < ((gix 0 (Sl.l y)).length:Int) + ((gix 0 (Sl.l u)).length:Int)
  ·rw [ct (dt hg)]
   exact out
  rw [cfl (df hg)]
  have ga:gix 0 (Sl.l y) = []:=List.length_eq_zero_iff.1 (by omega)
  have gb:gix 0 (Sl.l u) = []:=List.length_eq_zero_iff.1 (by omega)
  have wa:=wrap_ok (n:=3000) (y:=y) (x:={ S_a.zero with f_Kind:=17 }) (by omega) (by omega)
  have ra:=right_wrap (x:={ ({ S_a.zero with f_Kind:=17 }:S_a) with f_A:=((Sl.l y).length:Int) - 1,f_B:=0 }) hs (by omega) (by omega) (by rfl) (by rfl) (show (17:Int) ≠ 11 by decide) (show (17:Int) ≠ 15 by decide) (show (17:Int) ≠ 16 by decide) rfl rfl
  have ea:Tm.bnd (Tm.one { ({ S_a.zero with f_Kind:=17 }:S_a) with f_A:=((Sl.l y).length:Int) - 1,f_B:=0 } s) z = min (3 + s.bnd z) 1099511627776:=by
   show bndA z _ (s.bnd z) 0 = _
   rw [bnd_c (by rfl) w0 (by omega) (by omega) (by omega) (by omega) (by omega),bnd_k3 (.inr (.inr (.inr (.inr rfl))))]
  rw [wa,Option.bind_some,long_right (n:=3000) (x0:=some (Sl.l y ++ [_])) (by omega) ra w0 (by omega),Option.bind_some,ea,steps_ok (n:=3000) (by omega) w0 (by omega) (l1 _ (by omega)),Option.bind_some,steps_ok (n:=3000) (by omega) (by omega) (by omega) (l2 _ (by omega)),Option.bind_some]
  simp only
  obtain ⟨_,s2,s3,s4⟩:=start_ok (n:=z.toNat) (by omega)
  rw [show (z + 1).toNat + 1 = z.toNat + 2 by omega,wd_mono s2 s3 (by omega) s4,df (show ¬ s.bnd (z + 1) + 1 < s.bnd z + 1 by omega),df (show ¬ min (3 + s.bnd z) 1099511627776 + 1 < s.bnd z + 1 by omega),cfl (by rfl)]
  obtain ⟨v,hv⟩:=join_some (n:=3000) (a:=y) (b:=u) (kind:=8) (by omega) (by omega) (by omega)
  rcases long_cases (n:=3000) (x0:=u) (by omega) w0 (by omega) with ⟨t,ht⟩ | ⟨e,he,ho2⟩
  ·obtain ⟨htl,htA⟩:=tree_some ht.tree
   have zt:(Sl.l u).length = t.size:=by rw [htl,Tm.flat_len]
   have J:=bnd_rng w0 (show z ≤ 10000 by omega) htA
   have j0:=J.lo
   have j1:=J.hi
   have hdt:deepR (Sl.l u) = t.dep:=by
    have h1:=deep_ok (n:=3000) (x0:=u) (by omega)
    have h2:=deep_right (n:=3000) (x0:=u) (by omega) ht
    rw [h1] at h2; injection h2
   have hj:=join_ok (n:=3000) (kind:=8) (a:=y) (by omega) htl htA (by omega) (by omega)
   have hR:=right_join (kind:=8) hs ht (by omega) (by omega) (by omega) ga gb (.inl rfl)
   rw [long_right (n:=3000) (by omega) ht w0 (by omega),Option.bind_some,hj,Option.bind_some,long_right (n:=3000) (x0:=some (Sl.l y ++ t.flat.map (shN (Sl.l y).length) ++ [_])) (by omega) hR w0 (by omega),Option.bind_some]
   have eb:Tm.bnd (.two ⟨8,((Sl.l y).length:Int) - 1,(((Sl.l y).length + t.size:Nat):Int) - 1,S_b.zero,0,0,0,0,false⟩ s (shT (Sl.l y).length t)) z = min (1 + s.bnd z + t.bnd z) 1099511627776:=by
    show bndA z _ (s.bnd z) ((shT _ t).bnd z) = _
    rw [show ∀ k,(shT k t).bnd z = t.bnd z from fun k=>(sh_vals _ (sh_bnd _ z) t).1]
    rw [bnd_c (by rfl) w0 (by omega) (by omega) (by omega) (by omega) (by omega),bnd_k8 rfl]
   rw [eb]
   simp only
   rw [dt (show s.bnd z + 1 ≤ min (1 + s.bnd z + t.bnd z) 1099511627776 + 1 by omega),dt (show t.bnd z + 1 ≤ min (1 + s.bnd z + t.bnd z) 1099511627776 + 1 by omega),ct (by rfl),hfix]; rfl
  ·obtain ⟨v2,hv2⟩:∃ v2,m_B 3000 v z = some v2:=by
    rcases long_cases (n:=3000) (x0:=v) (by omega) w0 (by omega) with ⟨t,ht⟩ | ⟨e,he,ho3⟩
    ·exact ⟨_,long_right (n:=3000) (by omega) ht w0 (by omega)⟩
    ·exact ⟨_,ho3 z⟩
   rw [ho2,Option.bind_some,hv,Option.bind_some,hv2,Option.bind_some]
   simp only
   rw [df he,ct (by rfl),hfix]; rfl
 ·rw [ho,Option.bind_some,ho,Option.bind_some]
  simp only
  rw [df he,ct (by rw [Bool.not_false,Bool.or_true]),Option.bind_some,cond_true,Option.bind_some,cond_true,Option.bind_some,cond_true,ct (by simp),hfix]; rfl
end Go.Proofs.YtaadjlpfdajggaaGreatDoor.boundGrows
