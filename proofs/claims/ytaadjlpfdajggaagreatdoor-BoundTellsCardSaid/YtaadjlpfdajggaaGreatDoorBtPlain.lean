/-
  THE PLAIN LAW: no program in sight.
-/
import Derived.Test.YtaadjlpfdajggaaGreatDoorBtAm22
import Derived.Test.YtaadjlpfdajggaaGreatDoorBtTab
import Derived.Test.YtaadjlpfdajggaaGreatDoorBtAm28
import Derived.Test.YtaadjlpfdajggaaGreatDoorBtLaw3
set_option linter.unusedVariables false
set_option linter.unusedSimpArgs false
namespace Go.AM
open Go
abbrev B (s:ByteArray):List Int:=bytesOf s
theorem bind_some {α β:Type} (a:α) (f:α → Option β):(some a).bind f = f a:=rfl
theorem ck_ok {n:Nat} {i:Nat} (h:i < n):ck n (i:Int) = some i:=by
 rw [ck,if_pos (by omega)]; simp
theorem ck_int {n:Nat} {i:Int} (h:0 ≤ i) (h':i < n):ck n i = some i.toNat:=if_pos ⟨h,h'⟩
theorem w64 {n:Int} (h:-9223372036854775808 ≤ n) (h':n < 9223372036854775808):IntKind.i64.wrap n = n:=wrap_i64 h h'
theorem wp1 {j:Nat} (h:j < 1000000):IntKind.i64.wrap ((j:Int) + 1) = ((j + 1:Nat):Int):=by rw [w64 (by omega) (by omega)]; omega
end Go.AM

set_option maxRecDepth 100000
set_option linter.unusedVariables false
set_option linter.unusedSimpArgs false
namespace Go.Proofs.YtaadjlpfdajggaaGreatDoor
open Go Go.AM
section
variable {β:Type} {vs:List β} {z v w:β} {i j:Nat}
def pf (vs:List β) (z:β) (i:Nat):Sl β:=some (vs.take i ++ List.replicate (vs.length - i) z)
theorem pf_len (h:i ≤ vs.length):(Sl.l (pf vs z i)).length = vs.length:=by simp [pf,Sl.l]; omega
theorem pf_nth [Inhabited β] (h:j < i) (hv:vs[j]? = some v):Sl.nth (pf vs z i) j = v:=by
 have hj:=(List.getElem?_eq_some_iff.1 hv).1
 simp only [pf,Sl.nth,Sl.l,List.getD]
 rw [List.getElem?_append_left (by simp; omega),List.getElem?_take_of_lt h,hv]; rfl
theorem pf_put (hv:vs[i]? = some v):Sl.put (pf vs z i) i v = pf vs z (i + 1):=by
 obtain ⟨hi,rfl⟩:=List.getElem?_eq_some_iff.1 hv
 simp only [pf,Sl.put,Option.map_some,Option.some.injEq]
 rw [List.set_append_right _ _ (by simp; omega),show vs.length - i = (vs.length - (i + 1)) + 1 by omega,List.replicate_succ,show i - (List.take i vs).length = 0 by simp; omega,List.set_cons_zero,List.take_succ_eq_append_getElem hi,List.append_assoc]
 rfl
theorem pf_skip (hv:vs[i]? = some z):pf vs z i = pf vs z (i + 1):=by
 obtain ⟨hi,hz⟩:=List.getElem?_eq_some_iff.1 hv
 simp only [pf,Option.some.injEq]
 rw [show vs.length - i = (vs.length - (i + 1)) + 1 by omega,List.replicate_succ,List.take_succ_eq_append_getElem hi,hz,List.append_assoc]
 rfl
theorem pf_end:pf vs z vs.length = some vs:=by simp [pf]
theorem pf_0:pf vs z 0 = some (List.replicate vs.length z):=by simp [pf]
theorem nth_put_ne [Inhabited β] {x:Sl β} (h:i ≠ j):Sl.nth (Sl.put x i v) j = Sl.nth x j:=by
 cases x with
 | none=>rfl
 | some l=>simp only [Sl.put,Sl.nth,Sl.l,Option.map_some,List.getD,List.getElem?_set_ne h]
theorem put_put {x:Sl β}:Sl.put (Sl.put x i v) i w = Sl.put x i w:=by
 cases x with
 | none=>rfl
 | some l=>simp [Sl.put]
theorem put_len {x:Sl β}:(Sl.l (Sl.put x i v)).length = (Sl.l x).length:=by
 cases x with
 | none=>rfl
 | some l=>simp [Sl.put,Sl.l]
theorem nth_l [Inhabited β] {x:Sl β} (h:(Sl.l x)[i]? = some v):Sl.nth x i = v:=by simp [Sl.nth,List.getD,h]
end
def kd (k:Int):Nat:=if k = 8 ∨ k = 9 then 2 else if k = 10 ∨ k = 11 ∨ k = 13 ∨ k = 14 ∨ k = 15 ∨ k = 16 ∨ k = 17 then 1 else 0
theorem kids_ok {n:Nat} (k:Int) (h:1 ≤ n):m_bN n k = some ((kd k:Nat):Int):=by
 obtain ⟨n,rfl⟩:∃ m,n = m + 1:=⟨n - 1,by omega⟩
 simp only [m_bN,b_ei,b_cY,b_ba,kd]
 by_cases h8:k = 8
 ·subst h8; rfl
 by_cases h9:k = 9
 ·subst h9; rfl
 by_cases h10:k = 10
 ·subst h10; rfl
 by_cases h11:k = 11
 ·subst h11; rfl
 by_cases h13:k = 13
 ·subst h13; rfl
 by_cases h14:k = 14
 ·subst h14; rfl
 by_cases h15:k = 15
 ·subst h15; rfl
 by_cases h16:k = 16
 ·subst h16; rfl
 by_cases h17:k = 17
 ·subst h17; rfl
 simp [*]
def bareS (x:S_a):S_a:={ x with f_Kind:=0,f_A:=0,f_B:=0 }
def fitsB (x:S_a):Bool:=decide (0 ≤ x.f_Kind) && decide (x.f_Kind < 18) && decide (bareS x = bareS (ownS x)) &&
 (!decide (x.f_Kind = 10) || (decide (0 ≤ x.f_Min) && decide (x.f_Min ≤ 100) && (decide (x.f_Max = -1) || (decide (x.f_Min ≤ x.f_Max) && decide (x.f_Max ≤ 100))) && decide (0 ≤ x.f_Mode) && decide (x.f_Mode ≤ 2)))
theorem fits_ok {n:Nat} (x:S_a) (h:2 ≤ n):m_bt n x = some (fitsB x):=by
 obtain ⟨n,rfl⟩:∃ m,n = m + 2:=⟨n - 2,by omega⟩
 simp only [m_bt,b_cK,m_cN,b_cL,m_cZ,Option.bind_some,fitsB]
 show _ = some (_ && decide (bareS x = bareS (ownS x)) && _)
 by_cases h0:x.f_Kind < 0
 ·simp [h0,show ¬ (0 ≤ x.f_Kind) by omega]
 by_cases h1:18 ≤ x.f_Kind
 ·simp [h0,h1,show ¬ (x.f_Kind < 18) by omega]
 have h0':0 ≤ x.f_Kind:=by omega
 have h1':x.f_Kind < 18:=by omega
 by_cases h2:bareS x = bareS (ownS x)
 ·have h2':=h2
  simp only [bareS] at h2'
  by_cases h3:x.f_Kind = 10 <;> simp [h0,h1,h0',h1',h2,h2',h3]
 ·have h2':=h2
  simp only [bareS] at h2'
  by_cases h3:x.f_Kind = 10 <;> simp [h0,h1,h0',h1',h2,h2',h3]
inductive Tm where
 | leaf (n:S_a)
 | one (n:S_a) (t:Tm)
 | two (n:S_a) (a b:Tm)
def Tm.flat:Tm → List S_a
 | .leaf n=>[n]
 | .one n t=>t.flat ++ [n]
 | .two n a b=>a.flat ++ b.flat ++ [n]
def Tm.size:Tm → Nat
 | .leaf n=>1
 | .one n t=>t.size + 1
 | .two n a b=>a.size + b.size + 1
theorem Tm.pos:∀ t:Tm,0 < t.size
 | .leaf n=>by simp [Tm.size]
 | .one n t=>by simp [Tm.size]
 | .two n a b=>by simp [Tm.size]
theorem Tm.flat_len:∀ t:Tm,t.flat.length = t.size
 | .leaf n=>rfl
 | .one n t=>by simp [Tm.flat,Tm.size,t.flat_len]
 | .two n a b=>by simp [Tm.flat,Tm.size,a.flat_len,b.flat_len]; omega
def Tm.At (k:Nat):Tm → Prop
 | .leaf n=>fitsB n = true ∧ kd n.f_Kind = 0 ∧ n.f_A = 0 ∧ n.f_B = 0
 | .one n t=>t.At k ∧ fitsB n = true ∧ kd n.f_Kind = 1 ∧ n.f_A + 1 = ((k + t.size:Nat):Int) ∧ n.f_B = 0
 | .two n a b=>a.At k ∧ b.At (k + a.size) ∧ fitsB n = true ∧ kd n.f_Kind = 2 ∧ n.f_A + 1 = ((k + a.size:Nat):Int) ∧ n.f_B + 1 = ((k + a.size + b.size:Nat):Int)
section
variable {β:Type} (d:β) (alg:S_a → β → β → β)
def Tm.val:Tm → β
 | .leaf n=>alg n d d
 | .one n t=>alg n t.val d
 | .two n a b=>alg n a.val b.val
def Tm.vals:Tm → List β
 | .leaf n=>[alg n d d]
 | .one n t=>t.vals ++ [alg n (t.val d alg) d]
 | .two n a b=>a.vals ++ b.vals ++ [alg n (a.val d alg) (b.val d alg)]
theorem Tm.vals_len:∀ t:Tm,(t.vals d alg).length = t.size
 | .leaf n=>rfl
 | .one n t=>by simp [Tm.vals,Tm.size,t.vals_len]
 | .two n a b=>by simp [Tm.vals,Tm.size,a.vals_len,b.vals_len]; omega
theorem Tm.vals_last:∀ t:Tm,(t.vals d alg)[t.size - 1]? = some (t.val d alg)
 | .leaf n=>rfl
 | .one n t=>by
  simp only [Tm.vals,Tm.size,Tm.val,Nat.add_sub_cancel]
  rw [List.getElem?_append_right (by simp [Tm.vals_len]),Tm.vals_len]; simp
 | .two n a b=>by
  simp only [Tm.vals,Tm.size,Tm.val,Nat.add_sub_cancel]
  rw [List.getElem?_append_right (by simp [Tm.vals_len])]; simp [Tm.vals_len]
structure Kid (k i:Nat) (vs:List β) (x:S_a):Prop where
 fits:fitsB x = true
 at_:(kd x.f_Kind = 0 ∧ x.f_A = 0 ∧ x.f_B = 0 ∧ vs[i]? = some (alg x d d)) ∨
  (kd x.f_Kind = 1 ∧ ∃ j v,j < i ∧ x.f_A = ((k + j:Nat):Int) ∧ x.f_B = 0 ∧ vs[j]? = some v ∧ vs[i]? = some (alg x v d)) ∨
  (kd x.f_Kind = 2 ∧ ∃ j m v w,j < i ∧ m < i ∧ x.f_A = ((k + j:Nat):Int) ∧ x.f_B = ((k + m:Nat):Int) ∧ vs[j]? = some v ∧ vs[m]? = some w ∧ vs[i]? = some (alg x v w))
variable {d alg}
theorem Kid.left {k i:Nat} {vs us:List β} {x:S_a} (h:Kid d alg k i vs x):Kid d alg k i (vs ++ us) x:=by
 have up:∀ {j v},vs[j]? = some v → (vs ++ us)[j]? = some v:=fun {j v} hv=>by rw [List.getElem?_append_left (List.getElem?_eq_some_iff.1 hv).1]; exact hv
 refine ⟨h.fits,?_⟩
 rcases h.at_ with ⟨h1,h2,h3,h4⟩ | ⟨h1,j,v,h2,h3,h4,h5,h6⟩ | ⟨h1,j,m,v,w,h2,h3,h4,h5,h6,h7,h8⟩
 ·exact .inl ⟨h1,h2,h3,up h4⟩
 ·exact .inr (.inl ⟨h1,j,v,h2,h3,h4,up h5,up h6⟩)
 ·exact .inr (.inr ⟨h1,j,m,v,w,h2,h3,h4,h5,up h6,up h7,up h8⟩)
theorem Kid.right {k i a:Nat} {vs us:List β} {x:S_a} (h:Kid d alg (k + a) i vs x) (ha:us.length = a):Kid d alg k (a + i) (us ++ vs) x:=by
 have up:∀ {j v},vs[j]? = some v → (us ++ vs)[a + j]? = some v:=fun {j v} hv=>by rw [List.getElem?_append_right (by omega),← hv]; congr 1; omega
 refine ⟨h.fits,?_⟩
 rcases h.at_ with ⟨h1,h2,h3,h4⟩ | ⟨h1,j,v,h2,h3,h4,h5,h6⟩ | ⟨h1,j,m,v,w,h2,h3,h4,h5,h6,h7,h8⟩
 ·exact .inl ⟨h1,h2,h3,up h4⟩
 ·exact .inr (.inl ⟨h1,a + j,v,by omega,by rw [h3]; congr 1; omega,h4,up h5,up h6⟩)
 ·exact .inr (.inr ⟨h1,a + j,a + m,v,w,by omega,by omega,by rw [h4]; congr 1; omega,by rw [h5]; congr 1; omega,up h6,up h7,up h8⟩)
theorem Tm.kid:∀ {t:Tm} {k i:Nat} {x:S_a},t.At k → t.flat[i]? = some x → Kid d alg k i (t.vals d alg) x
 | .leaf n,k,i,x,h,hx=>by
  have hi:=(List.getElem?_eq_some_iff.1 hx).1
  simp [Tm.flat] at hi
  subst hi
  simp [Tm.flat] at hx; subst hx
  exact ⟨h.1,.inl ⟨h.2.1,h.2.2.1,h.2.2.2,rfl⟩⟩
 | .one n t,k,i,x,h,hx=>by
  obtain ⟨h1,h2,h3,h4,h5⟩:=h
  by_cases hi:i < t.size
  ·rw [Tm.flat,List.getElem?_append_left (by rw [Tm.flat_len]; exact hi)] at hx
   exact (Tm.kid h1 hx).left
  ·have hlt:=(List.getElem?_eq_some_iff.1 hx).1
   simp [Tm.flat,Tm.flat_len] at hlt
   obtain rfl:i = t.size:=by omega
   rw [Tm.flat,List.getElem?_append_right (by rw [Tm.flat_len]; exact Nat.le_refl _)] at hx
   simp [Tm.flat_len] at hx; subst hx
   have hp:=t.pos
   refine ⟨h2,.inr (.inl ⟨h3,t.size - 1,t.val d alg,by omega,by omega,h5,?_,?_⟩)⟩
   ·rw [Tm.vals,List.getElem?_append_left (by rw [Tm.vals_len]; omega)]; exact t.vals_last d alg
   ·exact Tm.vals_last d alg (.one n t)
 | .two n a b,k,i,x,h,hx=>by
  obtain ⟨h1,h2,h3,h4,h5,h6⟩:=h
  have ha:=a.pos
  have hb:=b.pos
  by_cases hi:i < a.size
  ·rw [Tm.flat,List.append_assoc,List.getElem?_append_left (by rw [Tm.flat_len]; exact hi)] at hx
   have:=(Tm.kid h1 hx).left (us:=b.vals d alg ++ [alg n (a.val d alg) (b.val d alg)])
   rw [← List.append_assoc] at this
   exact this
  ·by_cases hi2:i < a.size + b.size
   ·rw [Tm.flat,List.getElem?_append_left (by simp [Tm.flat_len]; omega),List.getElem?_append_right (by rw [Tm.flat_len]; omega),Tm.flat_len] at hx
    have:=((Tm.kid h2 hx).right (a.vals_len d alg)).left (us:=[alg n (a.val d alg) (b.val d alg)])
    rw [show a.size + (i - a.size) = i by omega] at this
    exact this
   ·have hlt:=(List.getElem?_eq_some_iff.1 hx).1
    simp [Tm.flat,Tm.flat_len] at hlt
    obtain rfl:i = a.size + b.size:=by omega
    rw [Tm.flat,List.getElem?_append_right (by simp [Tm.flat_len])] at hx
    simp [Tm.flat_len] at hx; subst hx
    refine ⟨h3,.inr (.inr ⟨h4,a.size - 1,a.size + b.size - 1,a.val d alg,b.val d alg,by omega,by omega,by omega,by omega,?_,?_,?_⟩)⟩
    ·rw [Tm.vals,List.append_assoc,List.getElem?_append_left (by rw [Tm.vals_len]; omega)]; exact a.vals_last d alg
    ·rw [Tm.vals,List.getElem?_append_left (by simp [Tm.vals_len]; omega),List.getElem?_append_right (by rw [Tm.vals_len]; omega),Tm.vals_len,show a.size + b.size - 1 - a.size = b.size - 1 by omega]; exact b.vals_last d alg
    ·exact Tm.vals_last d alg (.two n a b)
end
def szA (_:S_a) (v w:Int):Int:=1 + v + w
abbrev Tm.szs (t:Tm):List Int:=t.vals 0 szA
theorem Tm.sz_val:∀ t:Tm,t.val 0 szA = (t.size:Int)
 | .leaf n=>rfl
 | .one n t=>by simp [Tm.val,szA,Tm.size,t.sz_val]; omega
 | .two n a b=>by simp [Tm.val,szA,Tm.size,a.sz_val,b.sz_val]; omega
def st1 (k:Nat) (st:List Tm) (x:S_a):Option (List Tm) :=
 match kd x.f_Kind,st with
 | 0,st=>if fitsB x = true ∧ x.f_A = 0 ∧ x.f_B = 0 then some (.leaf x :: st) else none
 | 1,t :: st=>if fitsB x = true ∧ x.f_A + 1 = (k:Int) ∧ x.f_B = 0 then some (.one x t :: st) else none
 | 2,b :: a :: st=>if fitsB x = true ∧ x.f_A + 1 + b.size = (k:Int) ∧ x.f_B + 1 = (k:Int) then some (.two x a b :: st) else none
 | _,_=>none
def sts (k:Nat) (st:List Tm):List S_a → Option (List Tm)
 | []=>some st
 | x :: xs=>(st1 k st x).bind fun st'=>sts (k + 1) st' xs
def ff:List Tm → List S_a
 | []=>[]
 | t :: st=>ff st ++ t.flat
def fs:List Tm → List Int
 | []=>[]
 | t :: st=>fs st ++ t.szs
def FAt:List Tm → Prop
 | []=>True
 | t :: st=>FAt st ∧ t.At (ff st).length
theorem fs_len:∀ st,(fs st).length = (ff st).length
 | []=>rfl
 | t :: st=>by simp [fs,ff,fs_len st,Tm.vals_len,Tm.flat_len]
theorem kd_le (k:Int):kd k = 0 ∨ kd k = 1 ∨ kd k = 2:=by
 unfold kd
 split
 ·simp
 ·split <;> simp
theorem st1_some {k:Nat} {st st':List Tm} {x:S_a} (h:st1 k st x = some st') (hf:FAt st) (hk:k = (ff st).length):FAt st' ∧ ff st' = ff st ++ [x]:=by
 unfold st1 at h
 split at h
 ·rename_i h0
  split at h
  ·rename_i hc
   injection h with h; subst h
   exact ⟨⟨hf,hc.1,h0,hc.2.1,hc.2.2⟩,rfl⟩
  ·cases h
 ·rename_i t st0 h1
  split at h
  ·rename_i hc
   injection h with h; subst h
   refine ⟨⟨hf.1,hf.2,hc.1,h1,?_,hc.2.2⟩,by simp [ff,Tm.flat]⟩
   rw [hc.2.1,hk]; simp [ff,Tm.flat_len]
  ·cases h
 ·rename_i b a st0 h1
  split at h
  ·rename_i hc
   injection h with h; subst h
   refine ⟨⟨hf.1.1,hf.1.2,?_,hc.1,h1,?_,?_⟩,by simp [ff,Tm.flat]⟩
   ·have:=hf.2; simpa [ff,Tm.flat_len] using this
   ·have:=hc.2.1; rw [hk] at this; simp [ff,Tm.flat_len] at this ⊢; omega
   ·have:=hc.2.2; rw [hk] at this; simp [ff,Tm.flat_len] at this ⊢; omega
  ·cases h
 ·cases h
theorem sts_tree:∀ {t:Tm} {k:Nat} {st:List Tm} {xs:List S_a},t.At k → sts k st (t.flat ++ xs) = sts (k + t.size) (t :: st) xs
 | .leaf n,k,st,xs,h=>by
  obtain ⟨h1,h2,h3,h4⟩:=h
  simp only [Tm.flat,List.singleton_append,sts,Tm.size,st1,h2]
  rw [if_pos ⟨h1,h3,h4⟩]; rfl
 | .one n t,k,st,xs,h=>by
  obtain ⟨h1,h2,h3,h4,h5⟩:=h
  simp only [Tm.flat,List.append_assoc,Tm.size]
  rw [sts_tree h1]
  simp only [List.singleton_append,sts,st1,h3]
  rw [if_pos ⟨h2,h4,h5⟩]; rfl
 | .two n a b,k,st,xs,h=>by
  obtain ⟨h1,h2,h3,h4,h5,h6⟩:=h
  simp only [Tm.flat,List.append_assoc,Tm.size]
  rw [sts_tree h1,sts_tree h2]
  simp only [List.singleton_append,sts,st1,h4]
  rw [if_pos ⟨h3,by rw [h5]; simp,h6⟩]
  simp only [Option.bind_some]
  congr 1; omega
theorem sts_some:∀ {xs:List S_a} {k:Nat} {st st':List Tm},sts k st xs = some st' → FAt st → k = (ff st).length → FAt st' ∧ ff st' = ff st ++ xs
 | [],k,st,st',h,hf,hk=>by simp [sts] at h; subst h; exact ⟨hf,by simp⟩
 | x :: xs,k,st,st',h,hf,hk=>by
  simp only [sts,Option.bind_eq_some_iff] at h
  obtain ⟨s1,h1,h2⟩:=h
  obtain ⟨f1,e1⟩:=st1_some h1 hf hk
  obtain ⟨f2,e2⟩:=sts_some h2 f1 (by rw [e1,hk]; simp)
  exact ⟨f2,by rw [e2,e1]; simp⟩
def tree (l:List S_a):Option Tm :=
 match sts 0 [] l with
 | some [t]=>some t
 | _=>none
theorem tree_some {l:List S_a} {t:Tm} (h:tree l = some t):l = t.flat ∧ t.At 0:=by
 unfold tree at h
 split at h
 ·rename_i t' ht
  injection h with h; subst h
  obtain ⟨h1,h2⟩:=sts_some ht trivial rfl
  exact ⟨by simpa [ff] using h2.symm,by simpa [ff] using h1.2⟩
 ·cases h
theorem tree_flat {t:Tm} (h:t.At 0):tree t.flat = some t:=by
 have:=sts_tree (st:=[]) (xs:=[]) h
 rw [List.append_nil] at this
 simp [tree,this,sts]
end Go.Proofs.YtaadjlpfdajggaaGreatDoor

set_option maxRecDepth 100000
set_option linter.unusedVariables false
set_option linter.unusedSimpArgs false
namespace Go.Proofs.YtaadjlpfdajggaaGreatDoor
open Go Go.AM
theorem ct {α:Type} {c:Bool} {a b:α} (h:c = true):(bif c then a else b) = a:=by rw [h]; rfl
theorem cfl {α:Type} {c:Bool} {a b:α} (h:c = false):(bif c then a else b) = b:=by rw [h]; rfl
theorem dt {p:Prop} [Decidable p] (h:p):decide p = true:=decide_eq_true h
theorem df {p:Prop} [Decidable p] (h:¬ p):decide p = false:=decide_eq_false h
theorem fs_last {t:Tm} {st:List Tm}:(fs (t :: st))[(ff (t :: st)).length - 1]? = some (t.size:Int):=by
 have:=t.pos
 simp only [fs,ff,List.length_append,Tm.flat_len]
 rw [List.getElem?_append_right (by rw [fs_len]; omega),fs_len,show (ff st).length + t.size - 1 - (ff st).length = t.size - 1 by omega,← t.sz_val]
 exact t.vals_last 0 szA
theorem fs_last2 {a b:Tm} {st:List Tm}:(fs (b :: a :: st))[(ff (b :: a :: st)).length - 1 - b.size]? = some (a.size:Int):=by
 have:=a.pos
 have h:(ff (b :: a :: st)).length - 1 - b.size = (ff (a :: st)).length - 1:=by simp [ff,Tm.flat_len]; omega
 rw [h,fs,List.getElem?_append_left (by rw [fs_len]; simp [ff,Tm.flat_len]; omega)]
 exact fs_last
def single:List Tm → Bool
 | [_]=>true
 | _=>false
theorem put_rep {l:List Int} {m:Nat} {v z:Int} {k:Nat} (hk:k = l.length):Sl.put (some (l ++ List.replicate (m + 1) z)) k v = some ((l ++ [v]) ++ List.replicate m z):=by
 subst hk
 simp only [Sl.put,Option.map_some,Option.some.injEq]
 rw [List.set_append_right _ _ (Nat.le_refl _),Nat.sub_self,List.replicate_succ,List.set_cons_zero,List.append_assoc]; rfl
theorem nth_app {l:List Int} {m:List Int} {j:Nat} {v:Int} (h:l[j]? = some v):Sl.nth (some (l ++ m)) j = v:=by
 simp only [Sl.nth,Sl.l,List.getD]
 rw [List.getElem?_append_left (List.getElem?_eq_some_iff.1 h).1,h]; rfl
theorem make_ok {α:Type} {z n m:Nat} {a:α} (h:n ≤ m) (hm:z * m ≤ 10000000) (hm':m ≤ 10000000):Sl.make z n m a = some (some (List.replicate n a)):=by
 have hr:(10000000:Nat) ≤ roomMost:=Nat.le_of_ble_eq_true rfl
 have hr':((z:Int) * m) ≤ ((10000000:Nat):Int):=by rw [← Int.natCast_mul]; exact Int.ofNat_le.2 hm
 unfold Sl.make
 rw [if_pos ⟨by omega,by omega,by omega,by omega⟩]
 simp
theorem app1 {α:Type} {l:List α} {x:α} {z:Nat} (h:(l.length + 1) * z ≤ 8000000):Sl.app z (some l) (some [x]) = some (some (l ++ [x])):=by
 have hr2:(8000000:Nat) ≤ roomMost:=Nat.le_of_ble_eq_true rfl
 unfold Sl.app
 rw [if_neg (by simp [Sl.l]),if_pos (by simp [Sl.l]; omega)]
 rfl
section
variable {n:Nat} {x0:Sl S_a}
theorem sizes_2 {q:Sl Int → Int → Int → Option (Sl Int × Bool)} {x:S_a} {l:List Int} {m k:Nat} {a b s N:Int} (hn:2 ≤ n) (hk:k = l.length) (hm:k < 1000) :
  b_bJ (m_bN n) (m_bt n) n q x0 (some (l ++ List.replicate (m + 1) 0)) (k:Int) x a b s N (k:Int) =
   if fitsB x = true ∧ x.f_A = a ∧ x.f_B = b then q (some ((l ++ [s]) ++ List.replicate m 0)) N ((k + 1:Nat):Int) else some (none,false):=by
 simp only [b_bJ,fits_ok x hn,Option.bind_some]
 by_cases h:fitsB x = true ∧ x.f_A = a ∧ x.f_B = b
 ·rw [if_pos h,cfl (by simp [h.1,h.2.1,h.2.2]),ck_ok (by simp [Sl.l]; omega),Option.bind_some,put_rep hk,wp1 (by omega)]
 ·rw [if_neg h,ct]
  simp only [Bool.or_eq_true,Bool.not_eq_true',decide_eq_false_iff_not]
  by_cases h1:fitsB x = true
  ·by_cases h2:x.f_A = a
   ·exact .inr fun h3=>h ⟨h1,h2,h3⟩
   ·exact .inl (.inr h2)
  ·exact .inl (.inl (by simpa using h1))
theorem sizes_loop (hn:2 ≤ n) (hN:(Sl.l x0).length ≤ 500):∀ (xs:List S_a) (fuel:Nat) (st:List Tm),Sl.l x0 = ff st ++ xs → xs.length < fuel →
  b_5 (m_bN n) (m_bt n) n x0 fuel (some (fs st ++ List.replicate xs.length 0)) (Sl.len x0) ((ff st).length:Int) =
   match sts (ff st).length st xs with
   | none=>some (none,false)
   | some st'=>some (some (fs st'),single st'):=by
 intro xs
 induction xs with
 | nil =>
  intro fuel st hl hf
  obtain ⟨fuel,rfl⟩:∃ m,fuel = m + 1:=⟨fuel - 1,by simp at hf; omega⟩
  have hlen:Sl.len x0 = ((ff st).length:Int):=by simp [Sl.len,hl]
  rw [b_5,hlen,cfl (df (by omega))]
  simp only [sts,List.length_nil,List.replicate_zero,List.append_nil]
  have hb:(ff st).length ≤ 500:=by rw [hl] at hN; simpa using hN
  rw [w64 (by omega) (by omega)]
  cases st with
  | nil=>rfl
  | cons t st =>
   have hp:0 < (ff (t :: st)).length:=by have:=t.pos; simp [ff,Tm.flat_len]; omega
   rw [ct (dt (by omega)),ck_int (by omega) (by simp [Sl.l,fs_len]; omega),Option.bind_some,Option.bind_some]
   have hj:(((ff (t :: st)).length:Int) - 1).toNat = (ff (t :: st)).length - 1:=by omega
   rw [hj,nth_l (v:=(t.size:Int)) fs_last]
   congr 2
   cases st with
   | nil=>simp [single,ff,Tm.flat_len]
   | cons u st=>have:=u.pos; simp [single,ff,Tm.flat_len]; omega
 | cons x xs ih =>
  intro fuel st hl hf
  obtain ⟨fuel,rfl⟩:∃ m,fuel = m + 1:=⟨fuel - 1,by simp at hf; omega⟩
  have hlen:Sl.len x0 = (((ff st).length + xs.length + 1:Nat):Int):=by simp [Sl.len,hl]; omega
  have hb:(ff st).length + xs.length + 1 ≤ 500:=by rw [hl] at hN; simp at hN; omega
  have hx:Sl.nth x0 (ff st).length = x:=nth_l (by rw [hl,List.getElem?_append_right (Nat.le_refl _)]; simp)
  rw [b_5,ct (dt (by rw [hlen]; omega)),ck_ok (by rw [hl]; simp),Option.bind_some,hx,kids_ok _ (by omega),Option.bind_some]
  simp only [sts,List.length_cons]
  have hkl:(ff st).length = (fs st).length:=(fs_len st).symm
  rcases kd_le x.f_Kind with h0 | h1 | h2
  ·rw [h0,cfl (df (by omega)),cfl (df (by omega)),sizes_2 hn hkl (by omega)]
   unfold st1
   simp only [h0]
   by_cases hc:fitsB x = true ∧ x.f_A = 0 ∧ x.f_B = 0
   ·rw [if_pos hc,if_pos hc,Option.bind_some]
    have:=ih fuel (.leaf x :: st) (by rw [hl]; simp [ff,Tm.flat]) (by simp at hf; omega)
    simpa [fs,ff,Tm.flat,Tm.vals,szA] using this
   ·rw [if_neg hc,if_neg hc]; rfl
  ·rw [h1,ct (dt (by omega)),w64 (by omega) (by omega)]
   cases st with
   | nil=>rw [ct (dt (by simp [ff]))]; unfold st1; simp only [h1]; rfl
   | cons t st =>
    have hp:0 < (ff (t :: st)).length:=by have:=t.pos; simp [ff,Tm.flat_len]; omega
    have hts:t.size ≤ 500:=by
     have:t.size ≤ (ff (t :: st)).length:=by simp [ff,Tm.flat_len]
     omega
    have hj:(((ff (t :: st)).length:Int) - 1).toNat = (ff (t :: st)).length - 1:=by omega
    rw [cfl (df (by omega)),ck_int (by omega) (by simp [Sl.l,fs_len]; omega),Option.bind_some,hj,nth_app fs_last,w64 (by omega) (by omega),sizes_2 hn hkl (by omega)]
    unfold st1
    simp only [h1]
    by_cases hc:fitsB x = true ∧ x.f_A = ((ff (t :: st)).length:Int) - 1 ∧ x.f_B = 0
    ·rw [if_pos hc,if_pos ⟨hc.1,by omega,hc.2.2⟩,Option.bind_some]
     have:=ih fuel (.one x t :: st) (by rw [hl]; simp [ff,Tm.flat]) (by simp at hf; omega)
     simpa [fs,ff,Tm.flat,Tm.vals,szA,Tm.sz_val,Nat.add_assoc] using this
    ·rw [if_neg hc,if_neg fun hc'=>hc ⟨hc'.1,by omega,hc'.2.2⟩]; rfl
  ·rw [h2,cfl (df (by omega)),ct (dt (by omega)),w64 (by omega) (by omega)]
   cases st with
   | nil=>rw [ct (dt (by simp [ff]))]; unfold st1; simp only [h2]; rfl
   | cons b st =>
    have hp:0 < (ff (b :: st)).length:=by have:=b.pos; simp [ff,Tm.flat_len]; omega
    have hts:b.size ≤ (ff (b :: st)).length:=by simp [ff,Tm.flat_len]
    have hj:(((ff (b :: st)).length:Int) - 1).toNat = (ff (b :: st)).length - 1:=by omega
    have e:Sl.nth (some (fs (b :: st) ++ List.replicate (xs.length + 1) 0)) ((ff (b :: st)).length - 1) = (b.size:Int):=nth_app fs_last
    rw [cfl (df (by omega)),ck_int (by omega) (by simp [Sl.l,fs_len]; omega),Option.bind_some,hj]
    simp only [e]
    rw [w64 (by omega) (by omega)]
    cases st with
    | nil=>rw [ct (dt (by simp [ff,Tm.flat_len]; omega))]; unfold st1; simp only [h2]; rfl
    | cons a st =>
     have ha:=a.pos
     have has:a.size + b.size ≤ (ff (b :: a :: st)).length:=by simp only [ff,Tm.flat_len,List.length_append]; omega
     have hj2:(((ff (b :: a :: st)).length:Int) - 1 - (b.size:Int)).toNat = (ff (b :: a :: st)).length - 1 - b.size:=by omega
     rw [cfl (df (by omega)),ck_int (by omega) (by simp [Sl.l,fs_len]; omega),Option.bind_some,hj2,nth_app fs_last2,w64 (n:=(a.size:Int) + b.size) (by omega) (by omega),w64 (by omega) (by omega),sizes_2 hn hkl (by omega)]
     unfold st1
     simp only [h2]
     by_cases hc:fitsB x = true ∧ x.f_A = ((ff (b :: a :: st)).length:Int) - 1 - b.size ∧ x.f_B = ((ff (b :: a :: st)).length:Int) - 1
     ·rw [if_pos hc,if_pos ⟨hc.1,by omega,by omega⟩,Option.bind_some]
      have:=ih fuel (.two x a b :: st) (by rw [hl]; simp [ff,Tm.flat]) (by simp at hf; omega)
      simpa [fs,ff,Tm.flat,Tm.vals,szA,Tm.sz_val,Nat.add_assoc,Int.add_assoc] using this
     ·rw [if_neg hc,if_neg fun hc'=>hc ⟨hc'.1,by omega,by omega⟩]; rfl
theorem sizes_ok (hn:600 ≤ n) (hN:(Sl.l x0).length ≤ 500):m_bl n x0 = match sts 0 [] (Sl.l x0) with
   | none=>some (none,false)
   | some st'=>some (some (fs st'),single st'):=by
 obtain ⟨n,rfl⟩:∃ m,n = m + 1:=⟨n - 1,by omega⟩
 simp only [m_bl,b_dY,Sl.len]
 rw [make_ok (Nat.le_refl _) (by omega) (by omega),Option.bind_some]
 have:=sizes_loop (n:=n) (x0:=x0) (by omega) hN (Sl.l x0) n [] rfl (by omega)
 simpa [fs,ff,Sl.len] using this
theorem sizes_tree (hn:600 ≤ n) (hN:(Sl.l x0).length ≤ 500) {t:Tm} (ht:tree (Sl.l x0) = some t):m_bl n x0 = some (some t.szs,true):=by
 rw [sizes_ok hn hN]
 unfold tree at ht
 split at ht
 ·rename_i t' h'
  injection ht with ht; subst ht
  rw [h']; simp [fs,single]
 ·cases ht
theorem sizes_none (hn:600 ≤ n) (hN:(Sl.l x0).length ≤ 500) (ht:tree (Sl.l x0) = none):∃ y,m_bl n x0 = some (y,false):=by
 rw [sizes_ok hn hN]
 unfold tree at ht
 cases h:sts 0 [] (Sl.l x0) with
 | none=>exact ⟨_,rfl⟩
 | some st =>
  rw [h] at ht
  refine ⟨some (fs st),?_⟩
  match st,ht with
  | [],_=>rfl
  | [t],ht=>simp at ht
  | a :: b :: st,_=>rfl
end
end Go.Proofs.YtaadjlpfdajggaaGreatDoor

set_option maxRecDepth 100000
set_option linter.unusedVariables false
set_option linter.unusedSimpArgs false
namespace Go.Proofs.YtaadjlpfdajggaaGreatDoor
open Go Go.AM
def depA (x:S_a) (v w:Int):Int:=if kd x.f_Kind = 0 then 1 else if kd x.f_Kind = 1 then 1 + v else 1 + max v w
abbrev Tm.dep (t:Tm):Int:=t.val 0 depA
theorem dep_leaf {n:S_a} {k:Nat} (h:(Tm.leaf n).At k):(Tm.leaf n).dep = 1:=by simp [Tm.dep,Tm.val,depA,h.2.1]
theorem dep_one {n:S_a} {t:Tm} {k:Nat} (h:(Tm.one n t).At k):(Tm.one n t).dep = 1 + t.dep:=by simp [Tm.dep,Tm.val,depA,h.2.2.1]
theorem dep_two {n:S_a} {a b:Tm} {k:Nat} (h:(Tm.two n a b).At k):(Tm.two n a b).dep = 1 + max a.dep b.dep:=by simp [Tm.dep,Tm.val,depA,h.2.2.2.1]
theorem dep_rng:∀ {t:Tm} {k:Nat},t.At k → 1 ≤ t.dep ∧ t.dep ≤ t.size ∧ ∀ v ∈ t.vals 0 depA,1 ≤ v ∧ v ≤ t.dep
 | .leaf n,k,h=>by
  rw [dep_leaf h]
  refine ⟨by omega,by simp [Tm.size],fun v hv=>?_⟩
  simp [Tm.vals,depA,h.2.1] at hv; omega
 | .one n t,k,h=>by
  obtain ⟨h1,h2,h3⟩:=dep_rng h.1
  rw [dep_one h]
  refine ⟨by omega,by simp [Tm.size]; omega,fun v hv=>?_⟩
  simp only [Tm.vals,List.mem_append,List.mem_singleton] at hv
  rcases hv with hv | rfl
  ·have:=h3 v hv; omega
  ·have e:=dep_one h
   simp only [Tm.dep,Tm.val] at e ⊢
   rw [e]; simp only [Tm.dep] at h1; omega
 | .two n a b,k,h=>by
  obtain ⟨h1,h2,h3⟩:=dep_rng h.1
  obtain ⟨g1,g2,g3⟩:=dep_rng h.2.1
  rw [dep_two h]
  refine ⟨by omega,by simp [Tm.size]; omega,fun v hv=>?_⟩
  simp only [Tm.vals,List.mem_append,List.mem_singleton] at hv
  rcases hv with (hv | hv) | rfl
  ·have:=h3 v hv; omega
  ·have:=g3 v hv; omega
  ·have e:=dep_two h
   simp only [Tm.dep,Tm.val] at e ⊢
   rw [e]; simp only [Tm.dep] at h1 g1; omega
section
variable {n:Nat} {x0:Sl S_a} {t:Tm}
theorem depths_loop (hn:2 ≤ n) (hN:(Sl.l x0).length ≤ 500) (hl:Sl.l x0 = t.flat) (ht:t.At 0):∀ (d fuel i:Nat),i + d = t.size → d < fuel →
  b_Z (m_bN n) n x0 fuel (pf (t.vals 0 depA) 0 i) (Sl.len x0) (i:Int) = some (some (t.vals 0 depA)):=by
 have hlen:Sl.len x0 = (t.size:Int):=by simp [Sl.len,hl,Tm.flat_len]
 have hs:t.size ≤ 500:=by rw [hl,Tm.flat_len] at hN; exact hN
 have hvl:(t.vals 0 depA).length = t.size:=t.vals_len _ _
 obtain ⟨_,hd2,hd3⟩:=dep_rng ht
 have rng:∀ {j:Nat} {v:Int},(t.vals 0 depA)[j]? = some v → 1 ≤ v ∧ v ≤ 500:=fun {j v} hv=>by have:=hd3 v (List.mem_iff_getElem?.2 ⟨_,hv⟩); omega
 intro d
 induction d with
 | zero =>
  intro fuel i hi hf
  obtain ⟨fuel,rfl⟩:∃ m,fuel = m + 1:=⟨fuel - 1,by omega⟩
  obtain rfl:i = t.size:=by omega
  rw [b_Z,cfl (df (by omega)),← hvl,pf_end]
 | succ d ih =>
  intro fuel i hi hf
  obtain ⟨fuel,rfl⟩:∃ m,fuel = m + 1:=⟨fuel - 1,by omega⟩
  have hif:i < t.flat.length:=by rw [Tm.flat_len]; omega
  have hx:=List.getElem?_eq_getElem hif
  have hx0:Sl.nth x0 i = t.flat[i]:=nth_l (by rw [hl]; exact hx)
  have K:=Tm.kid (d:=(0:Int)) (alg:=depA) ht hx
  rw [b_Z,ct (dt (by omega)),ck_ok (by rw [hl]; exact hif),Option.bind_some,hx0,kids_ok _ (by omega),Option.bind_some]
  have hck:∀ {j:Nat} {v:Int},(t.vals 0 depA)[j]? = some v → ck (Sl.l (pf (t.vals 0 depA) 0 i)).length ((0 + j:Nat):Int) = some j:=fun {j v} hv=>by
   rw [pf_len (by omega),Nat.zero_add]; exact ck_ok (List.getElem?_eq_some_iff.1 hv).1
  have hci:ck (Sl.l (pf (t.vals 0 depA) 0 i)).length (i:Int) = some i:=by rw [pf_len (by omega)]; exact ck_ok (by omega)
  generalize t.flat[i] = x at *
  rcases K.at_ with ⟨h1,h2,h3,h4⟩ | ⟨h1,j,v,h2,h3,h4,h5,h6⟩ | ⟨h1,j,m,v,w,h2,h3,h4,h5,h6,h7,h8⟩
  ·rw [h1,ct (dt (by omega)),hci,Option.bind_some,b_bi,wp1 (by omega)]
   have e:depA x 0 0 = 1:=by simp [depA,h1]
   rw [e] at h4
   rw [pf_put h4]
   exact ih fuel (i + 1) (by omega) (by omega)
  ·have r5:=rng h5
   rw [h1,cfl (df (by omega)),ct (dt (by omega)),h3,hck h5,Option.bind_some,hci,Option.bind_some,b_bi,wp1 (by omega),pf_nth h2 h5,w64 (by omega) (by omega)]
   have e:depA x v 0 = 1 + v:=by simp [depA,h1]
   rw [e] at h6
   rw [pf_put h6]
   exact ih fuel (i + 1) (by omega) (by omega)
  ·have r5:=rng h6
   have r6:=rng h7
   rw [h1,cfl (df (by omega)),cfl (df (by omega)),h4,hck h6,Option.bind_some,h5,hck h7,Option.bind_some,hci,Option.bind_some,b_bi,wp1 (by omega),pf_nth h2 h6,pf_nth h3 h7,w64 (by omega) (by omega)]
   have e:depA x v w = 1 + max v w:=by simp [depA,h1]
   rw [e] at h8
   rw [pf_put h8]
   exact ih fuel (i + 1) (by omega) (by omega)
theorem depths_ok (hn:600 ≤ n) (hN:(Sl.l x0).length ≤ 500) (ht:tree (Sl.l x0) = some t):m_cV n x0 = some (some (t.vals 0 depA)):=by
 obtain ⟨n,rfl⟩:∃ m,n = m + 1:=⟨n - 1,by omega⟩
 obtain ⟨hl,hA⟩:=tree_some ht
 have hs:t.size ≤ 500:=by rw [hl,Tm.flat_len] at hN; exact hN
 simp only [m_cV,b_ds]
 have:=depths_loop (n:=n) (by omega) hN hl hA t.size n 0 (by omega) (by omega)
 rw [show Sl.len x0 = ((t.size:Nat):Int) by simp [Sl.len,hl,Tm.flat_len]] at this ⊢
 rw [make_ok (Nat.le_refl _) (by omega) (by omega),Option.bind_some]
 rw [pf_0,Tm.vals_len] at this
 exact this
theorem max_loop {vs:List Int} {M:Int} (hM:∀ v ∈ vs,v ≤ M) (hl:vs.length ≤ 1000):∀ (d fuel i:Nat) (m:Int),i + d = vs.length → d < fuel → m ≤ M → (m = M ∨ M ∈ vs.drop i) →
  b_O n (some vs) fuel m (i:Int) = some M:=by
 intro d
 induction d with
 | zero =>
  intro fuel i m hi hf hm hor
  obtain ⟨fuel,rfl⟩:∃ m,fuel = m + 1:=⟨fuel - 1,by omega⟩
  rw [b_O,cfl (df (by simp [Sl.len,Sl.l]; omega))]
  rcases hor with rfl | h
  ·rfl
  ·rw [List.drop_eq_nil_of_le (by omega)] at h; cases h
 | succ d ih =>
  intro fuel i m hi hf hm hor
  obtain ⟨fuel,rfl⟩:∃ m,fuel = m + 1:=⟨fuel - 1,by omega⟩
  have hil:i < vs.length:=by omega
  rw [b_O,ct (dt (by simp [Sl.len,Sl.l]; omega)),ck_ok (by simpa [Sl.l] using hil),Option.bind_some,wp1 (by omega),nth_l (v:=vs[i]) (by simp [Sl.l])]
  have hv:=hM _ (List.getElem_mem hil)
  refine ih fuel (i + 1) _ (by omega) (by omega) (by omega) ?_
  rw [List.drop_eq_getElem_cons hil] at hor
  rcases hor with rfl | h
  ·exact .inl (by omega)
  ·rcases List.mem_cons.1 h with h | h
   ·exact .inl (by omega)
   ·exact .inr h
theorem max_ok {vs:List Int} {M:Int} (hn:1100 ≤ n) (hM:∀ v ∈ vs,v ≤ M) (hm:M ∈ vs) (hl:vs.length ≤ 1000):m_br n (some vs) = some M:=by
 obtain ⟨n,rfl⟩:∃ m,n = m + 1:=⟨n - 1,by omega⟩
 have hp:0 < vs.length:=List.length_pos_of_mem hm
 simp only [m_br,b_bL,b_bA]
 rw [cfl (df (by simp [Sl.len,Sl.l]; omega)),ck_int (by omega) (by simp [Sl.l]; omega),Option.bind_some]
 have hv:=hM _ (List.getElem_mem hp)
 rw [show ((0:Int)).toNat = 0 from rfl,nth_l (v:=vs[0]) (by simp [Sl.l])]
 refine max_loop hM hl (vs.length - 1) n 1 _ (by omega) (by omega) hv ?_
 obtain ⟨i,hi⟩:=List.mem_iff_getElem?.1 hm
 cases i with
 | zero=>rw [List.getElem?_eq_getElem hp] at hi; injection hi with hi; exact .inl hi
 | succ i=>exact .inr (List.mem_iff_getElem?.2 ⟨i,by rw [List.getElem?_drop,Nat.add_comm]; exact hi⟩)
def formedR (l:List S_a):Int:=if 500 < l.length then 4 else match tree l with | none=>3 | some t=>if 40 < t.dep then 4 else 0
theorem formed_ok (hn:1200 ≤ n):m_cn n x0 = some (formedR (Sl.l x0)):=by
 obtain ⟨n,rfl⟩:∃ m,n = m + 1:=⟨n - 1,by omega⟩
 simp only [m_cn,b_dz,formedR]
 by_cases h:500 < (Sl.l x0).length
 ·rw [ct (dt (by simp only [Sl.len]; omega)),if_pos h]
 ·rw [cfl (df (by simp only [Sl.len]; omega)),if_neg h]
  cases ht:tree (Sl.l x0) with
  | none =>
   obtain ⟨y,hy⟩:=sizes_none (n:=n) (by omega) (by omega) ht
   rw [hy]; rfl
  | some t =>
   rw [sizes_tree (by omega) (by omega) ht,Option.bind_some]
   obtain ⟨hl,hA⟩:=tree_some ht
   have hs:t.size ≤ 500:=by rw [hl,Tm.flat_len] at h; omega
   obtain ⟨h1,h2,h3⟩:=dep_rng hA
   rw [depths_ok (by omega) (by omega) ht]
   simp only [Bool.not_true,cond_false,Option.bind_some]
   rw [max_ok (M:=t.dep) (by omega) (fun v hv=>(h3 v hv).2) (List.mem_iff_getElem?.2 ⟨_,t.vals_last 0 depA⟩) (by rw [Tm.vals_len]; omega),Option.bind_some]
   by_cases h4:40 < t.dep
   ·rw [ct (dt h4)]; simp [h4]
   ·rw [cfl (df h4)]; simp [h4]
def deepR (l:List S_a):Int:=if 500 < l.length then 0 else match tree l with | none=>0 | some t=>t.dep
end
def plusI (a b:Int):Int:=if a = -1 ∨ b = -1 then -1 else min (IntKind.i64.wrap (a + b)) 1048576
def timesI (a k:Int):Int:=if a = 0 ∨ k = 0 then 0 else if a = -1 ∨ k = -1 then -1 else min (IntKind.i64.wrap (a * k)) 1048576
theorem plus_ok {n:Nat} (a b:Int) (h:1 ≤ n):m_ca n a b = some (plusI a b):=by
 obtain ⟨n,rfl⟩:∃ m,n = m + 1:=⟨n - 1,by omega⟩
 simp only [m_ca,b_ej,plusI]
 by_cases h1:a = -1 <;> by_cases h2:b = -1 <;> simp [h1,h2]
theorem times_ok {n:Nat} (a b:Int) (h:1 ≤ n):m_bT n a b = some (timesI a b):=by
 obtain ⟨n,rfl⟩:∃ m,n = m + 1:=⟨n - 1,by omega⟩
 simp only [m_bT,b_dR,timesI]
 by_cases h1:a = 0
 ·simp [h1]
 by_cases h2:b = 0
 ·simp [h2]
 by_cases h3:a = -1 <;> by_cases h4:b = -1 <;> simp [h1,h2,h3,h4]
def lenA (x:S_a) (v w:Int × Int):Int × Int :=
 if x.f_Kind = 1 then (1,1) else if x.f_Kind = 12 then (0,-1) else if x.f_Kind = 8 then (plusI v.1 w.1,plusI v.2 w.2)
 else if x.f_Kind = 9 then (min v.1 w.1,if min v.2 w.2 = -1 then -1 else max v.2 w.2)
 else if x.f_Kind = 10 then (timesI v.1 x.f_Min,timesI v.2 x.f_Max) else if x.f_Kind = 11 ∨ x.f_Kind = 17 then v else (0,0)
abbrev Tm.lens (t:Tm):List (Int × Int):=t.vals (0,0) lenA
theorem lens_loop {n:Nat} {x0:Sl S_a} {t:Tm} (hn:2 ≤ n) (hN:(Sl.l x0).length ≤ 500) (hl:Sl.l x0 = t.flat) (ht:t.At 0):∀ (d fuel i:Nat),i + d = t.size → d < fuel →
  b_C (m_ca n) (m_bT n) n x0 fuel (pf (t.lens.map Prod.fst) 0 i) (pf (t.lens.map Prod.snd) 0 i) (Sl.len x0) (i:Int) = some (some (t.lens.map Prod.fst),some (t.lens.map Prod.snd)):=by
 have hlen:Sl.len x0 = (t.size:Int):=by simp [Sl.len,hl,Tm.flat_len]
 have hs:t.size ≤ 500:=by rw [hl,Tm.flat_len] at hN; exact hN
 have hvl:(t.lens.map Prod.fst).length = t.size:=by simp [Tm.vals_len]
 have hvl2:(t.lens.map Prod.snd).length = t.size:=by simp [Tm.vals_len]
 intro d
 induction d with
 | zero =>
  intro fuel i hi hf
  obtain ⟨fuel,rfl⟩:∃ m,fuel = m + 1:=⟨fuel - 1,by omega⟩
  obtain rfl:i = t.size:=by omega
  rw [b_C,cfl (df (by omega))]
  conv=>lhs; rw [← hvl]
  rw [pf_end,hvl,← hvl2,pf_end]
 | succ d ih =>
  intro fuel i hi hf
  obtain ⟨fuel,rfl⟩:∃ m,fuel = m + 1:=⟨fuel - 1,by omega⟩
  have hif:i < t.flat.length:=by rw [Tm.flat_len]; omega
  have hx:=List.getElem?_eq_getElem hif
  have hx0:Sl.nth x0 i = t.flat[i]:=nth_l (by rw [hl]; exact hx)
  have K:=Tm.kid (d:=((0:Int),(0:Int))) (alg:=lenA) ht hx
  rw [b_C,ct (dt (by omega)),ck_ok (by rw [hl]; exact hif),Option.bind_some,hx0]
  have f1:∀ {j:Nat} {v:Int × Int},t.lens[j]? = some v → (t.lens.map Prod.fst)[j]? = some v.1:=fun {j v} hv=>by rw [List.getElem?_map,hv]; rfl
  have f2:∀ {j:Nat} {v:Int × Int},t.lens[j]? = some v → (t.lens.map Prod.snd)[j]? = some v.2:=fun {j v} hv=>by rw [List.getElem?_map,hv]; rfl
  have hck1:∀ {j:Nat} {v:Int × Int},t.lens[j]? = some v → ck (Sl.l (pf (t.lens.map Prod.fst) 0 i)).length ((0 + j:Nat):Int) = some j:=fun {j v} hv=>by
   rw [pf_len (by omega),Nat.zero_add]; exact ck_ok (List.getElem?_eq_some_iff.1 (f1 hv)).1
  have hck2:∀ {j:Nat} {v:Int × Int},t.lens[j]? = some v → ck (Sl.l (pf (t.lens.map Prod.snd) 0 i)).length ((0 + j:Nat):Int) = some j:=fun {j v} hv=>by
   rw [pf_len (by omega),Nat.zero_add]; exact ck_ok (List.getElem?_eq_some_iff.1 (f2 hv)).1
  have hci1:ck (Sl.l (pf (t.lens.map Prod.fst) 0 i)).length (i:Int) = some i:=by rw [pf_len (by omega)]; exact ck_ok (by omega)
  have hci2:ck (Sl.l (pf (t.lens.map Prod.snd) 0 i)).length (i:Int) = some i:=by rw [pf_len (by omega)]; exact ck_ok (by omega)
  have go:=ih fuel (i + 1) (by omega) (by omega)
  generalize t.flat[i] = x at *
  by_cases k1:x.f_Kind = 1
  ·rw [ct (dt k1),hci1,Option.bind_some,hci2,Option.bind_some,b_A,wp1 (by omega)]
   have hv:t.lens[i]? = some (1,1):=by
    rcases K.at_ with ⟨h1,h2,h3,h4⟩ | ⟨h1,j,v,h2,h3,h4,h5,h6⟩ | ⟨h1,j,m,v,w,h2,h3,h4,h5,h6,h7,h8⟩
    ·rw [h4]; simp [lenA,k1]
    ·rw [h6]; simp [lenA,k1]
    ·rw [h8]; simp [lenA,k1]
   rw [pf_put (f1 hv),pf_put (f2 hv)]; exact go
  rw [cfl (df k1)]
  by_cases k2:x.f_Kind = 12
  ·rw [ct (dt k2),hci2,Option.bind_some,b_A,wp1 (by omega)]
   have hv:t.lens[i]? = some (0,-1):=by
    rcases K.at_ with ⟨h1,h2,h3,h4⟩ | ⟨h1,j,v,h2,h3,h4,h5,h6⟩ | ⟨h1,j,m,v,w,h2,h3,h4,h5,h6,h7,h8⟩
    ·rw [h4]; simp [lenA,k2]
    ·rw [h6]; simp [lenA,k2]
    ·rw [h8]; simp [lenA,k2]
   rw [pf_skip (f1 hv),pf_put (f2 hv)]; exact go
  rw [cfl (df k2)]
  by_cases k3:x.f_Kind = 8
  ·rcases K.at_ with ⟨h1,_⟩ | ⟨h1,_⟩ | ⟨h1,j,m,v,w,h2,h3,h4,h5,h6,h7,h8⟩
   ·simp [kd,k3] at h1
   ·simp [kd,k3] at h1
   have hv:t.lens[i]? = some (plusI v.1 w.1,plusI v.2 w.2):=by rw [h8]; simp [lenA,k3]
   rw [ct (dt k3),h4,hck1 h6,Option.bind_some,h5,hck1 h7,Option.bind_some,plus_ok _ _ (by omega),Option.bind_some,hck2 h6,Option.bind_some,hck2 h7,Option.bind_some,plus_ok _ _ (by omega),Option.bind_some,hci1,Option.bind_some,hci2,Option.bind_some,
    b_A,wp1 (by omega),pf_nth h2 (f1 h6),pf_nth h3 (f1 h7),pf_nth h2 (f2 h6),pf_nth h3 (f2 h7),pf_put (f1 hv),pf_put (f2 hv)]
   exact go
  rw [cfl (df k3)]
  by_cases k4:x.f_Kind = 9
  ·rcases K.at_ with ⟨h1,_⟩ | ⟨h1,_⟩ | ⟨h1,j,m,v,w,h2,h3,h4,h5,h6,h7,h8⟩
   ·simp [kd,k4] at h1
   ·simp [kd,k4] at h1
   have hv:t.lens[i]? = some (min v.1 w.1,if min v.2 w.2 = -1 then -1 else max v.2 w.2):=by rw [h8]; simp [lenA,k4]
   rw [ct (dt k4),h4,hck1 h6,Option.bind_some,h5,hck1 h7,Option.bind_some,hck2 h6,Option.bind_some,hck2 h7,Option.bind_some,hci1,Option.bind_some,hci2,Option.bind_some]
   have n1:Sl.nth (pf (t.lens.map Prod.fst) 0 i) j = v.1:=pf_nth h2 (f1 h6)
   have n2:Sl.nth (pf (t.lens.map Prod.fst) 0 i) m = w.1:=pf_nth h3 (f1 h7)
   have n3:Sl.nth (pf (t.lens.map Prod.snd) 0 i) j = v.2:=pf_nth h2 (f2 h6)
   have n4:Sl.nth (pf (t.lens.map Prod.snd) 0 i) m = w.2:=pf_nth h3 (f2 h7)
   have e3:∀ z,Sl.nth (Sl.put (pf (t.lens.map Prod.snd) 0 i) i z) j = v.2:=fun z=>(nth_put_ne (by omega)).trans n3
   have e4:∀ z,Sl.nth (Sl.put (pf (t.lens.map Prod.snd) 0 i) i z) m = w.2:=fun z=>(nth_put_ne (by omega)).trans n4
   simp only [e3,e4,n1,n2,n3,n4,put_put,b_A,wp1 (show i < 1000000 by omega)]
   by_cases hm:min v.2 w.2 = -1
   ·rw [if_pos hm] at hv
    rw [ct (dt hm),pf_put (f1 hv),pf_put (f2 hv)]; exact go
   ·rw [if_neg hm] at hv
    rw [cfl (df hm),pf_put (f1 hv),pf_put (f2 hv)]; exact go
  rw [cfl (df k4)]
  by_cases k5:x.f_Kind = 10
  ·rcases K.at_ with ⟨h1,_⟩ | ⟨h1,j,v,h2,h3,h4,h5,h6⟩ | ⟨h1,_⟩
   ·simp [kd,k5] at h1
   case inr.inr=>simp [kd,k5] at h1
   have hv:t.lens[i]? = some (timesI v.1 x.f_Min,timesI v.2 x.f_Max):=by rw [h6]; simp [lenA,k5]
   rw [ct (dt k5),h3,hck1 h5,Option.bind_some,times_ok _ _ (by omega),Option.bind_some,hck2 h5,Option.bind_some,times_ok _ _ (by omega),Option.bind_some,hci1,Option.bind_some,hci2,Option.bind_some,
    b_A,wp1 (by omega),pf_nth h2 (f1 h5),pf_nth h2 (f2 h5),pf_put (f1 hv),pf_put (f2 hv)]
   exact go
  rw [cfl (df k5)]
  by_cases k6:x.f_Kind = 11 ∨ x.f_Kind = 17
  ·rcases K.at_ with ⟨h1,_⟩ | ⟨h1,j,v,h2,h3,h4,h5,h6⟩ | ⟨h1,_⟩
   ·rcases k6 with k6 | k6 <;> simp [kd,k6] at h1
   case inr.inr=>rcases k6 with k6 | k6 <;> simp [kd,k6] at h1
   have hv:t.lens[i]? = some v:=by rw [h6]; rcases k6 with k6 | k6 <;> simp [lenA,k6]
   have fin:b_bX (m_ca n) (m_bT n) n (b_C (m_ca n) (m_bT n) n x0 fuel) x0 (pf (t.lens.map Prod.fst) 0 i) (pf (t.lens.map Prod.snd) 0 i) i x (Sl.len x0) i true = some (some (t.lens.map Prod.fst),some (t.lens.map Prod.snd)):=by
    rw [b_bX,cond_true,h3,hck1 h5,Option.bind_some,hck2 h5,Option.bind_some,hci1,Option.bind_some,hci2,Option.bind_some,b_A,wp1 (by omega),pf_nth h2 (f1 h5),pf_nth h2 (f2 h5),pf_put (f1 hv),pf_put (f2 hv)]
    exact go
   by_cases k7:x.f_Kind = 11
   ·rw [ct (dt k7),dt k7]; exact fin
   ·rw [cfl (df k7),dt (k6.resolve_left k7)]; exact fin
  rw [cfl (df fun h=>k6 (.inl h)),df fun h=>k6 (.inr h),b_bX,cond_false,b_A,wp1 (by omega)]
  have hv:t.lens[i]? = some (0,0):=by
   have e:∀ v w,lenA x v w = (0,0):=fun v w=>by simp only [lenA,if_neg k1,if_neg k2,if_neg k3,if_neg k4,if_neg k5,if_neg k6]
   rcases K.at_ with ⟨h1,h2,h3,h4⟩ | ⟨h1,j,v,h2,h3,h4,h5,h6⟩ | ⟨h1,j,m,v,w,h2,h3,h4,h5,h6,h7,h8⟩
   ·rw [h4,e]
   ·rw [h6,e]
   ·rw [h8,e]
  rw [pf_skip (f1 hv),pf_skip (f2 hv)]; exact go
theorem lens_ok {n:Nat} {x0:Sl S_a} {t:Tm} (hn:600 ≤ n) (hN:(Sl.l x0).length ≤ 500) (ht:tree (Sl.l x0) = some t):m_c0 n x0 = some (some (t.lens.map Prod.fst),some (t.lens.map Prod.snd)):=by
 obtain ⟨n,rfl⟩:∃ m,n = m + 1:=⟨n - 1,by omega⟩
 obtain ⟨hl,hA⟩:=tree_some ht
 have hs:t.size ≤ 500:=by rw [hl,Tm.flat_len] at hN; exact hN
 simp only [m_c0,b_ek]
 have:=lens_loop (n:=n) (by omega) hN hl hA t.size n 0 (by omega) (by omega)
 rw [show Sl.len x0 = ((t.size:Nat):Int) by simp [Sl.len,hl,Tm.flat_len]] at this ⊢
 rw [make_ok (Nat.le_refl _) (by omega) (by omega),Option.bind_some]
 rw [pf_0,pf_0,List.length_map,List.length_map,Tm.vals_len] at this
 exact this
end Go.Proofs.YtaadjlpfdajggaaGreatDoor

set_option maxRecDepth 100000
set_option linter.unusedVariables false
set_option linter.unusedSimpArgs false
namespace Go.Proofs.YtaadjlpfdajggaaGreatDoor
open Go Go.AM
theorem sz_rng:∀ {t:Tm},∀ v ∈ t.szs,1 ≤ v ∧ v ≤ t.size
 | .leaf n=>fun v hv=>by simp [Tm.vals,szA] at hv; simp [Tm.size]; omega
 | .one n t=>fun v hv=>by
  simp only [Tm.vals,List.mem_append,List.mem_singleton] at hv
  rcases hv with hv | rfl
  ·have:=sz_rng v hv; simp [Tm.size]; omega
  ·simp [szA,Tm.sz_val,Tm.size]; omega
 | .two n a b=>fun v hv=>by
  simp only [Tm.vals,List.mem_append,List.mem_singleton] at hv
  rcases hv with (hv | hv) | rfl
  ·have:=sz_rng v hv; simp [Tm.size]; omega
  ·have:=sz_rng v hv; simp [Tm.size]; omega
  ·simp [szA,Tm.sz_val,Tm.size]; omega
def szAt (sz:List Int) (x:Int):Int:=sz.getD x.toNat default
def cfG (sz:List Int) (x y:Int):Int:=if (x - szAt sz x + 1) - (y - szAt sz y + 1) ≠ 0 then (x - szAt sz x + 1) - (y - szAt sz y + 1) else szAt sz y - szAt sz x
def InR (sz:List Int) (x:Int):Prop:=0 ≤ x ∧ x < sz.length
theorem srt_congr {cf cg:Int → Int → Int} {l:List Int} (h:∀ a ∈ l,∀ b ∈ l,cf a b = cg a b):srt cf l = srt cg l:=by
 have:=List.map_mergeSort (r:=fun x y=>!ltC cf y x) (s:=fun x y=>!ltC cg y x) (f:=id) (l:=l) (fun a ha b hb=>by simp only [ltC,id,h b hb a ha])
 simpa [srt] using this
theorem ltG {sz:List Int} {x y:Int}:ltC (cfG sz) x y = true ↔ (x - szAt sz x < y - szAt sz y ∨ (x - szAt sz x = y - szAt sz y ∧ szAt sz y < szAt sz x)):=by
 unfold ltC cfG
 rw [decide_eq_true_iff]
 split <;> omega
theorem ltG' {sz:List Int} {x y:Int}:ltC (cfG sz) x y = false ↔ ¬ (x - szAt sz x < y - szAt sz y ∨ (x - szAt sz x = y - szAt sz y ∧ szAt sz y < szAt sz x)):=by
 rw [← ltG,Bool.not_eq_true]
theorem ord_G (sz l:List Int):OrdOn (ltC (cfG sz)) l where
 irrefl x _:=by rw [ltG']; omega
 trans x _ y _ z _ h1 h2:=by rw [ltG] at *; omega
 ntrans x _ y _ z _ h1 h2:=by rw [ltG'] at *; omega
 anti x _ y _ h1 h2:=by rw [ltG'] at *; omega
section
variable {n:Nat} {sz:List Int}
theorem c1_ok {x:Int} (hn:1 ≤ n) (hb:∀ v ∈ sz,1 ≤ v ∧ v ≤ 500) (hl:sz.length ≤ 500) (hx:InR sz x):m_b0 n x (some sz) = some (x - szAt sz x + 1):=by
 obtain ⟨n,rfl⟩:∃ m,n = m + 1:=⟨n - 1,by omega⟩
 obtain ⟨h1,h2⟩:=hx
 have hj:x.toNat < sz.length:=by omega
 have:=hb _ (List.getElem_mem hj)
 have e:szAt sz x = sz[x.toNat]:=by simp [szAt,List.getD,hj]
 simp only [m_b0,b_cw,Sl.l]
 rw [ck_int h1 h2,Option.bind_some,nth_l (v:=sz[x.toNat]) (by simp [Sl.l,hj]),w64 (n:=x - _) (by omega) (by omega),w64 (by omega) (by omega),e]
theorem c2_ok {x y:Int} (hn:2 ≤ n) (hb:∀ v ∈ sz,1 ≤ v ∧ v ≤ 500) (hl:sz.length ≤ 500) (hx:InR sz x) (hy:InR sz y):m_v n x y (some sz) (some sz) = some (cfG sz x y):=by
 obtain ⟨n,rfl⟩:∃ m,n = m + 1:=⟨n - 1,by omega⟩
 have hjx:x.toNat < sz.length:=by have:=hx.1; have:=hx.2; omega
 have hjy:y.toNat < sz.length:=by have:=hy.1; have:=hy.2; omega
 have b1:=hb _ (List.getElem_mem hjx)
 have b2:=hb _ (List.getElem_mem hjy)
 have e1:szAt sz x = sz[x.toNat]:=by simp [szAt,List.getD,hjx]
 have e2:szAt sz y = sz[y.toNat]:=by simp [szAt,List.getD,hjy]
 simp only [m_v,b_ct]
 rw [c1_ok (by omega) hb hl hx,Option.bind_some,c1_ok (by omega) hb hl hy,Option.bind_some]
 have:=hx.1; have:=hx.2; have:=hy.1; have:=hy.2
 rw [w64 (by omega) (by omega)]
 unfold cfG
 by_cases h:(x - szAt sz x + 1) - (y - szAt sz y + 1) = 0
 ·rw [cfl (by simp [h]),if_neg (by simp [h])]
  simp only [Sl.l]
  rw [ck_int hy.1 hy.2,Option.bind_some,ck_int hx.1 hx.2,Option.bind_some,nth_l (x:=some sz) (v:=sz[y.toNat]) (by simp [Sl.l,hjy]),nth_l (x:=some sz) (v:=sz[x.toNat]) (by simp [Sl.l,hjx]),w64 (by omega) (by omega),e1,e2]
 ·rw [ct (by simp [h]),if_pos h]
theorem sort_ok {l:List Int} (hn:3 ≤ n) (hb:∀ v ∈ sz,1 ≤ v ∧ v ≤ 500) (hl:sz.length ≤ 500) (hx:∀ x ∈ l,InR sz x) (h0:l ≠ []) (hl':l.length ≤ 500):m_q n (some l) (some sz) = some (some (srt (cfG sz) l)):=by
 obtain ⟨n,rfl⟩:∃ m,n = m + 1:=⟨n - 1,by omega⟩
 have hc:∀ x ∈ l,∀ y ∈ l,(m_v n x y (some sz) (some sz)).getD 0 = cfG sz x y:=fun x h y h'=>by rw [c2_ok (by omega) hb hl (hx x h) (hx y h')]; rfl
 simp only [m_q]
 rw [if_pos,srt_congr hc]
 refine ⟨h0,by omega,fun x h y h'=>by rw [c2_ok (by omega) hb hl (hx x h) (hx y h')]; simp,?_⟩
 have o:=ord_G sz l
 have e:∀ x ∈ l,∀ y ∈ l,ltC (fun x y=>(m_v n x y (some sz) (some sz)).getD 0) x y = ltC (cfG sz) x y:=fun x h y h'=>by simp only [ltC,hc x h y h']
 exact ⟨fun x h=>by rw [e x h x h]; exact o.irrefl x h,fun x h y h' z h''=>by rw [e x h y h',e y h' z h'',e x h z h'']; exact o.trans x h y h' z h'',fun x h y h' z h''=>by rw [e x h y h',e y h' z h'',e x h z h'']; exact o.ntrans x h y h' z h'',fun x h y h'=>by rw [e x h y h',e y h' x h]; exact o.anti x h y h'⟩
end
def gix (i:Nat):List S_a → List Int
 | []=>[]
 | x :: xs=>if x.f_Kind = 11 then (i:Int) :: gix (i + 1) xs else gix (i + 1) xs
def oddB (g:Nat) (x:S_a):Bool:=decide (x.f_Kind = 12) && (decide (x.f_N < 1) || decide ((g:Int) < x.f_N))
def numOk (l:List S_a):List Int → Int → Bool
 | [],_=>true
 | i :: S,k=>decide ((l.getD i.toNat default).f_N = k + 1) && numOk l S (k + 1)
def ol (l:List Int):Sl Int:=if l = [] then none else some l
theorem ol_l (l:List Int):Sl.l (ol l) = l:=by
 unfold ol; split
 ·rename_i h; rw [h]; rfl
 ·rfl
def groupedR (l:List S_a) (sz:List Int):Bool :=
 numOk l (srt (cfG sz) (gix 0 l)) 0 && (decide ((gix 0 l).length ≤ 9) && !l.any (oddB (gix 0 l).length))
section
variable {n:Nat} {x0:Sl S_a} {sz:List Int}
theorem idx_loop {o:Sl Int} {g:Nat} (hg:(Sl.l o).length = g) (hn:2 ≤ n) (hN:(Sl.l x0).length ≤ 500):∀ (d fuel i:Nat),i + d = (Sl.l x0).length → d < fuel →
  ∃ r,b_E (m_bz n) n x0 o fuel (Sl.len x0) (i:Int) = some r ∧ decide (0 ≤ r) = ((Sl.l x0).drop i).any (oddB g):=by
 intro d
 induction d with
 | zero =>
  intro fuel i hi hf
  obtain ⟨fuel,rfl⟩:∃ m,fuel = m + 1:=⟨fuel - 1,by omega⟩
  rw [b_E,cfl (df (by simp only [Sl.len]; omega)),List.drop_eq_nil_of_le (by omega)]
  exact ⟨_,rfl,rfl⟩
 | succ d ih =>
  intro fuel i hi hf
  obtain ⟨fuel,rfl⟩:∃ m,fuel = m + 1:=⟨fuel - 1,by omega⟩
  have hil:i < (Sl.l x0).length:=by omega
  rw [b_E,ct (dt (by simp only [Sl.len]; omega)),ck_ok hil,Option.bind_some,nth_l (List.getElem?_eq_getElem hil),List.drop_eq_getElem_cons hil,List.any_cons]
  have h3:∀ x,m_bz n x o = some (oddB g x):=fun x=>by
   obtain ⟨n,rfl⟩:∃ m,n = m + 1:=⟨n - 1,by omega⟩
   simp only [m_bz,b_cx,oddB,Sl.len,hg]
  rw [h3,Option.bind_some]
  cases hv:oddB g (Sl.l x0)[i] with
  | true=>exact ⟨_,rfl,by simp⟩
  | false =>
   rw [cond_false,wp1 (by omega),Bool.false_or]
   exact ih fuel (i + 1) (by omega) (by omega)
theorem cont_ok {o:Sl Int} {g:Nat} (hg:(Sl.l o).length = g) (hn:600 ≤ n) (hN:(Sl.l x0).length ≤ 500):m_K n x0 o = some ((Sl.l x0).any (oddB g)):=by
 obtain ⟨n,rfl⟩:∃ m,n = m + 2:=⟨n - 2,by omega⟩
 obtain ⟨r,h1,h2⟩:=idx_loop (n:=n) hg (by omega) hN (Sl.l x0).length n 0 (by omega) (by omega)
 simp only [m_K,b_bw,m_by,b_bx]
 rw [show ((0:Nat):Int) = 0 from rfl] at h1
 rw [h1,Option.bind_some,h2,List.drop_zero]
theorem num_loop {S:List Int} {N:Nat} (hN:N = S.length) (hn:700 ≤ n) (hx:(Sl.l x0).length ≤ 500) (hS:∀ x ∈ S,0 ≤ x ∧ x < ((Sl.l x0).length:Int)) (hl:S.length ≤ 500) {o:Sl Int} (ho:Sl.l o = S):∀ (d fuel i:Nat),i + d = N → d < fuel →
  b_bn (m_bl n) (m_q n) (m_K n) n x0 fuel o (N:Int) (i:Int) =
   some (numOk (Sl.l x0) (S.drop i) i && (decide (S.length ≤ 9) && !(Sl.l x0).any (oddB S.length))):=by
 intro d
 induction d with
 | zero =>
  intro fuel i hi hf
  obtain ⟨fuel,rfl⟩:∃ m,fuel = m + 1:=⟨fuel - 1,by omega⟩
  rw [b_bn,cfl (df (by omega)),List.drop_eq_nil_of_le (by omega),numOk,Bool.true_and]
  by_cases h9:S.length ≤ 9
  ·rw [ct (dt (by simp only [Sl.len,ho]; omega)),cont_ok (g:=S.length) (by rw [ho]) (by omega) hx,dt h9]; rfl
  ·rw [cfl (df (by simp only [Sl.len,ho]; omega)),df h9]; rfl
 | succ d ih =>
  intro fuel i hi hf
  obtain ⟨fuel,rfl⟩:∃ m,fuel = m + 1:=⟨fuel - 1,by omega⟩
  have hil:i < S.length:=by omega
  have hm:=hS _ (List.getElem_mem hil)
  have hil':i < (Sl.l o).length:=by rw [ho]; exact hil
  have ho':Sl.nth o i = S[i]:=nth_l (by rw [ho]; exact List.getElem?_eq_getElem hil)
  rw [b_bn,ct (dt (by omega)),ck_ok hil',Option.bind_some,ho',ck_int hm.1 hm.2,Option.bind_some,wp1 (by omega),List.drop_eq_getElem_cons hil,numOk]
  have e:Sl.nth x0 S[i].toNat = (Sl.l x0).getD S[i].toNat default:=rfl
  rw [e]
  by_cases h:((Sl.l x0).getD S[i].toNat default).f_N = ((i + 1:Nat):Int)
  ·rw [cfl (by rw [dt h]; rfl),ih fuel (i + 1) (by omega) (by omega),dt (show _ = (i:Int) + 1 by rw [h]; omega),Bool.true_and]
   congr 2
  ·rw [ct (by rw [df h]; rfl),df (show ¬ (_ = (i:Int) + 1) by omega)]; rfl
theorem grp_loop (hn:700 ≤ n) (hN:(Sl.l x0).length ≤ 500) (hb:∀ v ∈ sz,1 ≤ v ∧ v ≤ 500) (hsz:sz.length = (Sl.l x0).length):∀ (xs:List S_a) (fuel i:Nat) (acc:List Int),(Sl.l x0).drop i = xs → i ≤ (Sl.l x0).length → xs.length < fuel → (∀ x ∈ acc,InR sz x) → acc.length ≤ i →
  b_2 (m_bl n) (m_q n) (m_K n) n x0 fuel (some sz) (ol acc) (Sl.len x0) (i:Int) =
   some (numOk (Sl.l x0) (srt (cfG sz) (acc ++ gix i xs)) 0 && (decide ((acc ++ gix i xs).length ≤ 9) && !(Sl.l x0).any (oddB (acc ++ gix i xs).length))):=by
 intro xs
 induction xs with
 | nil =>
  intro fuel i acc hd hi hf hr ha
  obtain ⟨fuel,rfl⟩:∃ m,fuel = m + 1:=⟨fuel - 1,by omega⟩
  have hlen:(Sl.l x0).length ≤ i:=List.drop_eq_nil_iff.1 hd
  rw [b_2,cfl (df (by simp only [Sl.len]; omega))]
  simp only [gix,List.append_nil]
  have hlen':Sl.len (ol acc) = ((acc.length:Nat):Int):=by simp only [Sl.len,ol_l]
  by_cases h0:acc = []
  ·subst h0
   obtain ⟨n,rfl⟩:∃ m,n = m + 1:=⟨n - 1,by omega⟩
   have e:m_q (n + 1) (ol []) (some sz) = some none:=rfl
   have:=num_loop (n:=n + 1) (x0:=x0) (S:=[]) (N:=0) rfl (by omega) hN (by simp) (by simp) (o:=none) rfl 0 (n + 1) 0 rfl (by omega)
   rw [e,Option.bind_some,hlen']
   simpa [srt,numOk] using this
  ·have e:ol acc = some acc:=if_neg h0
   have hS:∀ x ∈ srt (cfG sz) acc,0 ≤ x ∧ x < ((Sl.l x0).length:Int):=fun x hx=>by
    have:=hr x (List.mem_mergeSort.1 hx)
    rw [InR,hsz] at this; exact this
   have hl:(srt (cfG sz) acc).length = acc.length:=List.length_mergeSort _
   rw [hlen',e,sort_ok (by omega) hb (by omega) hr h0 (by omega),Option.bind_some]
   have:=num_loop (n:=n) (x0:=x0) (S:=srt (cfG sz) acc) (N:=acc.length) hl.symm hn hN hS (by omega) (o:=some (srt (cfG sz) acc)) rfl acc.length n 0 (by omega) (by omega)
   rw [hl] at this
   exact this
 | cons x xs ih =>
  intro fuel i acc hd hi hf hr ha
  obtain ⟨fuel,rfl⟩:∃ m,fuel = m + 1:=⟨fuel - 1,by simp at hf; omega⟩
  have hil:i < (Sl.l x0).length:=by
   rcases Nat.lt_or_ge i (Sl.l x0).length with h | h
   ·exact h
   ·rw [List.drop_eq_nil_of_le h] at hd; cases hd
  rw [List.drop_eq_getElem_cons hil] at hd
  injection hd with hx hd
  rw [b_2,ct (dt (by simp only [Sl.len]; omega)),ck_ok hil,Option.bind_some,nth_l (List.getElem?_eq_getElem hil),hx]
  by_cases h:x.f_Kind = 11
  ·rw [ct (dt h),show gix i (x :: xs) = (i:Int) :: gix (i + 1) xs by simp [gix,h]]
   have e:Sl.app 8 (ol acc) (some ([(i:Int)]:List Int)) = some (ol (acc ++ [(i:Int)])):=by
    have hr2:(8000000:Nat) ≤ roomMost:=Nat.le_of_ble_eq_true rfl
    unfold Sl.app
    rw [if_neg (by simp [Sl.l]),if_pos (by rw [ol_l]; simp [Sl.l]; omega),ol_l]
    simp [ol,Sl.l]
   rw [e,Option.bind_some,b_bG,wp1 (by omega)]
   have:=ih fuel (i + 1) (acc ++ [(i:Int)]) hd (by omega) (by simp at hf; omega) (fun y hy=>by
    rcases List.mem_append.1 hy with hy | hy
    ·exact hr y hy
    ·rw [List.mem_singleton] at hy; subst hy; exact ⟨by omega,by rw [hsz]; omega⟩) (by simp; omega)
   rw [List.append_assoc] at this
   exact this
  ·rw [cfl (df h),show gix i (x :: xs) = gix (i + 1) xs by simp [gix,h],b_bG,wp1 (by omega)]
   exact ih fuel (i + 1) acc hd (by omega) (by simp at hf; omega) hr (by omega)
theorem grouped_ok {t:Tm} (hn:800 ≤ n) (hN:(Sl.l x0).length ≤ 500) (ht:tree (Sl.l x0) = some t):m_b8 n x0 = some (groupedR (Sl.l x0) t.szs):=by
 obtain ⟨n,rfl⟩:∃ m,n = m + 1:=⟨n - 1,by omega⟩
 obtain ⟨hl,hA⟩:=tree_some ht
 have hs:t.size ≤ 500:=by rw [hl,Tm.flat_len] at hN; exact hN
 simp only [m_b8,b_dh]
 rw [sizes_tree (by omega) hN ht,Option.bind_some]
 have:=grp_loop (n:=n) (x0:=x0) (sz:=t.szs) (by omega) hN (fun v hv=>by have:=sz_rng v hv; omega) (by rw [Tm.vals_len,hl,Tm.flat_len]) (Sl.l x0) n 0 [] rfl (by omega) (by omega) (by simp) (by simp)
 simpa [ol,groupedR] using this
end
def BehOk (t:Tm):Prop:=∀ (i:Nat) x,t.flat[i]? = some x → (x.f_Kind = 15 ∨ x.f_Kind = 16) → ∀ (j:Nat) v,x.f_A = (j:Int) → t.lens[j]? = some v → v.1 = v.2 ∧ v.1 ≤ 255
section
variable {n:Nat} {x0:Sl S_a} {t:Tm}
theorem right_loop {c1:T_co} {c2:T_c1} {c3:T_b9} (hl:Sl.l x0 = t.flat) (ht:t.At 0) (hs:t.size ≤ 500):∀ (d fuel i:Nat),i + d = t.size → d < fuel →
  ∃ r,b_bc c1 c2 c3 n x0 fuel (some (t.lens.map Prod.fst)) (some (t.lens.map Prod.snd)) (Sl.len x0) (i:Int) = some r ∧ (r = 0 ∨ r = 7) ∧ (r = 0 ↔ ∀ (i':Nat) x,i ≤ i' → t.flat[i']? = some x → (x.f_Kind = 15 ∨ x.f_Kind = 16) → ∀ (j:Nat) v,x.f_A = (j:Int) → t.lens[j]? = some v → v.1 = v.2 ∧ v.1 ≤ 255):=by
 have hlen:Sl.len x0 = (t.size:Int):=by simp [Sl.len,hl,Tm.flat_len]
 intro d
 induction d with
 | zero =>
  intro fuel i hi hf
  obtain ⟨fuel,rfl⟩:∃ m,fuel = m + 1:=⟨fuel - 1,by omega⟩
  rw [b_bc,cfl (df (by omega))]
  refine ⟨0,rfl,.inl rfl,fun _ i' x hi' hx=>?_,fun _=>rfl⟩
  have:=(List.getElem?_eq_some_iff.1 hx).1
  rw [Tm.flat_len] at this; omega
 | succ d ih =>
  intro fuel i hi hf
  obtain ⟨fuel,rfl⟩:∃ m,fuel = m + 1:=⟨fuel - 1,by omega⟩
  have hif:i < t.flat.length:=by rw [Tm.flat_len]; omega
  have hx:=List.getElem?_eq_getElem hif
  have hx0:Sl.nth x0 i = t.flat[i]:=nth_l (by rw [hl]; exact hx)
  have K:=Tm.kid (d:=((0:Int),(0:Int))) (alg:=lenA) ht hx
  obtain ⟨r,hr1,hr2,hr3⟩:=ih fuel (i + 1) (by omega) (by omega)
  rw [b_bc,ct (dt (by omega)),ck_ok (by rw [hl]; exact hif),Option.bind_some,hx0]
  generalize t.flat[i] = x at *
  have step:(∀ (j:Nat) v,(x.f_Kind = 15 ∨ x.f_Kind = 16) → x.f_A = (j:Int) → t.lens[j]? = some v → v.1 = v.2 ∧ v.1 ≤ 255) → (r = 0 ↔ ∀ (i':Nat) x,i ≤ i' → t.flat[i']? = some x → (x.f_Kind = 15 ∨ x.f_Kind = 16) → ∀ (j:Nat) v,x.f_A = (j:Int) → t.lens[j]? = some v → v.1 = v.2 ∧ v.1 ≤ 255):=fun hc=>by
   refine ⟨fun h i' y hi' hy hk j v hj hv=>?_,fun h=>hr3.2 fun i' y hi'=>h i' y (by omega)⟩
   rcases Nat.lt_or_ge i i' with h' | h'
   ·exact hr3.1 h i' y (by omega) hy hk j v hj hv
   ·obtain rfl:i' = i:=by omega
    rw [hx] at hy; injection hy with hy; subst hy
    exact hc j v hk hj hv
  by_cases k:x.f_Kind = 15 ∨ x.f_Kind = 16
  ·have f1:∀ {j:Nat} {v:Int × Int},t.lens[j]? = some v → (t.lens.map Prod.fst)[j]? = some v.1:=fun {j v} hv=>by rw [List.getElem?_map,hv]; rfl
   have f2:∀ {j:Nat} {v:Int × Int},t.lens[j]? = some v → (t.lens.map Prod.snd)[j]? = some v.2:=fun {j v} hv=>by rw [List.getElem?_map,hv]; rfl
   rcases K.at_ with ⟨h1,_⟩ | ⟨h1,j,v,h2,h3,h4,h5,h6⟩ | ⟨h1,_⟩
   ·rcases k with k | k <;> simp [kd,k] at h1
   case inr.inr=>rcases k with k | k <;> simp [kd,k] at h1
   have hj:j < t.lens.length:=(List.getElem?_eq_some_iff.1 h5).1
   rw [cfl (by rcases k with k | k <;> simp [k]),h3,Nat.zero_add,ck_ok (by simp [Sl.l]; exact hj),Option.bind_some,ck_ok (by simp [Sl.l]; exact hj),Option.bind_some,nth_l (x:=some (t.lens.map Prod.fst)) (f1 h5),nth_l (x:=some (t.lens.map Prod.snd)) (f2 h5)]
   by_cases hc:v.1 = v.2 ∧ v.1 ≤ 255
   ·rw [cfl (by simp [hc.1]; have:=hc.2; have:=hc.1; omega),b_b7,wp1 (by omega)]
    refine ⟨r,hr1,hr2,step fun j' v' _ hj' hv'=>?_⟩
    obtain rfl:j' = j:=by rw [h3] at hj'; omega
    rw [h5] at hv'; injection hv' with hv'; subst hv'; exact hc
   ·rw [ct (by
     simp only [Bool.or_eq_true,Bool.not_eq_true',decide_eq_false_iff_not,decide_eq_true_eq]
     by_cases h:v.1 = v.2
     ·exact .inr (by
      have:¬ (v.1 ≤ 255):=fun h'=>hc ⟨h,h'⟩
      omega)
     ·exact .inl h)]
    refine ⟨7,rfl,.inr rfl,fun h=>(by cases h),fun h=>(hc (h i x (Nat.le_refl _) hx k j v (by rw [h3,Nat.zero_add]) h5)).elim⟩
  ·rw [ct (by simp only [Bool.and_eq_true,Bool.not_eq_true',decide_eq_false_iff_not]; exact ⟨fun h=>k (.inl h),fun h=>k (.inr h)⟩),b_b7,wp1 (by omega)]
   exact ⟨r,hr1,hr2,step fun _ _ h=>(k h).elim⟩
structure RightT (l:List S_a) (t:Tm):Prop where
 tree:tree l = some t
 len:t.size ≤ 500
 dep:t.dep ≤ 40
 grp:groupedR l t.szs = true
 beh:BehOk t
end
end Go.Proofs.YtaadjlpfdajggaaGreatDoor

set_option maxRecDepth 100000
set_option linter.unusedVariables false
set_option linter.unusedSimpArgs false
namespace Go.Proofs.YtaadjlpfdajggaaGreatDoor
open Go Go.AM
def refN (x:S_a):S_b:=⟨x.f_Kind,x.f_A,x.f_B,x.f_Set.f_W,x.f_Min,x.f_Max,x.f_Mode,x.f_N,x.f_Fold⟩
theorem one_ok {n:Nat} (x:S_a) (h:1 ≤ n):m_db n x = some (refN x):=by
 obtain ⟨n,rfl⟩:∃ m,n = m + 1:=⟨n - 1,by omega⟩
 rfl
theorem ref_loop {n:Nat} {x0:Sl S_a} (hn:1 ≤ n) (hN:(Sl.l x0).length ≤ 500):∀ (d fuel i:Nat),i + d = (Sl.l x0).length → d < fuel →
  b_bI (m_db n) n x0 fuel (some (((Sl.l x0).take i).map refN)) (i:Int) = some (some ((Sl.l x0).map refN)):=by
 intro d
 induction d with
 | zero =>
  intro fuel i hi hf
  obtain ⟨fuel,rfl⟩:∃ m,fuel = m + 1:=⟨fuel - 1,by omega⟩
  rw [b_bI,cfl (df (by simp only [Sl.len]; omega)),List.take_of_length_le (by omega)]
 | succ d ih =>
  intro fuel i hi hf
  obtain ⟨fuel,rfl⟩:∃ m,fuel = m + 1:=⟨fuel - 1,by omega⟩
  have hil:i < (Sl.l x0).length:=by omega
  rw [b_bI,ct (dt (by simp only [Sl.len]; omega)),ck_ok hil,Option.bind_some,nth_l (List.getElem?_eq_getElem hil),one_ok _ hn,Option.bind_some,app1 (by simp; omega),Option.bind_some,wp1 (by omega)]
  have:=ih fuel (i + 1) (by omega) (by omega)
  rw [List.take_succ_eq_append_getElem hil,List.map_append] at this
  exact this
theorem ref_ok {n:Nat} {x0:Sl S_a} (hn:600 ≤ n) (hN:(Sl.l x0).length ≤ 500):m_c9 n x0 = some (some ((Sl.l x0).map refN)):=by
 obtain ⟨n,rfl⟩:∃ m,n = m + 1:=⟨n - 1,by omega⟩
 simp only [m_c9,b_dS]
 exact ref_loop (by omega) hN (Sl.l x0).length n 0 (by omega) (by omega)
theorem rkids_ok {n:Nat} (k:Int) (h:1 ≤ n):m_bs n k = some ((kd k:Nat):Int):=by
 obtain ⟨n,rfl⟩:∃ m,n = m + 1:=⟨n - 1,by omega⟩
 simp only [m_bs,b_dq,kd]
 by_cases h2:k = 8 ∨ k = 9
 ·rw [ct (by simpa using h2),if_pos h2]; rfl
 ·rw [cfl (by simpa using h2),if_neg h2]
  by_cases h1:k = 10 ∨ k = 11 ∨ k = 13 ∨ k = 14 ∨ k = 15 ∨ k = 16 ∨ k = 17
  ·rw [ct (by simp only [Bool.or_eq_true,Bool.and_eq_true,decide_eq_true_eq]; omega),if_pos h1]; rfl
  ·rw [cfl (by rw [← Bool.not_eq_true]; simp only [Bool.or_eq_true,Bool.and_eq_true,decide_eq_true_eq]; omega),if_neg h1]; rfl
theorem bare_iff (x:S_a):bareS x = bareS (ownS x) ↔ ((x.f_Kind ≠ 1 → x.f_Set = S_c.zero) ∧ (x.f_Kind ≠ 10 → x.f_Min = 0 ∧ x.f_Max = 0 ∧ x.f_Mode = 0) ∧ (x.f_Kind ≠ 11 ∧ x.f_Kind ≠ 12 → x.f_N = 0) ∧ (x.f_Kind ≠ 12 → x.f_Fold = false)):=by
 obtain ⟨k,a,b,s,m,M,mo,N,f⟩:=x
 by_cases h1:k = 1
 ·subst h1; simp [bareS,ownS,S_a.zero,and_assoc]
 by_cases h2:k = 10
 ·subst h2; simp [bareS,ownS,S_a.zero,and_assoc]
 by_cases h3:k = 11
 ·subst h3; simp [bareS,ownS,S_a.zero,and_assoc]
 by_cases h4:k = 12
 ·subst h4; simp [bareS,ownS,S_a.zero,and_assoc]
 simp [bareS,ownS,S_a.zero,h1,h2,h3,h4,and_assoc]
theorem set_zero (s:S_c):s.f_W = Arr.rep 4 0 ↔ s = S_c.zero:=by
 obtain ⟨w⟩:=s
 constructor
 ·intro h; simp only at h; subst h; rfl
 ·intro h; injection h
theorem rfits_ok {n:Nat} (x:S_a) (h:1 ≤ n):m_cS n (refN x) = some (fitsB x):=by
 obtain ⟨n,rfl⟩:∃ m,n = m + 1:=⟨n - 1,by omega⟩
 simp only [m_cS,b_dx,fitsB]
 show (bif (decide (x.f_Kind < 0)) || (decide (17 < x.f_Kind)) then some false else (bif ((((!decide (x.f_Kind = 1)) && (!decide (x.f_Set.f_W = ((Arr.rep 4 0))))) || ((!decide (x.f_Kind = 10)) && (((!decide (x.f_Min = 0)) || (!decide (x.f_Max = 0))) || (!decide (x.f_Mode = 0))))) || (((!decide (x.f_Kind = 11)) && (!decide (x.f_Kind = 12))) && (!decide (x.f_N = 0))) || ((!decide (x.f_Kind = 12)) && x.f_Fold)) then some false else some ((!decide (x.f_Kind = 10)) || ((((((decide (0 ≤ x.f_Min)) && (decide (x.f_Min ≤ 100))) && (decide (x.f_Max ≤ 100))) && ((decide (x.f_Max = ((-1)))) || (decide (x.f_Min ≤ x.f_Max)))) && (decide (0 ≤ x.f_Mode))) && (decide (x.f_Mode ≤ 2)))))) = some (decide (0 ≤ x.f_Kind) && decide (x.f_Kind < 18) && decide (bareS x = bareS (ownS x)) && (!decide (x.f_Kind = 10) || (decide (0 ≤ x.f_Min) && decide (x.f_Min ≤ 100) && (decide (x.f_Max = -1) || (decide (x.f_Min ≤ x.f_Max) && decide (x.f_Max ≤ 100))) && decide (0 ≤ x.f_Mode) && decide (x.f_Mode ≤ 2))))
 by_cases h0:x.f_Kind < 0 ∨ 17 < x.f_Kind
 ·rw [ct (by rw [Bool.or_eq_true,decide_eq_true_eq,decide_eq_true_eq]; exact h0)]
  rcases Decidable.em (0 ≤ x.f_Kind) with g | g
  ·rw [dt g,df (show ¬ x.f_Kind < 18 by omega)]; rfl
  ·rw [df g]; rfl
 ·rw [cfl (by rw [df (show ¬ x.f_Kind < 0 by omega),df (show ¬ 17 < x.f_Kind by omega)]; rfl),dt (show 0 ≤ x.f_Kind by omega),dt (show x.f_Kind < 18 by omega),Bool.true_and,Bool.true_and]
  have e:=bare_iff x
  rw [← set_zero] at e
  have key:decide (bareS x = bareS (ownS x)) = !((((!decide (x.f_Kind = 1)) && (!decide (x.f_Set.f_W = ((Arr.rep 4 0))))) || ((!decide (x.f_Kind = 10)) && (((!decide (x.f_Min = 0)) || (!decide (x.f_Max = 0))) || (!decide (x.f_Mode = 0))))) || (((!decide (x.f_Kind = 11)) && (!decide (x.f_Kind = 12))) && (!decide (x.f_N = 0))) || ((!decide (x.f_Kind = 12)) && x.f_Fold)):=by
   rw [Bool.eq_iff_iff,decide_eq_true_iff,e]
   simp only [Bool.not_eq_true',Bool.or_eq_false_iff,Bool.and_eq_false_iff,Bool.not_eq_false',decide_eq_true_eq,Bool.not_eq_eq_eq_not,Bool.not_true,Bool.not_false]
   generalize x.f_Set.f_W = w
   generalize x.f_Kind = k
   generalize x.f_Min = a
   generalize x.f_Max = b
   generalize x.f_Mode = c
   generalize x.f_N = d
   generalize x.f_Fold = f
   constructor
   ·rintro ⟨h1,h2,h3,h4⟩
    refine ⟨⟨⟨?_,?_⟩,?_⟩,?_⟩
    ·rcases Decidable.em (k = 1) with h | h
     ·exact .inl h
     ·exact .inr (h1 h)
    ·rcases Decidable.em (k = 10) with h | h
     ·exact .inl h
     ·exact .inr ⟨⟨(h2 h).1,(h2 h).2.1⟩,(h2 h).2.2⟩
    ·rcases Decidable.em (k = 11 ∨ k = 12) with h | h
     ·exact .inl h
     ·exact .inr (h3 ⟨fun g=>h (.inl g),fun g=>h (.inr g)⟩)
    ·rcases Decidable.em (k = 12) with h | h
     ·exact .inl h
     ·exact .inr (h4 h)
   ·rintro ⟨⟨⟨h1,h2⟩,h3⟩,h4⟩
    exact ⟨fun h=>h1.resolve_left h,fun h=>⟨(h2.resolve_left h).1.1,(h2.resolve_left h).1.2,(h2.resolve_left h).2⟩,fun h=>h3.resolve_left fun g=>g.elim h.1 h.2,fun h=>h4.resolve_left h⟩
  rw [key]
  generalize ((((!decide (x.f_Kind = 1)) && (!decide (x.f_Set.f_W = ((Arr.rep 4 0))))) || ((!decide (x.f_Kind = 10)) && (((!decide (x.f_Min = 0)) || (!decide (x.f_Max = 0))) || (!decide (x.f_Mode = 0))))) || (((!decide (x.f_Kind = 11)) && (!decide (x.f_Kind = 12))) && (!decide (x.f_N = 0))) || ((!decide (x.f_Kind = 12)) && x.f_Fold)) = b
  cases b with
  | true=>rfl
  | false =>
   rw [cond_false,Bool.not_false,Bool.true_and]
   congr 1
   congr 1
   rw [Bool.eq_iff_iff]
   simp only [Bool.and_eq_true,Bool.or_eq_true,decide_eq_true_eq]
   omega
def Sub (l:List S_a) (i:Nat) (t:Tm):Prop:=i < l.length ∧ ∃ p,l.take (i + 1) = p ++ t.flat ∧ t.At p.length
theorem sub_at' {l:List S_a} {i:Nat} {q:List S_a} {x:S_a} (hi:i < l.length) (h:l.take (i + 1) = q ++ [x]):l.take i = q ∧ l[i]? = some x:=by
 rw [List.take_succ_eq_append_getElem hi] at h
 have h1:=List.append_inj' h rfl
 exact ⟨h1.1,by rw [List.getElem?_eq_getElem hi]; have:=h1.2; injection this with this _; rw [this]⟩
theorem sub_leaf {l:List S_a} {i:Nat} {x:S_a} (h:Sub l i (.leaf x)):l[i]? = some x ∧ fitsB x = true ∧ kd x.f_Kind = 0 ∧ x.f_A = 0 ∧ x.f_B = 0:=by
 obtain ⟨hi,p,h1,h2,h3,h4,h5⟩:=h
 exact ⟨(sub_at' hi h1).2,h2,h3,h4,h5⟩
theorem sub_one {l:List S_a} {i:Nat} {x:S_a} {t:Tm} (h:Sub l i (.one x t)):l[i]? = some x ∧ fitsB x = true ∧ kd x.f_Kind = 1 ∧ x.f_B = 0 ∧ ∃ j,i = j + 1 ∧ x.f_A = (j:Int) ∧ Sub l j t:=by
 obtain ⟨hi,p,h1,h2,h3,h4,h5,h6⟩:=h
 rw [Tm.flat,← List.append_assoc] at h1
 obtain ⟨g1,g2⟩:=sub_at' hi h1
 have hl:=congrArg List.length g1
 simp [Tm.flat_len] at hl
 have hp:=t.pos
 refine ⟨g2,h3,h4,h6,p.length + t.size - 1,by omega,by omega,by omega,p,?_,h2⟩
 rw [show p.length + t.size - 1 + 1 = i by omega]; exact g1
theorem sub_two {l:List S_a} {i:Nat} {x:S_a} {a b:Tm} (h:Sub l i (.two x a b)):l[i]? = some x ∧ fitsB x = true ∧ kd x.f_Kind = 2 ∧ ∃ j m,i = j + 1 ∧ x.f_B = (j:Int) ∧ Sub l j b ∧ j = m + b.size ∧ x.f_A = (m:Int) ∧ Sub l m a:=by
 obtain ⟨hi,p,h1,h2,h3,h4,h5,h6,h7⟩:=h
 rw [Tm.flat,← List.append_assoc] at h1
 obtain ⟨g1,g2⟩:=sub_at' hi h1
 have hl:=congrArg List.length g1
 simp [Tm.flat_len] at hl
 have hpa:=a.pos
 have hpb:=b.pos
 refine ⟨g2,h4,h5,p.length + a.size + b.size - 1,p.length + a.size - 1,by omega,by omega,⟨by omega,p ++ a.flat,?_,by simpa [Tm.flat_len] using h3⟩,by omega,by omega,by omega,p,?_,h2⟩
 ·rw [show p.length + a.size + b.size - 1 + 1 = i by omega,g1,List.append_assoc]
 ·have:=congrArg (List.take (p.length + a.size)) g1
  rw [List.take_take,show min (p.length + a.size) i = p.length + a.size by omega] at this
  rw [show p.length + a.size - 1 + 1 = p.length + a.size by omega,this,← List.append_assoc,List.take_append_of_le_length (by simp [Tm.flat_len]),List.take_of_length_le (by simp [Tm.flat_len])]
theorem sub_leaf' {l:List S_a} {i:Nat} {x:S_a} (hx:l[i]? = some x) (h1:fitsB x = true) (h2:kd x.f_Kind = 0) (h3:x.f_A = 0) (h4:x.f_B = 0):Sub l i (.leaf x):=by
 obtain ⟨hi,rfl⟩:=List.getElem?_eq_some_iff.1 hx
 exact ⟨hi,l.take i,by rw [List.take_succ_eq_append_getElem hi]; rfl,h1,h2,h3,h4⟩
theorem sub_one' {l:List S_a} {j:Nat} {x:S_a} {t:Tm} (hx:l[j + 1]? = some x) (h1:fitsB x = true) (h2:kd x.f_Kind = 1) (h3:x.f_A = (j:Int)) (h4:x.f_B = 0) (ht:Sub l j t):Sub l (j + 1) (.one x t):=by
 obtain ⟨hi,rfl⟩:=List.getElem?_eq_some_iff.1 hx
 obtain ⟨hj,p,g1,g2⟩:=ht
 have hl:=congrArg List.length g1
 simp [Tm.flat_len] at hl
 exact ⟨hi,p,by rw [List.take_succ_eq_append_getElem hi,g1,Tm.flat,List.append_assoc],g2,h1,h2,by omega,h4⟩
theorem sub_two' {l:List S_a} {m:Nat} {x:S_a} {a b:Tm} (hx:l[m + b.size + 1]? = some x) (h1:fitsB x = true) (h2:kd x.f_Kind = 2) (h3:x.f_A = (m:Int)) (h4:x.f_B = ((m + b.size:Nat):Int)) (ha:Sub l m a) (hb:Sub l (m + b.size) b):Sub l (m + b.size + 1) (.two x a b):=by
 obtain ⟨hi,rfl⟩:=List.getElem?_eq_some_iff.1 hx
 obtain ⟨hj,p,g1,g2⟩:=ha
 obtain ⟨hk,q,g3,g4⟩:=hb
 have hl:=congrArg List.length g1
 simp [Tm.flat_len] at hl
 have hl2:=congrArg List.length g3
 simp [Tm.flat_len] at hl2
 have e:q = l.take (m + 1):=by
  have:=congrArg (List.take (m + 1)) g3
  rw [List.take_take,show min (m + 1) (m + b.size + 1) = m + 1 by omega,List.take_append_of_le_length (by omega),List.take_of_length_le (show q.length ≤ m + 1 by omega)] at this
  exact this.symm
 refine ⟨hi,p,by rw [List.take_succ_eq_append_getElem hi,g3,e,g1,Tm.flat]; simp,g2,?_,h1,h2,by omega,by omega⟩
 rw [show p.length + a.size = q.length by omega]; exact g4
theorem sub_uniq {l:List S_a}:∀ {t t':Tm} {i:Nat},Sub l i t → Sub l i t' → t = t'
 | .leaf x,t',i,h,h'=>by
  obtain ⟨h1,_,h2,_⟩:=sub_leaf h
  cases t' with
  | leaf y=>have:=(sub_leaf h').1; rw [h1] at this; injection this with this; rw [this]
  | one y t=>obtain ⟨g1,_,g2,_⟩:=sub_one h'; rw [h1] at g1; injection g1 with g1; subst g1; omega
  | two y a b=>obtain ⟨g1,_,g2,_⟩:=sub_two h'; rw [h1] at g1; injection g1 with g1; subst g1; omega
 | .one x t,t',i,h,h'=>by
  obtain ⟨h1,_,h2,_,j,hj,_,hs⟩:=sub_one h
  cases t' with
  | leaf y=>obtain ⟨g1,_,g2,_⟩:=sub_leaf h'; rw [h1] at g1; injection g1 with g1; subst g1; omega
  | one y t2 =>
   obtain ⟨g1,_,g2,_,j',hj',_,hs'⟩:=sub_one h'
   rw [h1] at g1; injection g1 with g1
   obtain rfl:j = j':=by omega
   rw [g1,sub_uniq hs hs']
  | two y a b=>obtain ⟨g1,_,g2,_⟩:=sub_two h'; rw [h1] at g1; injection g1 with g1; subst g1; omega
 | .two x a b,t',i,h,h'=>by
  obtain ⟨h1,_,h2,j,m,hj,_,hb,hm,_,ha⟩:=sub_two h
  cases t' with
  | leaf y=>obtain ⟨g1,_,g2,_⟩:=sub_leaf h'; rw [h1] at g1; injection g1 with g1; subst g1; omega
  | one y t=>obtain ⟨g1,_,g2,_⟩:=sub_one h'; rw [h1] at g1; injection g1 with g1; subst g1; omega
  | two y a2 b2 =>
   obtain ⟨g1,_,g2,j',m',hj',_,hb',hm',_,ha'⟩:=sub_two h'
   rw [h1] at g1; injection g1 with g1
   obtain rfl:j = j':=by omega
   have eb:=sub_uniq hb hb'
   subst eb
   obtain rfl:m = m':=by omega
   rw [g1,sub_uniq ha ha']
theorem sub_size {l:List S_a} {i:Nat} {t:Tm} (h:Sub l i t):t.size ≤ i + 1:=by
 obtain ⟨hi,p,g1,_⟩:=h
 have hl:=congrArg List.length g1
 simp [Tm.flat_len] at hl; omega
theorem tree_sub {l:List S_a} {t:Tm}:tree l = some t ↔ l.length = t.size ∧ Sub l (l.length - 1) t:=by
 have hp:=t.pos
 constructor
 ·intro h
  obtain ⟨h1,h2⟩:=tree_some h
  have hl:l.length = t.size:=by rw [h1,Tm.flat_len]
  exact ⟨hl,by omega,[],by rw [List.take_of_length_le (by omega),h1]; rfl,h2⟩
 ·rintro ⟨hl,hi,p,g1,g2⟩
  rw [List.take_of_length_le (by omega)] at g1
  have hq:=congrArg List.length g1
  simp [Tm.flat_len] at hq
  obtain rfl:p = []:=List.length_eq_zero_iff.1 (by omega)
  rw [g1]; exact tree_flat g2
theorem sub_vals {β:Type} {d:β} {alg:S_a → β → β → β} {l:List S_a}:∀ {t:Tm} {i:Nat},Sub l i t → ∀ j,j < t.size → ∃ s,Sub l (i + 1 - t.size + j) s ∧ (t.vals d alg)[j]? = some (s.val d alg) ∧ s.size ≤ t.size
 | .leaf x,i,h,j,hj=>by
  simp [Tm.size] at hj; subst hj
  exact ⟨.leaf x,by simpa [Tm.size] using h,rfl,Nat.le_refl _⟩
 | .one x t,i,h,j,hj=>by
  obtain ⟨_,_,_,_,i',rfl,_,hs⟩:=sub_one h
  have hz:=sub_size hs
  by_cases hjt:j < t.size
  ·obtain ⟨s,g1,g2,g3⟩:=sub_vals (d:=d) (alg:=alg) hs j hjt
   refine ⟨s,?_,by rw [Tm.vals,List.getElem?_append_left (by rw [Tm.vals_len]; exact hjt)]; exact g2,by simp [Tm.size]; omega⟩
   rw [show i' + 1 + 1 - (Tm.one x t).size + j = i' + 1 - t.size + j by simp [Tm.size]]; exact g1
  ·simp [Tm.size] at hj
   obtain rfl:j = t.size:=by omega
   refine ⟨.one x t,?_,Tm.vals_last d alg (.one x t),Nat.le_refl _⟩
   rw [show i' + 1 + 1 - (Tm.one x t).size + t.size = i' + 1 by simp [Tm.size]; omega]; exact h
 | .two x a b,i,h,j,hj=>by
  obtain ⟨_,_,_,i',m,rfl,_,hb,hm,_,ha⟩:=sub_two h
  have hza:=sub_size ha
  have hzb:=sub_size hb
  by_cases hja:j < a.size
  ·obtain ⟨s,g1,g2,g3⟩:=sub_vals (d:=d) (alg:=alg) ha j hja
   refine ⟨s,?_,by rw [Tm.vals,List.append_assoc,List.getElem?_append_left (by rw [Tm.vals_len]; exact hja)]; exact g2,by simp [Tm.size]; omega⟩
   rw [show i' + 1 + 1 - (Tm.two x a b).size + j = m + 1 - a.size + j by simp [Tm.size]; omega]; exact g1
  ·by_cases hjb:j < a.size + b.size
   ·obtain ⟨s,g1,g2,g3⟩:=sub_vals (d:=d) (alg:=alg) hb (j - a.size) (by omega)
    refine ⟨s,?_,by rw [Tm.vals,List.getElem?_append_left (by simp [Tm.vals_len]; omega),List.getElem?_append_right (by rw [Tm.vals_len]; omega),Tm.vals_len]; exact g2,by simp [Tm.size]; omega⟩
    rw [show i' + 1 + 1 - (Tm.two x a b).size + j = i' + 1 - b.size + (j - a.size) by simp [Tm.size]; omega]; exact g1
   ·simp [Tm.size] at hj
    obtain rfl:j = a.size + b.size:=by omega
    refine ⟨.two x a b,?_,Tm.vals_last d alg (.two x a b),Nat.le_refl _⟩
    rw [show i' + 1 + 1 - (Tm.two x a b).size + (a.size + b.size) = i' + 1 by simp [Tm.size]; omega]; exact h
section
variable {l:List S_a}
theorem rnth {i:Nat} {x:S_a} (h:l[i]? = some x):Sl.nth (some (l.map refN)) i = refN x:=nth_l (by simp [Sl.l,h])
theorem rck {i:Nat} (h:i < l.length):ck (Sl.l (some (l.map refN))).length (i:Int) = some i:=ck_ok (by simpa [Sl.l] using h)
theorem size_neg {n:Nat} {y:Sl S_b} (h:1 ≤ n):m_bZ n y (-1) = some 0:=by
 obtain ⟨n,rfl⟩:∃ m,n = m + 1:=⟨n - 1,by omega⟩
 rfl
theorem rsize_ok (hl:l.length ≤ 500):∀ (i n:Nat),i < l.length → i + 4 ≤ n → ∃ s:Nat,m_bZ n (some (l.map refN)) (i:Int) = some (s:Int) ∧ ((∃ t,Sub l i t ∧ s = t.size) ∨ (s = 0 ∧ ∀ t,¬ Sub l i t)):=by
 intro i
 induction i using Nat.strongRecOn with
 | _ i ih =>
  intro n hi hn
  obtain ⟨n,rfl⟩:∃ m,n = m + 1:=⟨n - 1,by omega⟩
  have hx:=List.getElem?_eq_getElem hi
  generalize l[i] = x at hx
  have root:∀ t,Sub l i t → (∃ y,t = .leaf y ∧ y = x) ∨ (∃ y s,t = .one y s ∧ y = x) ∨ (∃ y a b,t = .two y a b ∧ y = x):=fun t ht=>by
   cases t with
   | leaf y=>have:=(sub_leaf ht).1; rw [hx] at this; injection this with this; exact .inl ⟨y,rfl,this.symm⟩
   | one y s=>have:=(sub_one ht).1; rw [hx] at this; injection this with this; exact .inr (.inl ⟨y,s,rfl,this.symm⟩)
   | two y a b=>have:=(sub_two ht).1; rw [hx] at this; injection this with this; exact .inr (.inr ⟨y,a,b,rfl,this.symm⟩)
  simp only [m_bZ,b_dB]
  rw [cfl (df (by omega)),rck hi,Option.bind_some,rnth hx,rfits_ok x (by omega),Option.bind_some,Option.bind_some]
  cases hf:fitsB x with
  | false =>
   refine ⟨0,rfl,.inr ⟨rfl,fun t ht=>?_⟩⟩
   rcases root t ht with ⟨y,rfl,rfl⟩ | ⟨y,s,rfl,rfl⟩ | ⟨y,a,b,rfl,rfl⟩
   ·have:=(sub_leaf ht).2.1; rw [hf] at this; cases this
   ·have:=(sub_one ht).2.1; rw [hf] at this; cases this
   ·have:=(sub_two ht).2.1; rw [hf] at this; cases this
  | true =>
   rw [Bool.not_true,cond_false,Option.bind_some,rnth hx,rkids_ok _ (by omega),Option.bind_some]
   have rA:(refN x).f_A = x.f_A:=rfl
   have rB:(refN x).f_B = x.f_B:=rfl
   have rK:(refN x).f_Kind = x.f_Kind:=rfl
   rw [rA,rB,rK]
   rcases kd_le x.f_Kind with h0 | h1 | h2
   ·rw [h0,ct (dt (by omega))]
    by_cases hc:x.f_A = 0 ∧ x.f_B = 0
    ·rw [cfl (by rw [dt hc.1,dt hc.2]; rfl)]
     exact ⟨1,rfl,.inl ⟨.leaf x,sub_leaf' hx hf h0 hc.1 hc.2,rfl⟩⟩
    ·rw [ct (by simp only [Bool.or_eq_true,Bool.not_eq_true',decide_eq_false_iff_not]; omega)]
     refine ⟨0,rfl,.inr ⟨rfl,fun t ht=>?_⟩⟩
     rcases root t ht with ⟨y,rfl,rfl⟩ | ⟨y,s,rfl,rfl⟩ | ⟨y,a,b,rfl,rfl⟩
     ·exact hc (sub_leaf ht).2.2.2
     ·have:=(sub_one ht).2.2.1; omega
     ·have:=(sub_two ht).2.2.1; omega
   ·rw [h1,cfl (df (by omega)),w64 (by omega) (by omega)]
    cases i with
    | zero =>
     rw [show ((0:Nat):Int) - 1 = -1 from rfl,size_neg (by omega),Option.bind_some,ct (dt (by omega))]
     refine ⟨0,rfl,.inr ⟨rfl,fun t ht=>?_⟩⟩
     rcases root t ht with ⟨y,rfl,rfl⟩ | ⟨y,s,rfl,rfl⟩ | ⟨y,a,b,rfl,rfl⟩
     ·have:=(sub_leaf ht).2.2.1; omega
     ·obtain ⟨_,_,_,_,j,hj,_⟩:=sub_one ht; omega
     ·have:=(sub_two ht).2.2.1; omega
    | succ i =>
     obtain ⟨s,g1,g2⟩:=ih i (by omega) n (by omega) (by omega)
     rw [show ((i + 1:Nat):Int) - 1 = (i:Int) by omega,g1,Option.bind_some]
     rcases g2 with ⟨t,ht,rfl⟩ | ⟨rfl,hno⟩
     ·have hp:=t.pos
      have hz:=sub_size ht
      rw [cfl (df (by omega)),ct (dt (by omega))]
      by_cases hc:x.f_A = (i:Int) ∧ x.f_B = 0
      ·rw [cfl (by rw [dt hc.1,dt hc.2]; rfl),w64 (by omega) (by omega)]
       exact ⟨t.size + 1,rfl,.inl ⟨.one x t,sub_one' hx hf h1 hc.1 hc.2 ht,rfl⟩⟩
      ·rw [ct (by simp only [Bool.or_eq_true,Bool.not_eq_true',decide_eq_false_iff_not]; omega)]
       refine ⟨0,rfl,.inr ⟨rfl,fun t' ht'=>?_⟩⟩
       rcases root t' ht' with ⟨y,rfl,rfl⟩ | ⟨y,s,rfl,rfl⟩ | ⟨y,a,b,rfl,rfl⟩
       ·have:=(sub_leaf ht').2.2.1; omega
       ·obtain ⟨_,_,_,hB,j,hj,hA,_⟩:=sub_one ht'; exact hc ⟨by rw [hA]; omega,hB⟩
       ·have:=(sub_two ht').2.2.1; omega
     ·rw [ct (dt (by omega))]
      refine ⟨0,rfl,.inr ⟨rfl,fun t' ht'=>?_⟩⟩
      rcases root t' ht' with ⟨y,rfl,rfl⟩ | ⟨y,s,rfl,rfl⟩ | ⟨y,a,b,rfl,rfl⟩
      ·have:=(sub_leaf ht').2.2.1; omega
      ·obtain ⟨_,_,_,hB,j,hj,hA,hs⟩:=sub_one ht'
       obtain rfl:j = i:=by omega
       exact hno s hs
      ·have:=(sub_two ht').2.2.1; omega
   ·rw [h2,cfl (df (by omega)),w64 (by omega) (by omega)]
    cases i with
    | zero =>
     rw [show ((0:Nat):Int) - 1 = -1 from rfl,size_neg (by omega),Option.bind_some,ct (dt (by omega))]
     refine ⟨0,rfl,.inr ⟨rfl,fun t ht=>?_⟩⟩
     rcases root t ht with ⟨y,rfl,rfl⟩ | ⟨y,s,rfl,rfl⟩ | ⟨y,a,b,rfl,rfl⟩
     ·have:=(sub_leaf ht).2.2.1; omega
     ·have:=(sub_one ht).2.2.1; omega
     ·obtain ⟨_,_,_,j,m,hj,_⟩:=sub_two ht; omega
    | succ i =>
     obtain ⟨s,g1,g2⟩:=ih i (by omega) n (by omega) (by omega)
     rw [show ((i + 1:Nat):Int) - 1 = (i:Int) by omega,g1,Option.bind_some]
     rcases g2 with ⟨t,ht,rfl⟩ | ⟨rfl,hno⟩
     ·have hp:=t.pos
      have hz:=sub_size ht
      rw [cfl (df (by omega)),cfl (df (by omega)),w64 (n:=(i:Int) - t.size) (by omega) (by omega)]
      have two:∀ t',Sub l (i + 1) t' → ∃ m a,t' = .two x a t ∧ i = m + t.size ∧ x.f_A = (m:Int) ∧ x.f_B = (i:Int) ∧ Sub l m a:=fun t' ht'=>by
       rcases root t' ht' with ⟨y,rfl,rfl⟩ | ⟨y,s,rfl,rfl⟩ | ⟨y,a,b,rfl,rfl⟩
       ·have:=(sub_leaf ht').2.2.1; omega
       ·have:=(sub_one ht').2.2.1; omega
       ·obtain ⟨_,_,_,j,m,hj,hB,hb,hm,hA,ha⟩:=sub_two ht'
        obtain rfl:j = i:=by omega
        have:=sub_uniq hb ht
        subst this
        exact ⟨m,a,rfl,hm,hA,hB,ha⟩
      by_cases hm:i < t.size
      ·have e:(i:Int) - t.size = -1:=by omega
       rw [e,size_neg (by omega),Option.bind_some,ct (by rw [dt (by omega)]; rfl)]
       refine ⟨0,rfl,.inr ⟨rfl,fun t' ht'=>?_⟩⟩
       obtain ⟨m,a,_,hm',_⟩:=two t' ht'; omega
      ·obtain ⟨m,rfl⟩:∃ m,i = m + t.size:=⟨i - t.size,by omega⟩
       obtain ⟨s,k1,k2⟩:=ih m (by omega) n (by omega) (by omega)
       rw [show ((m + t.size:Nat):Int) - t.size = (m:Int) by omega,k1,Option.bind_some]
       rcases k2 with ⟨a,ha,rfl⟩ | ⟨rfl,hno⟩
       ·have hpa:=a.pos
        have hza:=sub_size ha
        by_cases hc:x.f_A = (m:Int) ∧ x.f_B = ((m + t.size:Nat):Int)
        ·rw [cfl (by rw [df (show ¬ ((a.size:Nat):Int) = 0 by omega),dt hc.1,dt hc.2]; rfl),w64 (n:=(a.size:Int) + t.size) (by omega) (by omega),w64 (by omega) (by omega)]
         exact ⟨a.size + t.size + 1,rfl,.inl ⟨.two x a t,sub_two' hx hf h2 hc.1 hc.2 ha ht,rfl⟩⟩
        ·rw [ct (by simp only [Bool.or_eq_true,Bool.not_eq_true',decide_eq_false_iff_not]; omega)]
         refine ⟨0,rfl,.inr ⟨rfl,fun t' ht'=>?_⟩⟩
         obtain ⟨m',a',_,hm',hA,hB,_⟩:=two t' ht'
         exact hc ⟨by rw [hA]; omega,hB⟩
       ·rw [ct (by rw [dt (by omega)]; rfl)]
        refine ⟨0,rfl,.inr ⟨rfl,fun t' ht'=>?_⟩⟩
        obtain ⟨m',a',_,hm',hA,hB,ha'⟩:=two t' ht'
        obtain rfl:m' = m:=by omega
        exact hno a' ha'
     ·rw [ct (dt (by omega))]
      refine ⟨0,rfl,.inr ⟨rfl,fun t' ht'=>?_⟩⟩
      rcases root t' ht' with ⟨y,rfl,rfl⟩ | ⟨y,s,rfl,rfl⟩ | ⟨y,a,b,rfl,rfl⟩
      ·have:=(sub_leaf ht').2.2.1; omega
      ·have:=(sub_one ht').2.2.1; omega
      ·obtain ⟨_,_,_,j,m,hj,hB,hb,hm,hA,ha⟩:=sub_two ht'
       obtain rfl:j = i:=by omega
       exact hno b hb
theorem rdeep_ok (hl:l.length ≤ 500):∀ (t:Tm) (i n:Nat),Sub l i t → t.size + 2 ≤ n → m_bD n (some (l.map refN)) (i:Int) = some t.dep
 | .leaf x,i,n,h,hn=>by
  obtain ⟨n,rfl⟩:∃ m,n = m + 1:=⟨n - 1,by omega⟩
  obtain ⟨hx,_,h0,_⟩:=sub_leaf h
  obtain ⟨_,p,_,hA⟩:=h
  have rK:(refN x).f_Kind = x.f_Kind:=rfl
  simp only [m_bD,b_cg]
  rw [rck (List.getElem?_eq_some_iff.1 hx).1,Option.bind_some,rnth hx,rkids_ok _ (by simp [Tm.size] at hn; omega),Option.bind_some,rK,h0,ct (dt (by omega)),dep_leaf hA]
 | .one x t,i,n,h,hn=>by
  obtain ⟨n,rfl⟩:∃ m,n = m + 1:=⟨n - 1,by omega⟩
  obtain ⟨hx,_,h0,_,j,hj,hxA,hs⟩:=sub_one h
  have hz:=sub_size h
  have hil:=h.1
  obtain ⟨_,p,_,hA⟩:=h
  obtain ⟨r1,r2,_⟩:=dep_rng hA.1
  have rK:(refN x).f_Kind = x.f_Kind:=rfl
  have rA:(refN x).f_A = x.f_A:=rfl
  simp only [Tm.size] at hn hz
  simp only [m_bD,b_cg]
  rw [rck (List.getElem?_eq_some_iff.1 hx).1,Option.bind_some,rnth hx,rkids_ok _ (by omega),Option.bind_some,rK,rA,h0,cfl (df (by omega)),ct (dt (by omega)),hxA,rdeep_ok hl t j n hs (by omega),Option.bind_some,w64 (by omega) (by omega),dep_one hA]
 | .two x a b,i,n,h,hn=>by
  obtain ⟨n,rfl⟩:∃ m,n = m + 1:=⟨n - 1,by omega⟩
  obtain ⟨hx,_,h0,j,m,hj,hxB,hb,hm,hxA,ha⟩:=sub_two h
  have hz:=sub_size h
  have hil:=h.1
  obtain ⟨_,p,_,hA⟩:=h
  obtain ⟨r1,r2,_⟩:=dep_rng hA.1
  obtain ⟨q1,q2,_⟩:=dep_rng hA.2.1
  have rK:(refN x).f_Kind = x.f_Kind:=rfl
  have rA:(refN x).f_A = x.f_A:=rfl
  have rB:(refN x).f_B = x.f_B:=rfl
  simp only [Tm.size] at hn hz
  simp only [m_bD,b_cg]
  rw [rck (List.getElem?_eq_some_iff.1 hx).1,Option.bind_some,rnth hx,rkids_ok _ (by omega),Option.bind_some,rK,rA,rB,h0,cfl (df (by omega)),cfl (df (by omega)),hxA,rdeep_ok hl a m n ha (by omega),Option.bind_some,hxB,rdeep_ok hl b j n hb (by omega),Option.bind_some,w64 (by omega) (by omega),dep_two hA]
theorem rDeep_ok {n:Nat} (hn:700 ≤ n):m_cU n (some (l.map refN)) = some (deepR l):=by
 obtain ⟨n,rfl⟩:∃ m,n = m + 1:=⟨n - 1,by omega⟩
 have hlen:Sl.len (some (l.map refN)) = (l.length:Int):=by simp [Sl.len,Sl.l]
 simp only [m_cU,b_dE,deepR,hlen]
 by_cases h0:l.length = 0
 ·obtain rfl:=List.length_eq_zero_iff.1 h0
  rfl
 by_cases h1:500 < l.length
 ·rw [ct (by rw [Bool.or_eq_true]; exact .inr (dt (by omega))),Option.bind_some,cond_true,if_pos h1]
 rw [cfl (by rw [df (show ¬ (l.length:Int) = 0 by omega),df (show ¬ (500:Int) < l.length by omega)]; rfl),if_neg h1,w64 (by omega) (by omega),show (l.length:Int) - 1 = ((l.length - 1:Nat):Int) by omega]
 obtain ⟨s,g1,g2⟩:=rsize_ok (l:=l) (by omega) (l.length - 1) n (by omega) (by omega)
 rw [g1,Option.bind_some,Option.bind_some]
 rcases g2 with ⟨t,ht,rfl⟩ | ⟨rfl,hno⟩
 ·by_cases he:t.size = l.length
  ·rw [cfl (by rw [dt (by omega)]; rfl),(tree_sub (t:=t)).2 ⟨he.symm,ht⟩,rdeep_ok (by omega) t _ n ht (by omega)]; rfl
  ·rw [ct (by rw [df (by omega)]; rfl)]
   cases htr:tree l with
   | none=>rfl
   | some t' =>
    obtain ⟨k1,k2⟩:=tree_sub.1 htr
    have:=sub_uniq k2 ht
    subst this; omega
 ·rw [ct (by rw [df (by omega)]; rfl)]
  cases htr:tree l with
  | none=>rfl
  | some t'=>exact (hno t' (tree_sub.1 htr).2).elim
theorem rformed_ok {n:Nat} (hn:800 ≤ n):m_bj n (some (l.map refN)) = some (formedR l):=by
 obtain ⟨n,rfl⟩:∃ m,n = m + 1:=⟨n - 1,by omega⟩
 have hlen:Sl.len (some (l.map refN)) = (l.length:Int):=by simp [Sl.len,Sl.l]
 simp only [m_bj,b_c4,formedR,hlen]
 by_cases h1:500 < l.length
 ·rw [ct (dt (by omega)),if_pos h1]
 ·rw [cfl (df (by omega)),if_neg h1,rDeep_ok (by omega),Option.bind_some,deepR,if_neg h1]
  cases htr:tree l with
  | none=>rfl
  | some t =>
   obtain ⟨r1,r2,_⟩:=dep_rng (tree_some htr).2
   simp only
   rw [cfl (df (by omega))]
   by_cases h4:40 < t.dep
   ·rw [ct (dt h4),if_pos h4]
   ·rw [cfl (df h4),if_neg h4]
end
end Go.Proofs.YtaadjlpfdajggaaGreatDoor

set_option maxRecDepth 100000
set_option linter.unusedVariables false
set_option linter.unusedSimpArgs false
namespace Go.Proofs.YtaadjlpfdajggaaGreatDoor
open Go Go.AM
theorem fits_rep {x:S_a} (h:fitsB x = true) (hk:x.f_Kind = 10):0 ≤ x.f_Min ∧ x.f_Min ≤ 100 ∧ (x.f_Max = -1 ∨ (x.f_Min ≤ x.f_Max ∧ x.f_Max ≤ 100)):=by
 simp [fitsB,hk] at h
 obtain ⟨_,h⟩:=h
 omega
structure LR (v:Int × Int):Prop where
 l0:0 ≤ v.1
 l1:v.1 ≤ 1048576
 h0:-1 ≤ v.2
 h1:v.2 ≤ 1048576
theorem mul_rng {a b:Int} (ha:-1 ≤ a) (ha':a ≤ 1048576) (hb:-1 ≤ b) (hb':b ≤ 100):-104857600 ≤ a * b ∧ a * b ≤ 104857600:=by
 rcases Int.lt_or_le a 0 with h | h
 ·obtain rfl:a = -1:=by omega
  omega
 ·rcases Int.lt_or_le b 0 with h' | h'
  ·obtain rfl:b = -1:=by omega
   omega
  ·have:=Int.mul_le_mul ha' hb' h' (by omega)
   have:=Int.mul_nonneg h h'
   omega
theorem times_rng {a b:Int} (ha:-1 ≤ a) (ha':a ≤ 1048576) (hb:-1 ≤ b) (hb':b ≤ 100):timesI a b = if a = 0 ∨ b = 0 then 0 else if a = -1 ∨ b = -1 then -1 else min (a * b) 1048576:=by
 have:=mul_rng ha ha' hb hb'
 rw [timesI,w64 (by omega) (by omega)]
theorem plus_rng {a b:Int} (ha:-1 ≤ a) (ha':a ≤ 1048576) (hb:-1 ≤ b) (hb':b ≤ 1048576):plusI a b = if a = -1 ∨ b = -1 then -1 else min (a + b) 1048576:=by
 rw [plusI,w64 (by omega) (by omega)]
theorem lr_zero:LR (0,0):=⟨by omega,by omega,by omega,by omega⟩
theorem plus_lr {a b:Int} (ha:-1 ≤ a) (ha':a ≤ 1048576) (hb:-1 ≤ b) (hb':b ≤ 1048576):-1 ≤ plusI a b ∧ plusI a b ≤ 1048576 ∧ (0 ≤ a → 0 ≤ b → 0 ≤ plusI a b):=by
 rw [plus_rng ha ha' hb hb']
 split <;> omega
theorem times_lr {a b:Int} (ha:-1 ≤ a) (ha':a ≤ 1048576) (hb:-1 ≤ b) (hb':b ≤ 100):-1 ≤ timesI a b ∧ timesI a b ≤ 1048576 ∧ (0 ≤ a → 0 ≤ b → 0 ≤ timesI a b):=by
 rw [times_rng ha ha' hb hb']
 have p2:¬ (a = 0 ∨ b = 0) → ¬ (a = -1 ∨ b = -1) → 0 ≤ a * b:=fun h h'=>Int.mul_nonneg (by omega) (by omega)
 generalize a * b = c at p2
 split
 ·omega
 ·rename_i g
  split
  ·omega
  ·rename_i g'
   have:=p2 g g'
   omega
theorem alt_lr {a b:Int} (ha:-1 ≤ a) (ha':a ≤ 1048576) (hb:-1 ≤ b) (hb':b ≤ 1048576):-1 ≤ (if min a b = -1 then -1 else max a b) ∧ (if min a b = -1 then -1 else max a b) ≤ 1048576:=by
 split <;> omega
theorem lr_step {x:S_a} {v w:Int × Int} (hf:fitsB x = true) (hv:LR v) (hw:LR w):LR (lenA x v w):=by
 obtain ⟨a1,a2,a3,a4⟩:=hv
 obtain ⟨b1,b2,b3,b4⟩:=hw
 unfold lenA
 split
 ·exact ⟨by omega,by omega,by omega,by omega⟩
 split
 ·exact ⟨by omega,by omega,by omega,by omega⟩
 split
 ·have h1:=plus_lr (a:=v.1) (b:=w.1) (by omega) a2 (by omega) b2
  have h2:=plus_lr a3 a4 b3 b4
  exact ⟨h1.2.2 a1 b1,h1.2.1,h2.1,h2.2.1⟩
 split
 ·have h2:=alt_lr a3 a4 b3 b4
  exact ⟨by show 0 ≤ min _ _; omega,by show min _ _ ≤ _; omega,h2.1,h2.2⟩
 split
 ·rename_i hk
  obtain ⟨m0,m1,m2⟩:=fits_rep hf hk
  have h1:=times_lr (a:=v.1) (b:=x.f_Min) (by omega) a2 (by omega) m1
  have h2:=times_lr (b:=x.f_Max) a3 a4 (by omega) (by omega)
  exact ⟨h1.2.2 a1 m0,h1.2.1,h2.1,h2.2.1⟩
 split
 ·exact ⟨a1,a2,a3,a4⟩
 ·exact ⟨by omega,by omega,by omega,by omega⟩
theorem lr_tree:∀ {t:Tm} {k:Nat},t.At k → LR (t.val (0,0) lenA)
 | .leaf n,k,h=>lr_step h.1 lr_zero lr_zero
 | .one n t,k,h=>lr_step h.2.1 (lr_tree h.1) lr_zero
 | .two n a b,k,h=>lr_step h.2.2.1 (lr_tree h.1) (lr_tree h.2.1)
theorem rplus_ok {n:Nat} {a b:Int} (hn:1 ≤ n) (ha:-1 ≤ a) (hb:-1 ≤ b):m_cr n a b = some (plusI a b):=by
 obtain ⟨n,rfl⟩:∃ m,n = m + 1:=⟨n - 1,by omega⟩
 simp only [m_cr,b_du,plusI]
 by_cases h:a = -1 ∨ b = -1
 ·rw [ct (by simp only [Bool.or_eq_true,decide_eq_true_eq]; omega),if_pos h]
 ·rw [cfl (by simp only [Bool.or_eq_false_iff,decide_eq_false_iff_not]; omega),if_neg h]
theorem rtimes_ok {n:Nat} {a b:Int} (hn:1 ≤ n) (ha:-1 ≤ a) (hb:-1 ≤ b):m_b5 n a b = some (timesI a b):=by
 obtain ⟨n,rfl⟩:∃ m,n = m + 1:=⟨n - 1,by omega⟩
 simp only [m_b5,b_dj,timesI]
 by_cases h0:a = 0 ∨ b = 0
 ·rw [ct (by simp only [Bool.or_eq_true,decide_eq_true_eq]; omega),if_pos h0]
 ·rw [cfl (by simp only [Bool.or_eq_false_iff,decide_eq_false_iff_not]; omega),if_neg h0]
  by_cases h:a = -1 ∨ b = -1
  ·rw [ct (by simp only [Bool.or_eq_true,decide_eq_true_eq]; omega),if_pos h]
  ·rw [cfl (by simp only [Bool.or_eq_false_iff,decide_eq_false_iff_not]; omega),if_neg h]
theorem sub_at {l:List S_a} {i:Nat} {t:Tm} (h:Sub l i t):∃ k,t.At k:=by obtain ⟨_,p,_,h⟩:=h; exact ⟨_,h⟩
section
variable {l:List S_a}
theorem rlens_ok (hl:l.length ≤ 500):∀ (t:Tm) (i n:Nat),Sub l i t → t.size + 2 ≤ n → m_Y n (some (l.map refN)) (i:Int) = some (t.val (0,0) lenA)
 | .leaf x,i,n,h,hn=>by
  obtain ⟨n,rfl⟩:∃ m,n = m + 1:=⟨n - 1,by omega⟩
  obtain ⟨hx,_,h0,_⟩:=sub_leaf h
  have rK:(refN x).f_Kind = x.f_Kind:=rfl
  simp only [m_Y,b_cp]
  rw [rck (List.getElem?_eq_some_iff.1 hx).1,Option.bind_some,rnth hx,rK]
  simp only [Tm.val,lenA]
  by_cases k1:x.f_Kind = 1
  ·rw [ct (dt k1),if_pos k1]
  rw [cfl (df k1),if_neg k1]
  by_cases k2:x.f_Kind = 12
  ·rw [ct (dt k2),if_pos k2]
  have k3:x.f_Kind ≠ 8:=fun k=>by simp [kd,k] at h0
  have k4:x.f_Kind ≠ 9:=fun k=>by simp [kd,k] at h0
  have k5:x.f_Kind ≠ 10:=fun k=>by simp [kd,k] at h0
  have k6:x.f_Kind ≠ 11:=fun k=>by simp [kd,k] at h0
  have k7:x.f_Kind ≠ 17:=fun k=>by simp [kd,k] at h0
  rw [cfl (df k2),if_neg k2,cfl (df k3),df k4,if_neg k3,if_neg k4,if_neg k5,if_neg (by omega),b_bf,cond_false,cfl (df k5),cfl (df k6),df k7,b_bg,cond_false]
 | .one x t,i,n,h,hn=>by
  obtain ⟨n,rfl⟩:∃ m,n = m + 1:=⟨n - 1,by omega⟩
  obtain ⟨hx,hf,h0,_,j,hj,hxA,hs⟩:=sub_one h
  have rK:(refN x).f_Kind = x.f_Kind:=rfl
  have rA:(refN x).f_A = x.f_A:=rfl
  have rm:(refN x).f_Min = x.f_Min:=rfl
  have rM:(refN x).f_Max = x.f_Max:=rfl
  simp only [Tm.size] at hn
  have ih:=rlens_ok hl t j n hs (by omega)
  obtain ⟨k,hat⟩:=sub_at hs
  have R:=lr_tree hat
  simp only [m_Y,b_cp]
  rw [rck (List.getElem?_eq_some_iff.1 hx).1,Option.bind_some,rnth hx,rK]
  simp only [Tm.val,lenA]
  have k1:x.f_Kind ≠ 1:=fun k=>by simp [kd,k] at h0
  have k2:x.f_Kind ≠ 12:=fun k=>by simp [kd,k] at h0
  have k3:x.f_Kind ≠ 8:=fun k=>by simp [kd,k] at h0
  have k4:x.f_Kind ≠ 9:=fun k=>by simp [kd,k] at h0
  rw [cfl (df k1),if_neg k1,cfl (df k2),if_neg k2,cfl (df k3),df k4,if_neg k3,if_neg k4,b_bf,cond_false]
  by_cases k5:x.f_Kind = 10
  ·obtain ⟨m0,m1,m2⟩:=fits_rep hf k5
   have g1:=R.l0
   have g2:=R.h0
   rw [ct (dt k5),if_pos k5,rA,hxA,ih,Option.bind_some,rm,rtimes_ok (by omega) (by omega) (by omega),Option.bind_some,rM,rtimes_ok (by omega) g2 (by omega),Option.bind_some]
  rw [cfl (df k5),if_neg k5]
  by_cases k6:x.f_Kind = 11 ∨ x.f_Kind = 17
  ·rw [if_pos k6]
   by_cases k7:x.f_Kind = 11
   ·rw [ct (dt k7),dt k7,b_bg,cond_true,rA,hxA,ih,Option.bind_some]
   ·rw [cfl (df k7),dt (k6.resolve_left k7),b_bg,cond_true,rA,hxA,ih,Option.bind_some]
  ·rw [if_neg k6,cfl (df fun k=>k6 (.inl k)),df fun k=>k6 (.inr k),b_bg,cond_false]
 | .two x a b,i,n,h,hn=>by
  obtain ⟨n,rfl⟩:∃ m,n = m + 1:=⟨n - 1,by omega⟩
  obtain ⟨hx,_,h0,j,m,hj,hxB,hb,hm,hxA,ha⟩:=sub_two h
  have rK:(refN x).f_Kind = x.f_Kind:=rfl
  have rA:(refN x).f_A = x.f_A:=rfl
  have rB:(refN x).f_B = x.f_B:=rfl
  simp only [Tm.size] at hn
  have ih1:=rlens_ok hl a m n ha (by omega)
  have ih2:=rlens_ok hl b j n hb (by omega)
  obtain ⟨k,hat⟩:=sub_at ha
  obtain ⟨k',hbt⟩:=sub_at hb
  have R:=lr_tree hat
  have R':=lr_tree hbt
  have g1:=R.l0
  have g2:=R.h0
  have g3:=R'.l0
  have g4:=R'.h0
  simp only [m_Y,b_cp]
  rw [rck (List.getElem?_eq_some_iff.1 hx).1,Option.bind_some,rnth hx,rK]
  simp only [Tm.val,lenA]
  have k1:x.f_Kind ≠ 1:=fun k=>by simp [kd,k] at h0
  have k2:x.f_Kind ≠ 12:=fun k=>by simp [kd,k] at h0
  have k89:x.f_Kind = 8 ∨ x.f_Kind = 9:=by
   unfold kd at h0
   split at h0
   ·assumption
   ·split at h0 <;> omega
  have fin:b_bf (m_Y n) (m_cr n) (m_b5 n) n (some (l.map refN)) (refN x) x.f_Kind true = some (if x.f_Kind = 8 then (plusI (a.val (0,0) lenA).1 (b.val (0,0) lenA).1,plusI (a.val (0,0) lenA).2 (b.val (0,0) lenA).2) else (min (a.val (0,0) lenA).1 (b.val (0,0) lenA).1,if min (a.val (0,0) lenA).2 (b.val (0,0) lenA).2 = -1 then -1 else max (a.val (0,0) lenA).2 (b.val (0,0) lenA).2)):=by
   rw [b_bf,cond_true,rA,hxA,ih1,Option.bind_some,rB,hxB,ih2,Option.bind_some,rK]
   by_cases k3:x.f_Kind = 8
   ·rw [ct (dt k3),if_pos k3,rplus_ok (by omega) (by omega) (by omega),Option.bind_some,rplus_ok (by omega) g2 g4,Option.bind_some]
   ·rw [cfl (df k3),if_neg k3]
    by_cases hm:min (a.val (0,0) lenA).2 (b.val (0,0) lenA).2 = -1
    ·rw [ct (by simp only [Bool.or_eq_true,decide_eq_true_eq]; omega),if_pos hm]
    ·rw [cfl (by simp only [Bool.or_eq_false_iff,decide_eq_false_iff_not]; omega),if_neg hm]
  rw [cfl (df k1),if_neg k1,cfl (df k2),if_neg k2]
  by_cases k3:x.f_Kind = 8
  ·rw [ct (dt k3),dt k3,fin,if_pos k3,if_pos k3]
  ·have k4:=k89.resolve_left k3
   rw [cfl (df k3),dt k4,fin,if_neg k3,if_neg k3,if_pos k4]
end
def grp1 (x:S_a) (n:List Int):List Int:=if x.f_Kind = 11 then n else []
def numT:Tm → List Int
 | .leaf x=>grp1 x [x.f_N]
 | .one x t=>grp1 x [x.f_N] ++ numT t
 | .two x a b=>grp1 x [x.f_N] ++ numT a ++ numT b
theorem grp1_len (x:S_a) (n:Int):(grp1 x [n]).length ≤ 1:=by unfold grp1; split <;> simp
theorem numT_len:∀ t:Tm,(numT t).length ≤ t.size
 | .leaf x=>by have:=grp1_len x x.f_N; simp [numT,Tm.size]; omega
 | .one x t=>by have:=grp1_len x x.f_N; have:=numT_len t; simp [numT,Tm.size]; omega
 | .two x a b=>by have:=grp1_len x x.f_N; have:=numT_len a; have:=numT_len b; simp [numT,Tm.size]; omega
theorem app_some {a b:List Int} (h:a.length + b.length ≤ 2000):Sl.app 8 (some a) (some b) = some (some (a ++ b)):=by
 have hr2:(8000000:Nat) ≤ roomMost:=Nat.le_of_ble_eq_true rfl
 unfold Sl.app
 show (if b.length = 0 then some (some a) else if (a.length + b.length) * 8 ≤ roomMost then some (some (a ++ b)) else none) = _
 by_cases h0:b.length = 0
 ·rw [if_pos h0,List.length_eq_zero_iff.1 h0,List.append_nil]
 ·rw [if_neg h0,if_pos (by omega)]
section
variable {l:List S_a}
theorem rnum_ok (hl:l.length ≤ 500):∀ (t:Tm) (i n:Nat),Sub l i t → t.size + 2 ≤ n → m_H n (some (l.map refN)) (i:Int) = some (some (numT t)):=by
 intro t
 induction t with
 | leaf x =>
  intro i n h hn
  obtain ⟨n,rfl⟩:∃ m,n = m + 1:=⟨n - 1,by omega⟩
  obtain ⟨hx,_,h0,_⟩:=sub_leaf h
  have rK:(refN x).f_Kind = x.f_Kind:=rfl
  have hi:=(List.getElem?_eq_some_iff.1 hx).1
  simp only [Tm.size] at hn
  have k6:x.f_Kind ≠ 11:=fun k=>by simp [kd,k] at h0
  simp only [m_H,b_bF]
  rw [rck hi,Option.bind_some,rnth hx,rK,cfl (df k6),b_0,rck hi,Option.bind_some,rnth hx,rK,rkids_ok _ (by omega),Option.bind_some,h0,cfl (df (by omega)),b_8,cfl (df (by omega)),b_7]
  simp [numT,grp1,k6]
 | one x t ih =>
  intro i n h hn
  obtain ⟨n,rfl⟩:∃ m,n = m + 1:=⟨n - 1,by omega⟩
  obtain ⟨hx,_,h0,_,j,hj,hxA,hs⟩:=sub_one h
  have rK:(refN x).f_Kind = x.f_Kind:=rfl
  have rA:(refN x).f_A = x.f_A:=rfl
  have rN:(refN x).f_N = x.f_N:=rfl
  have hi:=(List.getElem?_eq_some_iff.1 hx).1
  have hz:=sub_size h
  simp only [Tm.size] at hn hz
  have ih':=ih j n hs (by omega)
  have hle:=numT_len t
  have fin:∀ g:List Int,g.length ≤ 1 → b_0 (m_H n) (m_bs n) n (some (l.map refN)) (i:Int) (some g) = some (some (g ++ numT t)):=fun g hg=>by
   rw [b_0,rck hi,Option.bind_some,rnth hx,rK,rkids_ok _ (by omega),Option.bind_some,h0,ct (dt (by omega)),rA,hxA,ih',Option.bind_some,app_some (by omega),Option.bind_some,b_8,cfl (df (by omega)),b_7]
  simp only [m_H,b_bF]
  rw [rck hi,Option.bind_some,rnth hx,rK]
  by_cases k6:x.f_Kind = 11
  ·rw [ct (dt k6),rN,app_some (by simp),Option.bind_some,List.nil_append,fin _ (by simp)]
   simp [numT,grp1,k6]
  ·rw [cfl (df k6),fin _ (by simp)]
   simp [numT,grp1,k6]
 | two x a b iha ihb =>
  intro i n h hn
  obtain ⟨n,rfl⟩:∃ m,n = m + 1:=⟨n - 1,by omega⟩
  obtain ⟨hx,_,h0,j,m,hj,hxB,hb,hm,hxA,ha⟩:=sub_two h
  have rK:(refN x).f_Kind = x.f_Kind:=rfl
  have rA:(refN x).f_A = x.f_A:=rfl
  have rB:(refN x).f_B = x.f_B:=rfl
  have hi:=(List.getElem?_eq_some_iff.1 hx).1
  have hz:=sub_size h
  simp only [Tm.size] at hn hz
  have ih1:=iha m n ha (by omega)
  have ih2:=ihb j n hb (by omega)
  have hle:=numT_len a
  have hle2:=numT_len b
  have k6:x.f_Kind ≠ 11:=fun k=>by simp [kd,k] at h0
  simp only [m_H,b_bF]
  rw [rck hi,Option.bind_some,rnth hx,rK,cfl (df k6),b_0,rck hi,Option.bind_some,rnth hx,rK,rkids_ok _ (by omega),Option.bind_some,h0,ct (dt (by omega)),rA,hxA,ih1,Option.bind_some,app_some (by simp; omega),Option.bind_some,List.nil_append,b_8,ct (dt (by omega)),rck hi,Option.bind_some,rnth hx,rB,hxB,ih2,Option.bind_some,app_some (by omega),Option.bind_some,b_7]
  simp [numT,grp1,k6]
end
def preI (k:Nat):Tm → List Int
 | .leaf x=>grp1 x [(k:Int)]
 | .one x t=>grp1 x [((k + t.size:Nat):Int)] ++ preI k t
 | .two x a b=>grp1 x [((k + a.size + b.size:Nat):Int)] ++ preI k a ++ preI (k + a.size) b
theorem grp1_map (x:S_a) (a:Int) (f:Int → Int):(grp1 x [a]).map f = grp1 x [f a]:=by unfold grp1; split <;> rfl
theorem mem_grp1 {x:S_a} {a y:Int} (h:y ∈ grp1 x [a]):y = a:=by unfold grp1 at h; split at h <;> simp at h; exact h
theorem gix_app2 {l1 l2:List S_a}:∀ {i:Nat},gix i (l1 ++ l2) = gix i l1 ++ gix (i + l1.length) l2:=by
 induction l1 with
 | nil=>intro i; simp [gix]
 | cons y l ih =>
  intro i
  rw [List.cons_append,gix,gix,ih]
  have e:i + 1 + l.length = i + (y :: l).length:=by simp; omega
  split <;> simp [e]
theorem gix_one {i:Nat} {x:S_a}:gix i [x] = grp1 x [(i:Int)]:=by simp [gix,grp1]
theorem pre_perm:∀ (t:Tm) (k:Nat),(gix k t.flat).Perm (preI k t)
 | .leaf x,k=>by rw [Tm.flat,gix_one]; exact .refl _
 | .one x t,k=>by
  rw [Tm.flat,gix_app2,gix_one,Tm.flat_len]
  exact List.perm_append_comm.trans ((pre_perm t k).append_left _)
 | .two x a b,k=>by
  rw [Tm.flat,gix_app2,gix_app2,gix_one,List.length_append,Tm.flat_len,Tm.flat_len,← Nat.add_assoc]
  refine List.perm_append_comm.trans ?_
  rw [preI,List.append_assoc]
  exact (((pre_perm a k).append (pre_perm b (k + a.size)))).append_left _
theorem pre_rng:∀ {t:Tm} {k:Nat},∀ y ∈ preI k t,(k:Int) ≤ y ∧ y < k + t.size
 | .leaf x,k=>fun y hy=>by have:=mem_grp1 hy; simp [Tm.size]; omega
 | .one x t,k=>fun y hy=>by
  rcases List.mem_append.1 hy with hy | hy
  ·have:=mem_grp1 hy; simp [Tm.size]; omega
  ·have:=pre_rng y hy; simp [Tm.size]; omega
 | .two x a b,k=>fun y hy=>by
  rcases List.mem_append.1 hy with hy | hy
  ·rcases List.mem_append.1 hy with hy | hy
   ·have:=mem_grp1 hy; simp [Tm.size]; omega
   ·have:=pre_rng y hy; simp [Tm.size]; omega
  ·have:=pre_rng y hy; simp [Tm.size]; omega
def SegS (sz:List Int) (k:Nat) (t:Tm):Prop:=∀ j,j < t.size → (t.szs)[j]? = some (szAt sz ((k + j:Nat):Int))
theorem seg_one {sz:List Int} {k:Nat} {x:S_a} {t:Tm} (h:SegS sz k (.one x t)):SegS sz k t ∧ szAt sz ((k + t.size:Nat):Int) = t.size + 1:=by
 constructor
 ·intro j hj
  have:=h j (by simp [Tm.size]; omega)
  change (t.szs ++ [_])[j]? = _ at this
  rw [List.getElem?_append_left (by rw [Tm.vals_len]; exact hj)] at this
  exact this
 ·have:=h t.size (by simp [Tm.size])
  have e:=Tm.vals_last 0 szA (.one x t)
  simp only [Tm.size,Nat.add_sub_cancel] at e
  change (Tm.one x t).szs[t.size]? = _ at e
  rw [this,Tm.sz_val] at e
  injection e
theorem seg_two {sz:List Int} {k:Nat} {x:S_a} {a b:Tm} (h:SegS sz k (.two x a b)):SegS sz k a ∧ SegS sz (k + a.size) b ∧ szAt sz ((k + a.size + b.size:Nat):Int) = a.size + b.size + 1:=by
 refine ⟨fun j hj=>?_,fun j hj=>?_,?_⟩
 ·have:=h j (by simp [Tm.size]; omega)
  change (a.szs ++ b.szs ++ [_])[j]? = _ at this
  rw [List.append_assoc,List.getElem?_append_left (by rw [Tm.vals_len]; exact hj)] at this
  exact this
 ·have:=h (a.size + j) (by simp [Tm.size]; omega)
  change (a.szs ++ b.szs ++ [_])[a.size + j]? = _ at this
  rw [List.getElem?_append_left (by simp [Tm.vals_len]; omega),List.getElem?_append_right (by rw [Tm.vals_len]; omega),Tm.vals_len,Nat.add_sub_cancel_left,← Nat.add_assoc] at this
  exact this
 ·have:=h (a.size + b.size) (by simp [Tm.size])
  have e:=Tm.vals_last 0 szA (.two x a b)
  simp only [Tm.size,Nat.add_sub_cancel] at e
  change (Tm.two x a b).szs[a.size + b.size]? = _ at e
  rw [this,Tm.sz_val] at e
  injection e with e
  rw [← Nat.add_assoc] at e
  exact e
def ltS (sz:List Int) (x y:Int):Prop:=x - szAt sz x < y - szAt sz y ∨ (x - szAt sz x = y - szAt sz y ∧ szAt sz y < szAt sz x)
theorem pre_in {sz:List Int}:∀ {t:Tm} {k:Nat},SegS sz k t → ∀ y ∈ preI k t,(k:Int) ≤ y - szAt sz y + 1 ∧ 1 ≤ szAt sz y ∧ szAt sz y ≤ t.size
 | .leaf x,k,h=>fun y hy=>by
  have:=mem_grp1 hy
  have e:=h 0 (by simp [Tm.size])
  simp [Tm.vals,szA] at e
  subst this
  rw [← e]; simp [Tm.size]
 | .one x t,k,h=>fun y hy=>by
  obtain ⟨h1,h2⟩:=seg_one h
  rcases List.mem_append.1 hy with hy | hy
  ·have:=mem_grp1 hy; subst this; rw [h2]; simp [Tm.size]; omega
  ·have:=pre_in h1 y hy; simp [Tm.size]; omega
 | .two x a b,k,h=>fun y hy=>by
  obtain ⟨h1,h2,h3⟩:=seg_two h
  rcases List.mem_append.1 hy with hy | hy
  ·rcases List.mem_append.1 hy with hy | hy
   ·have:=mem_grp1 hy; subst this; rw [h3]; simp [Tm.size]; omega
   ·have:=pre_in h1 y hy; simp [Tm.size]; omega
  ·have:=pre_in h2 y hy; simp [Tm.size]; omega
theorem pre_sorted {sz:List Int}:∀ {t:Tm} {k:Nat},SegS sz k t → (preI k t).Pairwise (ltS sz)
 | .leaf x,k,h=>by unfold preI grp1; split <;> simp
 | .one x t,k,h=>by
  obtain ⟨h1,h2⟩:=seg_one h
  rw [preI,List.pairwise_append]
  refine ⟨by unfold grp1; split <;> simp,pre_sorted h1,fun r hr y hy=>?_⟩
  have:=mem_grp1 hr
  have g:=pre_in h1 y hy
  subst this
  unfold ltS
  rw [h2]
  omega
 | .two x a b,k,h=>by
  obtain ⟨h1,h2,h3⟩:=seg_two h
  rw [preI,List.append_assoc,List.pairwise_append]
  refine ⟨by unfold grp1; split <;> simp,?_,fun r hr y hy=>?_⟩
  ·rw [List.pairwise_append]
   refine ⟨pre_sorted h1,pre_sorted h2,fun u hu y hy=>?_⟩
   have g1:=pre_in h1 u hu
   have g2:=pre_in h2 y hy
   have g3:=pre_rng u hu
   unfold ltS
   omega
  ·have:=mem_grp1 hr
   subst this
   unfold ltS
   rw [h3]
   rcases List.mem_append.1 hy with hy | hy
   ·have g:=pre_in h1 y hy; omega
   ·have g:=pre_in h2 y hy; omega
theorem srt_pre (t:Tm):srt (cfG t.szs) (gix 0 t.flat) = preI 0 t:=by
 have hseg:SegS t.szs 0 t:=fun j hj=>by
  have hj':j < t.szs.length:=by rw [Tm.vals_len]; exact hj
  simp [szAt,List.getD,hj']
 refine List.Perm.eq_of_pairwise (le:=fun x y=>(!ltC (cfG t.szs) y x) = true) (fun a b _ _ h1 h2=>?_) ?_ ?_ ((List.mergeSort_perm _ _).trans (pre_perm t 0))
 ·rw [Bool.not_eq_true',ltG'] at h1 h2
  omega
 ·refine List.pairwise_mergeSort (fun a b c h1 h2=>?_) (fun a b=>?_) _
  ·rw [Bool.not_eq_true',ltG'] at *
   omega
  ·rw [Bool.or_eq_true,Bool.not_eq_true',Bool.not_eq_true',ltG',ltG']
   omega
 ·refine (pre_sorted hseg).imp fun {a b} h=>?_
  rw [Bool.not_eq_true',ltG']
  unfold ltS at h
  omega
theorem pre_num:∀ (t:Tm) (p q:List S_a),(preI p.length t).map (fun i=>((p ++ t.flat ++ q).getD i.toNat default).f_N) = numT t
 | .leaf x,p,q=>by
  rw [preI,numT,grp1_map]
  congr 2
  simp [Tm.flat,List.getD]
 | .one x t,p,q=>by
  have ih:=pre_num t p ([x] ++ q)
  rw [preI,numT,List.map_append,grp1_map]
  have e:p ++ (Tm.one x t).flat ++ q = p ++ t.flat ++ ([x] ++ q):=by simp [Tm.flat]
  rw [e,ih]
  congr 3
  simp only [List.getD]
  rw [Int.toNat_natCast,List.getElem?_append_right (by simp [Tm.flat_len]),List.length_append,Tm.flat_len,Nat.sub_self]
  rfl
 | .two x a b,p,q=>by
  have ih1:=pre_num a p (b.flat ++ [x] ++ q)
  have ih2:=pre_num b (p ++ a.flat) ([x] ++ q)
  rw [preI,numT,List.map_append,List.map_append,grp1_map]
  have e:p ++ (Tm.two x a b).flat ++ q = p ++ a.flat ++ (b.flat ++ [x] ++ q):=by simp [Tm.flat]
  have e2:p ++ (Tm.two x a b).flat ++ q = p ++ a.flat ++ b.flat ++ ([x] ++ q):=by simp [Tm.flat]
  rw [List.length_append,Tm.flat_len] at ih2
  conv=>lhs; arg 2; rw [e2]
  rw [ih2]
  congr 1
  conv=>lhs; arg 2; rw [e]
  rw [ih1]
  congr 3
  rw [e2]
  simp only [List.getD]
  rw [Int.toNat_natCast,List.getElem?_append_right (by simp [Tm.flat_len]; omega)]
  simp [Tm.flat_len]
  rw [show p.length + a.size + b.size - (p.length + (a.size + b.size)) = 0 by omega]; rfl
def numsOk:List Int → Int → Bool
 | [],_=>true
 | a :: S,k=>decide (a = k + 1) && numsOk S (k + 1)
theorem numOk_map {l:List S_a}:∀ (S:List Int) (k:Int),numOk l S k = numsOk (S.map fun i=>(l.getD i.toNat default).f_N) k
 | [],k=>rfl
 | i :: S,k=>by rw [numOk,List.map_cons,numsOk,numOk_map S]
theorem grouped_num (t:Tm):groupedR t.flat t.szs = (numsOk (numT t) 0 && (decide ((numT t).length ≤ 9) && !t.flat.any (oddB (numT t).length))):=by
 have h:=pre_num t [] []
 simp only [List.nil_append,List.append_nil,List.length_nil] at h
 have hl:(gix 0 t.flat).length = (numT t).length:=by rw [(pre_perm t 0).length_eq,← h,List.length_map]
 rw [groupedR,srt_pre,numOk_map,h,hl]
end Go.Proofs.YtaadjlpfdajggaaGreatDoor

set_option maxRecDepth 100000
set_option linter.unusedVariables false
set_option linter.unusedSimpArgs false
namespace Go.Proofs.YtaadjlpfdajggaaGreatDoor
open Go Go.AM
open Classical in
noncomputable def rightR (l:List S_a):Int :=
 if formedR l = 0 then (match tree l with | none=>0 | some t=>if groupedR l t.szs = true then (if BehOk t then 0 else 7) else 6) else formedR l
theorem formed_tree {l:List S_a} (h:formedR l = 0):∃ t,tree l = some t ∧ t.size ≤ 500 ∧ t.dep ≤ 40:=by
 unfold formedR at h
 split at h
 ·cases h
 rename_i hN
 cases ht:tree l with
 | none=>rw [ht] at h; cases h
 | some t =>
  rw [ht] at h
  simp only at h
  have hl:=(tree_some ht).1
  refine ⟨t,rfl,by rw [hl,Tm.flat_len] at hN; omega,?_⟩
  by_cases h4:40 < t.dep
  ·rw [if_pos h4] at h; cases h
  ·omega
theorem right_eq {n:Nat} {x0:Sl S_a} (hn:1300 ≤ n):m_bm n x0 = some (rightR (Sl.l x0)):=by
 obtain ⟨n,rfl⟩:∃ m,n = m + 1:=⟨n - 1,by omega⟩
 simp only [m_bm,b_dW]
 rw [formed_ok (by omega),Option.bind_some]
 unfold rightR
 by_cases hf:formedR (Sl.l x0) = 0
 ·rw [cfl (by rw [dt hf]; rfl),if_pos hf]
  obtain ⟨t,ht,hs,hd⟩:=formed_tree hf
  obtain ⟨hl,hA⟩:=tree_some ht
  have hN:(Sl.l x0).length ≤ 500:=by rw [hl,Tm.flat_len]; exact hs
  rw [ht,grouped_ok (by omega) hN ht,Option.bind_some]
  cases hg:groupedR (Sl.l x0) t.szs with
  | false=>simp only [hg]; rfl
  | true =>
   rw [Bool.not_true,cond_false,lens_ok (by omega) hN ht,Option.bind_some]
   obtain ⟨r,h1,h2,h3⟩:=right_loop (n:=n) (x0:=x0) (c1:=m_cn n) (c2:=m_c0 n) (c3:=m_b8 n) hl hA hs t.size n 0 (by omega) (by omega)
   have e:r = 0 ↔ BehOk t:=h3.trans ⟨fun h i x=>h i x (by omega),fun h i x _=>h i x⟩
   refine h1.trans ?_
   simp only [hg,if_true]
   by_cases hb:BehOk t
   ·rw [if_pos hb,e.2 hb]
   ·rw [if_neg hb]
    rcases h2 with h2 | h2
    ·exact (hb (e.1 h2)).elim
    ·rw [h2]
 ·rw [ct (by rw [df hf]; rfl),if_neg hf]
section
variable {n:Nat} {l:List S_a} {c1:T_bh} {c2:T_D} {c3:T_W}
theorem r1_loop {g:List Int} (hg:g.length ≤ 500):∀ (d fuel i:Nat),i + d = g.length → d < fuel →
  b_bo c1 c2 c3 n (some (l.map refN)) fuel (some g) (i:Int) = if numsOk (g.drop i) i = true then b_9 c1 c2 c3 n (some (l.map refN)) n (some g) 0 else some 6:=by
 intro d
 induction d with
 | zero =>
  intro fuel i hi hf
  obtain ⟨fuel,rfl⟩:∃ m,fuel = m + 1:=⟨fuel - 1,by omega⟩
  rw [b_bo,cfl (df (by simp [Sl.len,Sl.l]; omega)),List.drop_eq_nil_of_le (by omega)]; rfl
 | succ d ih =>
  intro fuel i hi hf
  obtain ⟨fuel,rfl⟩:∃ m,fuel = m + 1:=⟨fuel - 1,by omega⟩
  have hil:i < g.length:=by omega
  rw [b_bo,ct (dt (by simp [Sl.len,Sl.l]; omega)),ck_ok (by simpa [Sl.l] using hil),Option.bind_some,nth_l (v:=g[i]) (by simp [Sl.l]),wp1 (by omega),List.drop_eq_getElem_cons hil,numsOk]
  by_cases h:g[i] = ((i + 1:Nat):Int)
  ·rw [cfl (by rw [dt h]; rfl),ih fuel (i + 1) (by omega) (by omega),dt (show g[i] = (i:Int) + 1 by rw [h]; omega),Bool.true_and]
   rfl
  ·rw [ct (by rw [df h]; rfl),df (show ¬ g[i] = (i:Int) + 1 by omega)]; rfl
theorem r2_loop {g:List Int} (hl:l.length ≤ 500):∀ (d fuel i:Nat),i + d = l.length → d < fuel →
  b_9 c1 c2 c3 n (some (l.map refN)) fuel (some g) (i:Int) = if (l.drop i).any (oddB g.length) = true then some 6 else b_U c1 c2 c3 n (some (l.map refN)) n 0:=by
 intro d
 induction d with
 | zero =>
  intro fuel i hi hf
  obtain ⟨fuel,rfl⟩:∃ m,fuel = m + 1:=⟨fuel - 1,by omega⟩
  rw [b_9,cfl (df (by simp [Sl.len,Sl.l]; omega)),List.drop_eq_nil_of_le (by omega)]; rfl
 | succ d ih =>
  intro fuel i hi hf
  obtain ⟨fuel,rfl⟩:∃ m,fuel = m + 1:=⟨fuel - 1,by omega⟩
  have hil:i < l.length:=by omega
  rw [b_9,ct (dt (by simp [Sl.len,Sl.l]; omega)),rck hil,Option.bind_some,rnth (List.getElem?_eq_getElem hil),wp1 (by omega),List.drop_eq_getElem_cons hil,List.any_cons]
  have e:((decide ((refN l[i]).f_Kind = 12)) && ((decide ((refN l[i]).f_N < 1)) || (decide (Sl.len (some g) < (refN l[i]).f_N)))) = oddB g.length l[i]:=rfl
  rw [e]
  cases oddB g.length l[i] with
  | true=>rfl
  | false=>rw [cond_false,Bool.false_or]; exact ih fuel (i + 1) (by omega) (by omega)
theorem r3_loop {t:Tm} (hl:l = t.flat) (ht:Sub l (l.length - 1) t) (hs:t.size ≤ 500) (hn:600 ≤ n):∀ (d fuel i:Nat),i + d = t.size → d < fuel →
  ∃ r,b_U c1 c2 (m_Y n) n (some (l.map refN)) fuel (i:Int) = some r ∧ (r = 0 ∨ r = 7) ∧ (r = 0 ↔ ∀ (i':Nat) x,i ≤ i' → t.flat[i']? = some x → (x.f_Kind = 15 ∨ x.f_Kind = 16) → ∀ (j:Nat) v,x.f_A = (j:Int) → t.lens[j]? = some v → v.1 = v.2 ∧ v.1 ≤ 255):=by
 have hll:l.length = t.size:=by rw [hl,Tm.flat_len]
 have hp:=t.pos
 have hlen:Sl.len (some (l.map refN)) = (t.size:Int):=by simp [Sl.len,Sl.l,hll]
 have hA:t.At 0:=by
  obtain ⟨_,p,h1,h2⟩:=ht
  rw [List.take_of_length_le (by omega)] at h1
  have:=congrArg List.length h1
  simp [Tm.flat_len] at this
  obtain rfl:p = []:=List.length_eq_zero_iff.1 (by omega)
  exact h2
 intro d
 induction d with
 | zero =>
  intro fuel i hi hf
  obtain ⟨fuel,rfl⟩:∃ m,fuel = m + 1:=⟨fuel - 1,by omega⟩
  rw [b_U,cfl (df (by omega))]
  refine ⟨0,rfl,.inl rfl,fun _ i' x hi' hx=>?_,fun _=>rfl⟩
  have:=(List.getElem?_eq_some_iff.1 hx).1
  rw [Tm.flat_len] at this; omega
 | succ d ih =>
  intro fuel i hi hf
  obtain ⟨fuel,rfl⟩:∃ m,fuel = m + 1:=⟨fuel - 1,by omega⟩
  have hif:i < t.flat.length:=by rw [Tm.flat_len]; omega
  have hx:=List.getElem?_eq_getElem hif
  have K:=Tm.kid (d:=((0:Int),(0:Int))) (alg:=lenA) hA hx
  obtain ⟨r,hr1,hr2,hr3⟩:=ih fuel (i + 1) (by omega) (by omega)
  have hxl:l[i]? = some t.flat[i]:=by rw [hl]; exact hx
  rw [b_U,ct (dt (by omega)),rck (by omega),Option.bind_some,rnth hxl]
  generalize t.flat[i] = x at *
  have rK:(refN x).f_Kind = x.f_Kind:=rfl
  have rA:(refN x).f_A = x.f_A:=rfl
  have step:(∀ (j:Nat) v,(x.f_Kind = 15 ∨ x.f_Kind = 16) → x.f_A = (j:Int) → t.lens[j]? = some v → v.1 = v.2 ∧ v.1 ≤ 255) → (r = 0 ↔ ∀ (i':Nat) x,i ≤ i' → t.flat[i']? = some x → (x.f_Kind = 15 ∨ x.f_Kind = 16) → ∀ (j:Nat) v,x.f_A = (j:Int) → t.lens[j]? = some v → v.1 = v.2 ∧ v.1 ≤ 255):=fun hc=>by
   refine ⟨fun h i' y hi' hy hk j v hj hv=>?_,fun h=>hr3.2 fun i' y hi'=>h i' y (by omega)⟩
   rcases Nat.lt_or_ge i i' with h' | h'
   ·exact hr3.1 h i' y (by omega) hy hk j v hj hv
   ·obtain rfl:i' = i:=by omega
    rw [hx] at hy; injection hy with hy; subst hy
    exact hc j v hk hj hv
  by_cases k:x.f_Kind = 15 ∨ x.f_Kind = 16
  ·rcases K.at_ with ⟨h1,_⟩ | ⟨h1,j,v,h2,h3,h4,h5,h6⟩ | ⟨h1,_⟩
   ·rcases k with k | k <;> simp [kd,k] at h1
   case inr.inr=>rcases k with k | k <;> simp [kd,k] at h1
   have hj:j < t.size:=by have:=(List.getElem?_eq_some_iff.1 h5).1; rw [Tm.vals_len] at this; exact this
   obtain ⟨s,s1,s2,s3⟩:=sub_vals (d:=((0:Int),(0:Int))) (alg:=lenA) ht j hj
   rw [show l.length - 1 + 1 - t.size + j = j by omega] at s1
   have hv:v = s.val (0,0) lenA:=by rw [h5] at s2; injection s2
   rw [ct (by rw [rK]; simpa only [Bool.or_eq_true,decide_eq_true_eq] using k),rA,h3,Nat.zero_add,rlens_ok (by omega) s j n s1 (by omega),Option.bind_some,← hv]
   by_cases hc:v.1 = v.2 ∧ v.1 ≤ 255
   ·rw [cfl (by simp [hc.1]; have:=hc.2; have:=hc.1; omega),b_bE,wp1 (by omega)]
    refine ⟨r,hr1,hr2,step fun j' v' _ hj' hv'=>?_⟩
    obtain rfl:j' = j:=by rw [h3] at hj'; omega
    rw [h5] at hv'; injection hv' with hv'; subst hv'; exact hc
   ·rw [ct (by
     simp only [Bool.or_eq_true,Bool.not_eq_true',decide_eq_false_iff_not,decide_eq_true_eq]
     by_cases h:v.1 = v.2
     ·exact .inr (by
      have:¬ (v.1 ≤ 255):=fun h'=>hc ⟨h,h'⟩
      omega)
     ·exact .inl h)]
    refine ⟨7,rfl,.inr rfl,fun h=>(by cases h),fun h=>(hc (h i x (Nat.le_refl _) hx k j v (by rw [h3,Nat.zero_add]) h5)).elim⟩
  ·rw [cfl (by rw [rK,df fun h=>k (.inl h),df fun h=>k (.inr h)]; rfl),b_bE,wp1 (by omega)]
   exact ⟨r,hr1,hr2,step fun _ _ h=>(k h).elim⟩
end
theorem rright_eq {n:Nat} {l:List S_a} (hn:1300 ≤ n):m_cH n (some (l.map refN)) = some (rightR l):=by
 obtain ⟨n,rfl⟩:∃ m,n = m + 1:=⟨n - 1,by omega⟩
 have hlen:Sl.len (some (l.map refN)) = (l.length:Int):=by simp [Sl.len,Sl.l]
 simp only [m_cH,b_di]
 rw [rformed_ok (by omega),Option.bind_some]
 unfold rightR
 by_cases hf:formedR l = 0
 ·rw [cfl (by rw [dt hf]; rfl),if_pos hf]
  obtain ⟨t,ht,hs,hd⟩:=formed_tree hf
  obtain ⟨hl,hA⟩:=tree_some ht
  have hll:l.length = t.size:=by rw [hl,Tm.flat_len]
  have hp:=t.pos
  obtain ⟨_,hsub⟩:=tree_sub.1 ht
  have hg0:groupedR l t.szs = (numsOk (numT t) 0 && (decide ((numT t).length ≤ 9) && !t.flat.any (oddB (numT t).length))):=by
   have:=grouped_num t
   rw [← hl] at this ⊢; exact this
  have hle:=numT_len t
  rw [ht,hlen,w64 (by omega) (by omega),show (l.length:Int) - 1 = ((l.length - 1:Nat):Int) by omega,rnum_ok (by omega) t _ n hsub (by omega),Option.bind_some]
  simp only
  rw [hg0]
  by_cases h9:(numT t).length ≤ 9
  ·rw [cfl (df (by show ¬ (9:Int) < ((numT t).length:Int); omega)),dt h9,Bool.true_and]
   have:=r1_loop (n:=n) (l:=l) (c1:=m_bj n) (c2:=m_H n) (c3:=m_Y n) (g:=numT t) (by omega) (numT t).length n 0 (by omega) (by omega)
   rw [show ((0:Nat):Int) = 0 from rfl,List.drop_zero] at this
   rw [this]
   cases hno:numsOk (numT t) 0 with
   | false=>rfl
   | true =>
    rw [if_pos rfl,Bool.true_and]
    have:=r2_loop (n:=n) (l:=l) (c1:=m_bj n) (c2:=m_H n) (c3:=m_Y n) (g:=numT t) (by omega) l.length n 0 (by omega) (by omega)
    rw [show ((0:Nat):Int) = 0 from rfl,List.drop_zero] at this
    rw [this,← hl]
    cases l.any (oddB (numT t).length) with
    | true=>rfl
    | false =>
     rw [if_neg (by simp)]
     obtain ⟨r,h1,h2,h3⟩:=r3_loop (n:=n) (c1:=m_bj n) (c2:=m_H n) hl hsub hs (by omega) t.size n 0 (by omega) (by omega)
     have e:r = 0 ↔ BehOk t:=h3.trans ⟨fun h i x=>h i x (by omega),fun h i x _=>h i x⟩
     refine h1.trans ?_
     simp only [Bool.not_false,if_true]
     by_cases hb:BehOk t
     ·rw [if_pos hb,e.2 hb]
     ·rw [if_neg hb]
      rcases h2 with h2 | h2
      ·exact (hb (e.1 h2)).elim
      ·rw [h2]
  ·rw [ct (dt (by show (9:Int) < ((numT t).length:Int); omega)),df h9]; simp
 ·rw [ct (by rw [df hf]; rfl),if_neg hf]
end Go.Proofs.YtaadjlpfdajggaaGreatDoor

set_option maxRecDepth 100000
set_option linter.unusedVariables false
set_option linter.unusedSimpArgs false
namespace Go.Proofs.YtaadjlpfdajggaaGreatDoor
open Go Go.AM
theorem read_fin {r:Nat} (h1:4503599627370496 ≤ r) (h2:r < 9218868437227405312):Ieee.double.read r = .number false (4503599627370496 + r % 4503599627370496) (-1074 + ((r / 4503599627370496 - 1:Nat):Int)):=by
 have e1:Ieee.double.signWeight = 9223372036854775808:=by decide
 have e2:Ieee.double.binade = 4503599627370496:=by decide
 have e3:Ieee.double.infRung = 9218868437227405312:=by decide
 have e4:Ieee.double.leastPlace = -1074:=by decide
 unfold Ieee.Format.read
 simp only [e1,e2,e3,e4]
 have d1:r / 9223372036854775808 % 2 = 0:=by omega
 have d2:r % 9223372036854775808 = r:=by omega
 rw [d1,d2,if_neg (by omega),if_pos h2]
 rfl
theorem read_inf:Ieee.double.read 9218868437227405312 = .infinity false:=by decide
theorem p52:(2:Nat) ^ 52 = 4503599627370496:=by decide
theorem p53:(2:Nat) ^ 53 = 9007199254740992:=by decide
theorem log2_of {n k:Nat} (h1:2 ^ k ≤ n) (h2:n < 2 ^ (k + 1)):n.log2 = k:=by
 have h0:n ≠ 0:=by have:=Nat.two_pow_pos k; omega
 exact (Nat.log2_eq_iff h0).2 ⟨h1,h2⟩
theorem nearest_of {mag:Nat} {place:Int} {d e:Nat} {M:Nat} (hm:mag = M * 2 ^ d) (hM:4503599627370496 ≤ M) (hM2:M < 9007199254740992) (hp:place + d = -1074 + (e:Int)) (hd:d ≤ 60) :
  Ieee.double.nearest false mag place = min (e * 4503599627370496 + M) 9218868437227405312:=by
 have e2:Ieee.double.binade = 4503599627370496:=by decide
 have e3:Ieee.double.infRung = 9218868437227405312:=by decide
 have e4:Ieee.double.leastPlace = -1074:=by decide
 have e5:Ieee.double.fractionBits = 52:=rfl
 have hpos:=Nat.two_pow_pos d
 have hl:mag.log2 = 52 + d:=by
  refine log2_of ?_ ?_
  ·rw [hm,Nat.pow_add,p52]; exact Nat.mul_le_mul_right _ hM
  ·rw [hm,show 52 + d + 1 = 53 + d by omega,Nat.pow_add,p53]; exact Nat.mul_lt_mul_of_pos_right hM2 hpos
 have h0:mag ≠ 0:=by rw [hm]; exact Nat.mul_ne_zero (by omega) (by omega)
 unfold Ieee.Format.nearest
 rw [if_neg h0]
 simp only [e2,e3,e4,e5,hl]
 have hlast:max (place + ((52 + d:Nat):Int) - ((52:Nat):Int)) (-1074) = -1074 + (e:Int):=by omega
 rw [hlast]
 have h1:(place - (-1074 + (e:Int))).toNat = 0:=by omega
 have h2:((-1074 + (e:Int)) - place).toNat = d:=by omega
 have h3:((-1074 + (e:Int)) - -1074).toNat = e:=by omega
 rw [h1,h2,h3,Nat.shiftLeft_zero]
 have hc:Ieee.Toward.even.cut false mag d = M:=by
  unfold Ieee.Toward.cut
  simp only [hl]
  rw [show min d (52 + d + 2) = d by omega,Nat.one_shiftLeft,hm,Nat.mul_div_cancel _ hpos,Nat.mul_mod_left]
  have:¬ (2 ^ d < 2 * 0):=by omega
  have h':(2 ^ d == 2 * 0) = false:=by simp
  simp only [decide_eq_false this,h',Bool.false_and,Bool.or_false,Bool.toNat_false,Nat.add_zero]
 rw [hc,Ieee.Format.word,if_neg (by simp)]
theorem add_dbl {r:Nat} (h1:4503599627370496 ≤ r) (h2:r ≤ 9218868437227405312):Ieee.double.add r r = some (min (r + 4503599627370496) 9218868437227405312):=by
 unfold Ieee.Format.add
 by_cases h:r = 9218868437227405312
 ·subst h; rw [read_inf]; rfl
 ·rw [read_fin h1 (by omega)]
  simp only [Ieee.Datum.sum,Option.map_some,Ieee.Format.write]
  refine congrArg some ?_
  have hb:∀ i:Int,min i i = i:=fun i=>by omega
  rw [hb,Int.sub_self,Int.toNat_zero]
  have hs:∀ m,Ieee.signed false m 0 = (m:Int):=fun m=>by simp [Ieee.signed]
  rw [hs]
  have ht:((4503599627370496 + r % 4503599627370496:Nat):Int) + ((4503599627370496 + r % 4503599627370496:Nat):Int) = ((((4503599627370496 + r % 4503599627370496) * 2 ^ 1:Nat)):Int):=by omega
  rw [ht,Int.natAbs_natCast,if_neg (by omega),show decide ((((4503599627370496 + r % 4503599627370496) * 2 ^ 1:Nat):Int) < 0) = false from decide_eq_false (by omega)]
  rw [nearest_of (d:=1) (e:=r / 4503599627370496) (M:=4503599627370496 + r % 4503599627370496) rfl (by omega) (by omega) (by omega) (by omega)]
  omega
theorem mul_dbl {r:Nat} (h1:4503599627370496 ≤ r) (h2:r ≤ 9218868437227405312):Ieee.double.mul r 4611686018427387904 = some (min (r + 4503599627370496) 9218868437227405312):=by
 unfold Ieee.Format.mul
 have e2:Ieee.double.read 4611686018427387904 = .number false 4503599627370496 (-51):=by decide
 rw [e2]
 by_cases h:r = 9218868437227405312
 ·subst h; rw [read_inf]; rfl
 ·rw [read_fin h1 (by omega)]
  simp only [Ieee.Datum.product,Option.map_some,Ieee.Format.write]
  refine congrArg some ?_
  rw [show (false ^^ false) = false from rfl]
  rw [nearest_of (d:=52) (e:=r / 4503599627370496) (M:=4503599627370496 + r % 4503599627370496) rfl (by omega) (by omega) (by omega) (by omega)]
  omega
def dblN (k r:Nat):Nat:=min (r + k * 4503599627370496) 9218868437227405312
theorem dblN_0 {r:Nat} (h2:r ≤ 9218868437227405312):dblN 0 r = r:=by unfold dblN; omega
theorem dblN_s {k r:Nat}:dblN k (min (r + 4503599627370496) 9218868437227405312) = dblN (k + 1) r:=by unfold dblN; omega
theorem dbl_rng {r:Nat} (h1:4503599627370496 ≤ r):4503599627370496 ≤ min (r + 4503599627370496) 9218868437227405312 ∧ min (r + 4503599627370496) 9218868437227405312 ≤ 9218868437227405312:=by omega
theorem dblN_rng {k r:Nat} (h1:4503599627370496 ≤ r):4503599627370496 ≤ dblN k r ∧ dblN k r ≤ 9218868437227405312:=by unfold dblN; omega
theorem order_self {r:Nat} (h1:4503599627370496 ≤ r) (h2:r ≤ 9218868437227405312):fcmp .eql r r = true:=by
 have e:Ieee.double.order r r = some .eq:=by
  unfold Ieee.Format.order
  by_cases h:r = 9218868437227405312
  ·subst h; rw [read_inf]; rfl
  ·rw [read_fin h1 (by omega)]
   simp only [Ieee.Datum.order]
   rw [show ∀ z:Int,compare z z = Ordering.eq from fun z=>by simp [compare,compareOfLessAndEq]]
 show (Ieee.double.order r r == some .eq) = true
 rw [e]; rfl
def startB (n:Nat):Bool:=(match Ieee.double.add (fnear n) 4607182418800017408 with | some x=>decide (x = fnear ((n + 1:Nat):Int)) | none=>false) && decide (4607182418800017408 ≤ fnear ((n + 1:Nat):Int)) && decide (fnear ((n + 1:Nat):Int) ≤ fnear ((n + 2:Nat):Int)) && decide (fnear ((n + 2:Nat):Int) ≤ 9218868437227405312)
theorem start_0:(List.range 500).all (fun i=>startB (i + 0)) = true:=by kernel_rfl
theorem start_1:(List.range 500).all (fun i=>startB (i + 500)) = true:=by kernel_rfl
theorem start_2:(List.range 500).all (fun i=>startB (i + 1000)) = true:=by kernel_rfl
theorem start_3:(List.range 500).all (fun i=>startB (i + 1500)) = true:=by kernel_rfl
theorem start_4:(List.range 500).all (fun i=>startB (i + 2000)) = true:=by kernel_rfl
theorem start_5:(List.range 500).all (fun i=>startB (i + 2500)) = true:=by kernel_rfl
theorem start_6:(List.range 500).all (fun i=>startB (i + 3000)) = true:=by kernel_rfl
theorem start_7:(List.range 500).all (fun i=>startB (i + 3500)) = true:=by kernel_rfl
theorem start_8:(List.range 500).all (fun i=>startB (i + 4000)) = true:=by kernel_rfl
theorem start_9:(List.range 500).all (fun i=>startB (i + 4500)) = true:=by kernel_rfl
theorem start_10:(List.range 500).all (fun i=>startB (i + 5000)) = true:=by kernel_rfl
theorem start_11:(List.range 500).all (fun i=>startB (i + 5500)) = true:=by kernel_rfl
theorem start_12:(List.range 500).all (fun i=>startB (i + 6000)) = true:=by kernel_rfl
theorem start_13:(List.range 500).all (fun i=>startB (i + 6500)) = true:=by kernel_rfl
theorem start_14:(List.range 500).all (fun i=>startB (i + 7000)) = true:=by kernel_rfl
theorem start_15:(List.range 500).all (fun i=>startB (i + 7500)) = true:=by kernel_rfl
theorem start_16:(List.range 500).all (fun i=>startB (i + 8000)) = true:=by kernel_rfl
theorem start_17:(List.range 500).all (fun i=>startB (i + 8500)) = true:=by kernel_rfl
theorem start_18:(List.range 500).all (fun i=>startB (i + 9000)) = true:=by kernel_rfl
theorem start_19:(List.range 500).all (fun i=>startB (i + 9500)) = true:=by kernel_rfl
theorem start_20:(List.range 500).all (fun i=>startB (i + 10000)) = true:=by kernel_rfl
theorem start_all {n:Nat} (h:n ≤ 10000):startB n = true:=by
 have key:∀ k,(List.range 500).all (fun i=>startB (i + k)) = true → k ≤ n → n < k + 500 → startB n = true:=fun k hk h1 h2=>by
  have:=List.all_eq_true.1 hk (n - k) (List.mem_range.2 (by omega))
  rwa [show n - k + k = n by omega] at this
 by_cases h0:n < 500
 ·exact key 0 start_0 (by omega) (by omega)
 by_cases h1:n < 1000
 ·exact key 500 start_1 (by omega) (by omega)
 by_cases h2:n < 1500
 ·exact key 1000 start_2 (by omega) (by omega)
 by_cases h3:n < 2000
 ·exact key 1500 start_3 (by omega) (by omega)
 by_cases h4:n < 2500
 ·exact key 2000 start_4 (by omega) (by omega)
 by_cases h5:n < 3000
 ·exact key 2500 start_5 (by omega) (by omega)
 by_cases h6:n < 3500
 ·exact key 3000 start_6 (by omega) (by omega)
 by_cases h7:n < 4000
 ·exact key 3500 start_7 (by omega) (by omega)
 by_cases h8:n < 4500
 ·exact key 4000 start_8 (by omega) (by omega)
 by_cases h9:n < 5000
 ·exact key 4500 start_9 (by omega) (by omega)
 by_cases h10:n < 5500
 ·exact key 5000 start_10 (by omega) (by omega)
 by_cases h11:n < 6000
 ·exact key 5500 start_11 (by omega) (by omega)
 by_cases h12:n < 6500
 ·exact key 6000 start_12 (by omega) (by omega)
 by_cases h13:n < 7000
 ·exact key 6500 start_13 (by omega) (by omega)
 by_cases h14:n < 7500
 ·exact key 7000 start_14 (by omega) (by omega)
 by_cases h15:n < 8000
 ·exact key 7500 start_15 (by omega) (by omega)
 by_cases h16:n < 8500
 ·exact key 8000 start_16 (by omega) (by omega)
 by_cases h17:n < 9000
 ·exact key 8500 start_17 (by omega) (by omega)
 by_cases h18:n < 9500
 ·exact key 9000 start_18 (by omega) (by omega)
 by_cases h19:n < 10000
 ·exact key 9500 start_19 (by omega) (by omega)
 by_cases h20:n < 10500
 ·exact key 10000 start_20 (by omega) (by omega)
 omega
theorem start_ok {n:Nat} (h:n ≤ 10000):Ieee.double.add (fnear n) 4607182418800017408 = some (fnear ((n + 1:Nat):Int)) ∧ 4607182418800017408 ≤ fnear ((n + 1:Nat):Int) ∧ fnear ((n + 1:Nat):Int) ≤ fnear ((n + 2:Nat):Int) ∧ fnear ((n + 2:Nat):Int) ≤ 9218868437227405312:=by
 have:=start_all h
 unfold startB at this
 simp only [Bool.and_eq_true,decide_eq_true_eq] at this
 obtain ⟨⟨⟨h1,h2⟩,h3⟩,h4⟩:=this
 refine ⟨?_,h2,h3,h4⟩
 split at h1
 ·rename_i x hx; rw [hx,of_decide_eq_true h1]
 ·cases h1
end Go.Proofs.YtaadjlpfdajggaaGreatDoor

set_option maxRecDepth 100000
set_option linter.unusedVariables false
set_option linter.unusedSimpArgs false
namespace Go.Proofs.YtaadjlpfdajggaaGreatDoor
open Go Go.AM
def tnA (w:Int) (x:S_a):Int:=IntKind.i64.wrap ((if x.f_Max = -1 then IntKind.i64.wrap (x.f_Min + w) else min (IntKind.i64.wrap (x.f_Min + w)) x.f_Max) + 1)
def bndA (w:Int) (x:S_a) (a b:Int):Int :=
 if x.f_Kind = 8 then min (IntKind.i64.wrap (IntKind.i64.wrap (1 + a) + b)) 1099511627776
 else if x.f_Kind = 9 then min (IntKind.i64.wrap (1 + max a b)) 1099511627776
 else if x.f_Kind = 11 then min (IntKind.i64.wrap (2 + a)) 1099511627776
 else if x.f_Kind = 13 ∨ x.f_Kind = 14 ∨ x.f_Kind = 15 ∨ x.f_Kind = 16 ∨ x.f_Kind = 17 then min (IntKind.i64.wrap (3 + a)) 1099511627776
 else if x.f_Kind = 10 then min (IntKind.i64.wrap (4 + IntKind.i64.wrap (tnA w x * IntKind.i64.wrap (1 + a)))) 1099511627776
 else 1
abbrev Tm.bnds (t:Tm) (w:Int):List Int:=t.vals 0 (bndA w)
abbrev Tm.bnd (t:Tm) (w:Int):Int:=t.val 0 (bndA w)
theorem bcut_ok {n:Nat} (x:Int) (h:1 ≤ n):m_bP n x = some (min x 1099511627776):=by
 obtain ⟨n,rfl⟩:∃ m,n = m + 1:=⟨n - 1,by omega⟩
 rfl
theorem turns_ok {n:Nat} (x:S_a) (w:Int) (h:1 ≤ n):m_bu n x w = some (tnA w x):=by
 obtain ⟨n,rfl⟩:∃ m,n = m + 1:=⟨n - 1,by omega⟩
 simp only [m_bu,b_dd,b_cb,tnA]
 by_cases hm:x.f_Max = -1
 ·rw [cfl (by rw [dt hm]; rfl),if_pos hm]
 ·rw [ct (by rw [df hm]; rfl),if_neg hm]
theorem bnd_le {w:Int}:∀ t:Tm,t.bnd w ≤ 1099511627776:=by
 have key:∀ x a b,bndA w x a b ≤ 1099511627776:=fun x a b=>by
  unfold bndA
  repeat' split
  all_goals omega
 intro t
 cases t <;> exact key _ _ _
section
variable {n:Nat} {x0:Sl S_a} {t:Tm} {w:Int}
theorem ball_loop (hn:100 ≤ n) (hN:(Sl.l x0).length ≤ 500) (hl:Sl.l x0 = t.flat) (ht:t.At 0):∀ (d fuel i:Nat),i + d = t.size → d < fuel →
  b_z (m_bP n) (m_bu n) n x0 fuel w (pf (t.bnds w) 0 i) (Sl.len x0) (i:Int) = some (some (t.bnds w)):=by
 have hlen:Sl.len x0 = (t.size:Int):=by simp [Sl.len,hl,Tm.flat_len]
 have hs:t.size ≤ 500:=by rw [hl,Tm.flat_len] at hN; exact hN
 have hvl:(t.bnds w).length = t.size:=t.vals_len _ _
 intro d
 induction d with
 | zero =>
  intro fuel i hi hf
  obtain ⟨fuel,rfl⟩:∃ m,fuel = m + 1:=⟨fuel - 1,by omega⟩
  obtain rfl:i = t.size:=by omega
  rw [b_z,cfl (df (by omega)),← hvl,pf_end]
 | succ d ih =>
  intro fuel i hi hf
  obtain ⟨fuel,rfl⟩:∃ m,fuel = m + 1:=⟨fuel - 1,by omega⟩
  have hif:i < t.flat.length:=by rw [Tm.flat_len]; omega
  have hx:=List.getElem?_eq_getElem hif
  have hx0:Sl.nth x0 i = t.flat[i]:=nth_l (by rw [hl]; exact hx)
  have K:=Tm.kid (d:=(0:Int)) (alg:=bndA w) ht hx
  rw [b_z,ct (dt (by omega)),ck_ok (by rw [hl]; exact hif),Option.bind_some,hx0]
  have hck:∀ {j:Nat} {v:Int},(t.bnds w)[j]? = some v → ck (Sl.l (pf (t.bnds w) 0 i)).length ((0 + j:Nat):Int) = some j:=fun {j v} hv=>by
   rw [pf_len (by omega),Nat.zero_add]; exact ck_ok (List.getElem?_eq_some_iff.1 hv).1
  have hci:ck (Sl.l (pf (t.bnds w) 0 i)).length (i:Int) = some i:=by rw [pf_len (by omega)]; exact ck_ok (by omega)
  have go:=ih fuel (i + 1) (by omega) (by omega)
  generalize t.flat[i] = x at *
  by_cases k1:x.f_Kind = 8
  ·rcases K.at_ with ⟨h1,_⟩ | ⟨h1,_⟩ | ⟨h1,j,m,v,u,h2,h3,h4,h5,h6,h7,h8⟩
   ·simp [kd,k1] at h1
   ·simp [kd,k1] at h1
   have hv:(t.bnds w)[i]? = some (min (IntKind.i64.wrap (IntKind.i64.wrap (1 + v) + u)) 1099511627776):=by rw [h8,bndA,if_pos k1]
   rw [ct (dt k1),h4,hck h6,Option.bind_some,h5,hck h7,Option.bind_some,pf_nth h2 h6,pf_nth h3 h7,bcut_ok _ (by omega),Option.bind_some,hci,Option.bind_some,b_F,wp1 (by omega),pf_put hv]
   exact go
  rw [cfl (df k1)]
  by_cases k2:x.f_Kind = 9
  ·rcases K.at_ with ⟨h1,_⟩ | ⟨h1,_⟩ | ⟨h1,j,m,v,u,h2,h3,h4,h5,h6,h7,h8⟩
   ·simp [kd,k2] at h1
   ·simp [kd,k2] at h1
   have hv:(t.bnds w)[i]? = some (min (IntKind.i64.wrap (1 + max v u)) 1099511627776):=by rw [h8,bndA,if_neg k1,if_pos k2]
   rw [ct (dt k2),h4,hck h6,Option.bind_some,h5,hck h7,Option.bind_some,pf_nth h2 h6,pf_nth h3 h7,bcut_ok _ (by omega),Option.bind_some,hci,Option.bind_some,b_F,wp1 (by omega),pf_put hv]
   exact go
  rw [cfl (df k2)]
  have one:kd x.f_Kind = 1 → ∃ j v,j < i ∧ x.f_A = ((0 + j:Nat):Int) ∧ (t.bnds w)[j]? = some v ∧ (t.bnds w)[i]? = some (bndA w x v 0):=fun hk=>by
   rcases K.at_ with ⟨h1,_⟩ | ⟨h1,j,v,h2,h3,h4,h5,h6⟩ | ⟨h1,_⟩
   ·omega
   ·exact ⟨j,v,h2,h3,h5,h6⟩
   ·omega
  by_cases k3:x.f_Kind = 11
  ·obtain ⟨j,v,h2,h3,h5,h6⟩:=one (by simp [kd,k3])
   rw [bndA,if_neg k1,if_neg k2,if_pos k3] at h6
   rw [ct (dt k3),h3,hck h5,Option.bind_some,pf_nth h2 h5,bcut_ok _ (by omega),Option.bind_some,hci,Option.bind_some,b_F,wp1 (by omega),pf_put h6]
   exact go
  rw [cfl (df k3)]
  have look:(x.f_Kind = 13 ∨ x.f_Kind = 14 ∨ x.f_Kind = 15 ∨ x.f_Kind = 16 ∨ x.f_Kind = 17) → ∀ k,b_6 (m_bP n) (m_bu n) n (b_z (m_bP n) (m_bu n) n x0 fuel) x0 w (pf (t.bnds w) 0 i) (i:Int) x (Sl.len x0) (i:Int) k true = some (some (t.bnds w)):=fun h k=>by
   obtain ⟨j,v,h2,h3,h5,h6⟩:=one (by rcases h with h | h | h | h | h <;> simp [kd,h])
   rw [bndA,if_neg k1,if_neg k2,if_neg k3,if_pos h] at h6
   rw [b_6,cond_true,h3,hck h5,Option.bind_some,pf_nth h2 h5,bcut_ok _ (by omega),Option.bind_some,hci,Option.bind_some,b_F,wp1 (by omega),pf_put h6]
   exact go
  by_cases k4:x.f_Kind = 13
  ·rw [ct (dt k4),dt k4]; exact look (.inl k4) _
  rw [cfl (df k4)]
  by_cases k5:x.f_Kind = 14
  ·rw [ct (dt k5),dt k5]; exact look (.inr (.inl k5)) _
  rw [cfl (df k5)]
  by_cases k6:x.f_Kind = 15
  ·rw [ct (dt k6),dt k6]; exact look (.inr (.inr (.inl k6))) _
  rw [cfl (df k6)]
  by_cases k7:x.f_Kind = 16
  ·rw [ct (dt k7),dt k7]; exact look (.inr (.inr (.inr (.inl k7)))) _
  rw [cfl (df k7)]
  by_cases k8:x.f_Kind = 17
  ·rw [dt k8]; exact look (.inr (.inr (.inr (.inr k8)))) _
  rw [df k8,b_6,cond_false]
  by_cases k9:x.f_Kind = 10
  ·obtain ⟨j,v,h2,h3,h5,h6⟩:=one (by simp [kd,k9])
   rw [bndA,if_neg k1,if_neg k2,if_neg k3,if_neg (by omega),if_pos k9] at h6
   rw [ct (dt k9),turns_ok _ _ (by omega),Option.bind_some,h3,hck h5,Option.bind_some,pf_nth h2 h5,bcut_ok _ (by omega),Option.bind_some,hci,Option.bind_some,b_F,wp1 (by omega),pf_put h6]
   exact go
  have hv:(t.bnds w)[i]? = some 1:=by
   have e:∀ a b,bndA w x a b = 1:=fun a b=>by rw [bndA,if_neg k1,if_neg k2,if_neg k3,if_neg (by omega),if_neg k9]
   rcases K.at_ with ⟨h1,h2,h3,h4⟩ | ⟨h1,j,v,h2,h3,h4,h5,h6⟩ | ⟨h1,j,m,v,u,h2,h3,h4,h5,h6,h7,h8⟩
   ·rw [h4,e]
   ·rw [h6,e]
   ·rw [h8,e]
  rw [cfl (df k9),hci,Option.bind_some,b_F,wp1 (by omega),pf_put hv]
  exact go
theorem ball_ok (hn:600 ≤ n) (hN:(Sl.l x0).length ≤ 500) (ht:tree (Sl.l x0) = some t):m_da n x0 w = some (some (t.bnds w)):=by
 obtain ⟨n,rfl⟩:∃ m,n = m + 1:=⟨n - 1,by omega⟩
 obtain ⟨hl,hA⟩:=tree_some ht
 have hs:t.size ≤ 500:=by rw [hl,Tm.flat_len] at hN; exact hN
 simp only [m_da,b_dT]
 have:=ball_loop (n:=n) (w:=w) (by omega) hN hl hA t.size n 0 (by omega) (by omega)
 rw [show Sl.len x0 = ((t.size:Nat):Int) by simp [Sl.len,hl,Tm.flat_len]] at this ⊢
 rw [make_ok (Nat.le_refl _) (by omega) (by omega),Option.bind_some]
 rw [pf_0,Tm.vals_len] at this
 exact this
def longT (t:Tm) (w:Int):Int:=IntKind.i64.wrap (t.bnd w + 1)
theorem long_tree (hn:1400 ≤ n) (hR:m_bm (n - 1) x0 = some 0) (hN:(Sl.l x0).length ≤ 500) (ht:tree (Sl.l x0) = some t) (h0:0 ≤ w) (h1:w ≤ 10000):m_B n x0 w = some (longT t w,0):=by
 obtain ⟨n,rfl⟩:∃ m,n = m + 1:=⟨n - 1,by omega⟩
 rw [Nat.add_sub_cancel] at hR
 obtain ⟨hl,hA⟩:=tree_some ht
 have hp:=t.pos
 have hs:t.size ≤ 500:=by rw [hl,Tm.flat_len] at hN; exact hN
 simp only [m_B,b_ck]
 rw [hR,Option.bind_some,cfl (by rfl),cfl (by rw [df (by omega),df (by omega)]; rfl),ball_ok (by omega) hN ht,Option.bind_some]
 have hlen:Sl.len x0 = (t.size:Int):=by simp [Sl.len,hl,Tm.flat_len]
 have hb:=bnd_le (w:=w) t
 rw [hlen,w64 (by omega) (by omega),ck_int (by omega) (by simp [Sl.l,Tm.vals_len]; omega),Option.bind_some,show ((t.size:Int) - 1).toNat = t.size - 1 by omega,nth_l (v:=t.bnd w) (t.vals_last _ _),bcut_ok _ (by omega),Option.bind_some,Int.min_eq_left hb]
 rfl
theorem long_err {e:Int} (hn:1400 ≤ n) (hR:m_bm (n - 1) x0 = some e) (he:e ≠ 0):m_B n x0 w = some (0,e):=by
 obtain ⟨n,rfl⟩:∃ m,n = m + 1:=⟨n - 1,by omega⟩
 rw [Nat.add_sub_cancel] at hR
 simp only [m_B,b_ck]
 rw [hR,Option.bind_some,ct (by rw [df he]; rfl)]
theorem long_out (hn:1400 ≤ n) (hR:m_bm (n - 1) x0 = some 0) (h:w < 0 ∨ 10000 < w):m_B n x0 w = some (0,1):=by
 obtain ⟨n,rfl⟩:∃ m,n = m + 1:=⟨n - 1,by omega⟩
 rw [Nat.add_sub_cancel] at hR
 simp only [m_B,b_ck]
 rw [hR,Option.bind_some,cfl (by rfl),ct (by rcases h with h | h <;> simp [h])]
def wdA (k:Int) (r:Nat):Nat:=if 1100 < k then 9218868437227405312 else dblN k.toNat r
theorem isinf_ok (hn:1 ≤ n):m_cQ n 9218868437227405312 1 = some true:=by
 obtain ⟨n,rfl⟩:∃ m,n = m + 1:=⟨n - 1,by omega⟩
 rfl
theorem inf_ok (hn:1 ≤ n):m_cz n 1 = some 9218868437227405312:=by
 obtain ⟨n,rfl⟩:∃ m,n = m + 1:=⟨n - 1,by omega⟩
 rfl
theorem steps_loop {k:Int} (hn:1 ≤ n):∀ (d fuel i r:Nat),((i + d:Nat):Int) = max (min k 2000) i → d < fuel → i ≤ 3000 → d ≤ 3000 → 4503599627370496 ≤ r → r ≤ 9218868437227405312 → (2000 < k → dblN d r = 9218868437227405312) →
  b_bq (m_B n) (m_cQ n) (m_cz n) n x0 fuel k r (min k 2000) (i:Int) = some (dblN d r,0):=by
 intro d
 induction d with
 | zero =>
  intro fuel i r hi hf hi' hd h1 h2 h3
  obtain ⟨fuel,rfl⟩:∃ m,fuel = m + 1:=⟨fuel - 1,by omega⟩
  rw [b_bq,cfl (df (by omega)),dblN_0 h2]
  by_cases hk:2000 < k
  ·have:=h3 hk
   rw [dblN_0 h2] at this
   subst this
   rw [ct (dt hk),isinf_ok hn]; rfl
  ·rw [cfl (df hk)]; rfl
 | succ d ih =>
  intro fuel i r hi hf hi' hd h1 h2 h3
  obtain ⟨fuel,rfl⟩:∃ m,fuel = m + 1:=⟨fuel - 1,by omega⟩
  rw [b_bq,ct (dt (by omega)),add_dbl h1 h2,Option.bind_some,wp1 (by omega)]
  rw [← dblN_s]
  exact ih fuel (i + 1) _ (by omega) (by omega) (by omega) (by omega) (dbl_rng h1).1 (dbl_rng h1).2 fun hk=>by rw [dblN_s]; exact h3 hk
theorem steps_ok {k:Int} (hn:2100 ≤ n) (h0:0 ≤ w) (h1:w ≤ 10000) (hL:m_B (n - 1) x0 w = some (k,0)) :
  m_X n x0 w = some (wdA k (fnear ((w.toNat + 1:Nat):Int)),0):=by
 obtain ⟨n,rfl⟩:∃ m,n = m + 1:=⟨n - 1,by omega⟩
 rw [Nat.add_sub_cancel] at hL
 obtain ⟨s1,s2,s3,s4⟩:=start_ok (n:=w.toNat) (by omega)
 simp only [m_X,b_cE]
 rw [hL,Option.bind_some,cfl (by rfl)]
 rw [show ((w.toNat:Nat):Int) = w by omega] at s1
 rw [s1,Option.bind_some]
 generalize fnear ((w.toNat + 1:Nat):Int) = r at *
 have:=steps_loop (n:=n) (x0:=x0) (k:=k) (by omega) (min k 2000).toNat n 0 r (by omega) (by omega) (by omega) (by omega) (by omega) (by omega) fun hk=>by
  rw [show (min k 2000).toNat = 2000 by omega]; unfold dblN; omega
 simp only [Int.ofNat_zero,show ((0:Nat):Int) = 0 from rfl] at this
 rw [this]
 refine congrArg some (Prod.ext ?_ rfl)
 unfold wdA
 by_cases hk:1100 < k
 ·rw [if_pos hk]; show dblN _ _ = _; unfold dblN; omega
 ·rw [if_neg hk,show min k 2000 = k by omega]
theorem steps_err {e:Int} (hn:2100 ≤ n) (he:e ≠ 0) (hL:m_B (n - 1) x0 w = some (0,e)):m_X n x0 w = some (0,e):=by
 obtain ⟨n,rfl⟩:∃ m,n = m + 1:=⟨n - 1,by omega⟩
 rw [Nat.add_sub_cancel] at hL
 simp only [m_X,b_cE]
 rw [hL,Option.bind_some,ct (by rw [df he]; rfl)]
end
end Go.Proofs.YtaadjlpfdajggaaGreatDoor

set_option maxRecDepth 100000
set_option linter.unusedVariables false
set_option linter.unusedSimpArgs false
namespace Go.Proofs.YtaadjlpfdajggaaGreatDoor.boundTells
open Go Go.AM
section
variable {l:List S_a} {w:Int}
theorem many_eq {x:S_a} (hf:fitsB x = true) (hk:x.f_Kind = 10) :
  IntKind.i64.wrap ((if 0 ≤ x.f_Max ∧ x.f_Max < IntKind.i64.wrap (x.f_Min + w) then x.f_Max else IntKind.i64.wrap (x.f_Min + w)) + 1) = tnA w x:=by
 obtain ⟨m0,m1,m2⟩:=fits_rep hf hk
 unfold tnA
 congr 1
 split <;> split <;> omega
theorem rlong_ok (hl:l.length ≤ 500):∀ (t:Tm) (i n:Nat),Sub l i t → t.size + 2 ≤ n → m_bC n (some (l.map refN)) (i:Int) w = some (t.bnd w):=by
 have rK:∀ x,(refN x).f_Kind = x.f_Kind:=fun _=>rfl
 have rA:∀ x,(refN x).f_A = x.f_A:=fun _=>rfl
 have rB:∀ x,(refN x).f_B = x.f_B:=fun _=>rfl
 have rm:∀ x,(refN x).f_Min = x.f_Min:=fun _=>rfl
 have rM:∀ x,(refN x).f_Max = x.f_Max:=fun _=>rfl
 intro t
 induction t with
 | leaf x =>
  intro i n h hn
  obtain ⟨n,rfl⟩:∃ m,n = m + 1:=⟨n - 1,by omega⟩
  simp only [Tm.size] at hn
  obtain ⟨hx,hf,h0,_⟩:=sub_leaf h
  have hi:=(List.getElem?_eq_some_iff.1 hx).1
  simp only [m_bC,b_cj]
  rw [rck hi,Option.bind_some,rnth hx,rK,rkids_ok _ (by omega),Option.bind_some,h0,ct (by rfl)]
  show _ = some (bndA w x 0 0)
  unfold bndA
  have k1:x.f_Kind ≠ 8:=fun k=>by simp [kd,k] at h0
  have k2:x.f_Kind ≠ 9:=fun k=>by simp [kd,k] at h0
  have k3:x.f_Kind ≠ 11:=fun k=>by simp [kd,k] at h0
  have k4:¬ (x.f_Kind = 13 ∨ x.f_Kind = 14 ∨ x.f_Kind = 15 ∨ x.f_Kind = 16 ∨ x.f_Kind = 17):=fun k=>by rcases k with k | k | k | k | k <;> simp [kd,k] at h0
  have k5:x.f_Kind ≠ 10:=fun k=>by simp [kd,k] at h0
  rw [if_neg k1,if_neg k2,if_neg k3,if_neg k4,if_neg k5]
 | one x t ih =>
  intro i n h hn
  obtain ⟨n,rfl⟩:∃ m,n = m + 1:=⟨n - 1,by omega⟩
  simp only [Tm.size] at hn
  obtain ⟨hx,hf,h0,_,j,hj,hxA,hs⟩:=sub_one h
  have hi:=(List.getElem?_eq_some_iff.1 hx).1
  have I:=ih j n hs (by omega)
  simp only [m_bC,b_cj]
  rw [rck hi,Option.bind_some,rnth hx,rK,rkids_ok _ (by omega),Option.bind_some,h0,cfl (by rfl),rA,hxA,I,Option.bind_some]
  show _ = some (bndA w x (t.bnd w) 0)
  unfold bndA
  have k1:x.f_Kind ≠ 8:=fun k=>by simp [kd,k] at h0
  have k2:x.f_Kind ≠ 9:=fun k=>by simp [kd,k] at h0
  rw [cfl (df k1),cfl (df k2),if_neg k1,if_neg k2]
  by_cases k3:x.f_Kind = 11
  ·rw [ct (dt k3),if_pos k3]
  rw [cfl (df k3),if_neg k3]
  by_cases k5:x.f_Kind = 10
  ·rw [cfl (by rw [dt k5]; rfl),if_neg (by omega),if_pos k5,rm,rM]
   rw [← many_eq hf k5]
   by_cases hm:0 ≤ x.f_Max ∧ x.f_Max < IntKind.i64.wrap (x.f_Min + w)
   ·rw [ct (by rw [dt hm.1,dt hm.2]; rfl),if_pos hm,b_bV]
   ·rw [cfl (by
    rw [Bool.and_eq_false_iff]; by_cases h1:0 ≤ x.f_Max
    ·exact .inr (df fun h2=>hm ⟨h1,h2⟩)
    ·exact .inl (df h1)),if_neg hm,b_bV]
  ·have k4:x.f_Kind = 13 ∨ x.f_Kind = 14 ∨ x.f_Kind = 15 ∨ x.f_Kind = 16 ∨ x.f_Kind = 17:=by
    unfold kd at h0
    split at h0
    ·omega
    ·split at h0
     ·omega
     ·omega
   rw [ct (by rw [df k5]; rfl),if_pos k4]
 | two x a b iha ihb =>
  intro i n h hn
  obtain ⟨n,rfl⟩:∃ m,n = m + 1:=⟨n - 1,by omega⟩
  simp only [Tm.size] at hn
  obtain ⟨hx,hf,h0,j,m,hj,hxB,hb,hm,hxA,ha⟩:=sub_two h
  have hi:=(List.getElem?_eq_some_iff.1 hx).1
  have I:=iha m n ha (by omega)
  have J:=ihb j n hb (by omega)
  simp only [m_bC,b_cj]
  rw [rck hi,Option.bind_some,rnth hx,rK,rkids_ok _ (by omega),Option.bind_some,h0,cfl (by rfl),rA,hxA,I,Option.bind_some,rB,hxB,J]
  show _ = some (bndA w x (a.bnd w) (b.bnd w))
  unfold bndA
  have k89:x.f_Kind = 8 ∨ x.f_Kind = 9:=by
   unfold kd at h0
   split at h0
   ·assumption
   ·split at h0 <;> omega
  by_cases k1:x.f_Kind = 8
  ·rw [ct (dt k1),if_pos k1]; rfl
  ·have k2:=k89.resolve_left k1
   rw [cfl (df k1),ct (dt k2),if_neg k1,if_pos k2]; rfl
theorem rlong_tree {n:Nat} {t:Tm} (hn:1400 ≤ n) (hR:rightR l = 0) (hl:l.length ≤ 500) (ht:tree l = some t) (h0:0 ≤ w) (h1:w ≤ 10000):m_I n (some (l.map refN)) w = some (longT t w,0):=by
 obtain ⟨n,rfl⟩:∃ m,n = m + 1:=⟨n - 1,by omega⟩
 obtain ⟨hll,hsub⟩:=tree_sub.1 ht
 have hp:=t.pos
 simp only [m_I,b_cl]
 have hlr:Sl.len (some (l.map refN)) = (l.length:Int):=by simp [Sl.len,Sl.l]
 rw [rright_eq (by omega),Option.bind_some,hR,cfl (by rfl),cfl (by rw [df (by omega),df (by omega)]; rfl),hlr,w64 (by omega) (by omega),show ((l.length:Nat):Int) - 1 = ((l.length - 1:Nat):Int) by omega,rlong_ok hl t _ n hsub (by omega)]
 rfl
theorem rlong_err {n:Nat} (hn:1400 ≤ n) (hR:rightR l ≠ 0):m_I n (some (l.map refN)) w = some (0,rightR l):=by
 obtain ⟨n,rfl⟩:∃ m,n = m + 1:=⟨n - 1,by omega⟩
 simp only [m_I,b_cl]
 rw [rright_eq (by omega),Option.bind_some,ct (by rw [df hR]; rfl)]
theorem rlong_out {n:Nat} (hn:1400 ≤ n) (hR:rightR l = 0) (h:w < 0 ∨ 10000 < w):m_I n (some (l.map refN)) w = some (0,1):=by
 obtain ⟨n,rfl⟩:∃ m,n = m + 1:=⟨n - 1,by omega⟩
 simp only [m_I,b_cl]
 rw [rright_eq (by omega),Option.bind_some,hR,cfl (by rfl),ct (by rcases h with h | h <;> simp [h])]
theorem rsteps_loop {n:Nat} {k:Int} {x0:Sl S_b} (hk:k ≤ 1100):∀ (d fuel i r:Nat),((i + d:Nat):Int) = max k i → d < fuel → i ≤ 3000 → d ≤ 3000 → 4503599627370496 ≤ r → r ≤ 9218868437227405312 →
  b_bp (m_I n) (m_cz n) n x0 fuel k r (i:Int) = some (dblN d r,0):=by
 intro d
 induction d with
 | zero =>
  intro fuel i r hi hf hi' hd h1 h2
  obtain ⟨fuel,rfl⟩:∃ m,fuel = m + 1:=⟨fuel - 1,by omega⟩
  rw [b_bp,cfl (df (by omega)),dblN_0 h2]
 | succ d ih =>
  intro fuel i r hi hf hi' hd h1 h2
  obtain ⟨fuel,rfl⟩:∃ m,fuel = m + 1:=⟨fuel - 1,by omega⟩
  rw [b_bp,ct (dt (by omega)),mul_dbl h1 h2,Option.bind_some,wp1 (by omega)]
  rw [← dblN_s]
  exact ih fuel (i + 1) _ (by omega) (by omega) (by omega) (by omega) (dbl_rng h1).1 (dbl_rng h1).2
theorem rsteps_ok {n:Nat} {k:Int} {x0:Sl S_b} (hn:2100 ≤ n) (h0:0 ≤ w) (h1:w ≤ 10000) (hL:m_I (n - 1) x0 w = some (k,0)) :
  m_be n x0 w = some (wdA k (fnear ((w.toNat + 1:Nat):Int)),0):=by
 obtain ⟨n,rfl⟩:∃ m,n = m + 1:=⟨n - 1,by omega⟩
 rw [Nat.add_sub_cancel] at hL
 obtain ⟨s1,s2,s3,s4⟩:=start_ok (n:=w.toNat) (by omega)
 simp only [m_be,b_cD]
 rw [hL,Option.bind_some,cfl (by rfl)]
 unfold wdA
 by_cases hk:1100 < k
 ·rw [ct (dt hk),inf_ok (by omega),Option.bind_some,if_pos hk]
 ·rw [cfl (df hk),if_neg hk,w64 (by omega) (by omega),show w + 1 = ((w.toNat + 1:Nat):Int) by omega]
  generalize fnear ((w.toNat + 1:Nat):Int) = r at *
  have:=rsteps_loop (n:=n) (k:=k) (x0:=x0) (by omega) k.toNat n 0 r (by omega) (by omega) (by omega) (by omega) (by omega) (by omega)
  simp only [show ((0:Nat):Int) = 0 from rfl] at this
  exact this
theorem rsteps_err {n:Nat} {e:Int} {x0:Sl S_b} (hn:2100 ≤ n) (he:e ≠ 0) (hL:m_I (n - 1) x0 w = some (0,e)):m_be n x0 w = some (0,e):=by
 obtain ⟨n,rfl⟩:∃ m,n = m + 1:=⟨n - 1,by omega⟩
 rw [Nat.add_sub_cancel] at hL
 simp only [m_be,b_cD]
 rw [hL,Option.bind_some,ct (by rw [df he]; rfl)]
end
def NodeIn (s:S_a):Prop:=(InK .i64 s.f_Kind) ∧ (InK .i64 s.f_A) ∧ (InK .i64 s.f_B) ∧ ((∀ x ∈ s.f_Set.f_W.l,InK .u64 x) ∧ True) ∧ (InK .i64 s.f_Min) ∧ (InK .i64 s.f_Max) ∧ (InK .i64 s.f_Mode) ∧ (InK .i64 s.f_N) ∧ (True) ∧ True
def TreeIn (t:Sl S_a):Prop:=∀ l,t = some l → l.length ≤ maxLen ∧ ∀ y ∈ l,NodeIn y
theorem cutT {n:Nat} {x:Sl S_a} (hn:1 ≤ n) (m:Nat):∃ y,m_cf n x (m:Int) = some y ∧ (Sl.l y).length ≤ m:=by
 obtain ⟨n,rfl⟩:∃ m,n = m + 1:=⟨n - 1,by omega⟩
 simp only [m_cf,b_dc,Sl.upto]
 rw [if_pos ⟨by simp only [Sl.len]; omega,by omega⟩]
 refine ⟨_,rfl,?_⟩
 cases x with
 | none=>simp [Sl.l]
 | some l=>simp [Sl.l,Sl.len]; omega
theorem zero_eq:fcmp .eql 0 0 = true:=by decide
theorem pure (x0:Sl S_a) (w:Int) (h:TreeIn x0) (hw:InK .i64 w):∃ n,m_cT n x0 w = some true:=by
 refine ⟨3002,?_⟩
 simp only [m_cT,b_cc]
 obtain ⟨y,hy,hl⟩:=cutT (n:=3001) (x:=x0) (by omega) 60
 have hfix:m_cG 3001 = some true:=rfl
 rw [show ((60:Nat):Int) = 60 from rfl] at hy
 have hR:m_bm 3000 y = some (rightR (Sl.l y)):=right_eq (by omega)
 have hRs:m_bm 2999 y = some (rightR (Sl.l y)):=right_eq (by omega)
 rw [hy,Option.bind_some,ref_ok (by omega) (by omega),Option.bind_some]
 have fin:∀ k e r,m_B 3001 y w = some (k,e) → m_I 3001 (some ((Sl.l y).map refN)) w = some (k,e) → m_X 3000 y w = some (r,e) → m_X 3001 y w = some (r,e) → m_be 3001 (some ((Sl.l y).map refN)) w = some (r,e) → fcmp .eql r r = true →
   ((m_B 3001 y w).bind fun v41=>(m_I 3001 (some ((Sl.l y).map refN)) w).bind fun v43=>(m_X 3001 y w).bind fun v46=>(m_be 3001 (some ((Sl.l y).map refN)) w).bind fun v48=>(m_bU 3001 y w).bind fun v51 =>
    (bif ((((((decide (v41.1 = v43.1)) && (decide (v41.2 = v43.2))) && (fcmp .eql v46.1 v48.1)) && (decide (v46.2 = v48.2))) && (fcmp .eql v51.1.f_Steps v48.1)) && (fcmp .eql v51.1.f_Room v48.1)) && (decide (v51.2 = v43.2)) then ((m_cG 3001).bind fun v137=>some v137) else some false).bind fun y138=>some y138) = some true:=fun k e r h1 h2 h3 h3' h4 h5=>by
  have h6:m_bU 3001 y w = some (⟨r,r⟩,e):=by
   simp only [m_bU,b_c6]
   rw [h3]; rfl
  rw [h1,Option.bind_some,h2,Option.bind_some,h3',Option.bind_some,h4,Option.bind_some,h6,Option.bind_some]
  simp only
  rw [h5,ct (by simp),hfix]; rfl
 by_cases he:rightR (Sl.l y) = 0
 ·rw [he] at hR hRs
  by_cases hr:w < 0 ∨ 10000 < w
  ·exact fin 0 1 0 (long_out (by omega) hR hr) (rlong_out (by omega) he hr) (steps_err (by omega) (by omega) (long_out (by omega) ((right_eq (by omega)).trans (by rw [he])) hr)) (steps_err (by omega) (by omega) (long_out (by omega) hRs hr)) (rsteps_err (by omega) (by omega) (rlong_out (by omega) he hr)) zero_eq
  ·have hf:formedR (Sl.l y) = 0:=by
    unfold rightR at he
    by_cases hf:formedR (Sl.l y) = 0
    ·exact hf
    ·rw [if_neg hf] at he; exact he
   obtain ⟨t,ht,hs,hd⟩:=formed_tree hf
   have w0:0 ≤ w:=by omega
   have w1:w ≤ 10000:=by omega
   obtain ⟨s1,s2,s3,s4⟩:=start_ok (n:=w.toNat) (by omega)
   have hL:∀ n,1500 ≤ n → m_B n y w = some (longT t w,0):=fun n hn=>long_tree (by omega) ((right_eq (by omega)).trans (by rw [he])) (by omega) ht w0 w1
   refine fin (longT t w) 0 (wdA (longT t w) (fnear ((w.toNat + 1:Nat):Int))) (hL _ (by omega)) (rlong_tree (by omega) he (by omega) ht w0 w1) (steps_ok (by omega) w0 w1 (hL _ (by omega))) (steps_ok (by omega) w0 w1 (hL _ (by omega))) (rsteps_ok (by omega) w0 w1 (rlong_tree (by omega) he (by omega) ht w0 w1)) ?_
   unfold wdA
   split
   ·exact order_self (by omega) (by omega)
   ·have:=dblN_rng (k:=(longT t w).toNat) (r:=fnear ((w.toNat + 1:Nat):Int)) (by omega)
    exact order_self this.1 this.2
 ·have e:∀ n,1400 ≤ n → m_B n y w = some (0,rightR (Sl.l y)):=fun n hn=>long_err hn (right_eq (by omega)) he
  exact fin 0 (rightR (Sl.l y)) 0 (e _ (by omega)) (rlong_err (by omega) he) (steps_err (by omega) he (e _ (by omega))) (steps_err (by omega) he (e _ (by omega))) (rsteps_err (by omega) he (rlong_err (by omega) he)) zero_eq
end Go.Proofs.YtaadjlpfdajggaaGreatDoor.boundTells
