/-
  THE PLAIN LAW: no program in sight.
-/
import Derived.Test.YtaadjlpfdajggaaGreatDoorFjAm22
import Derived.Test.YtaadjlpfdajggaaGreatDoorFjTab
import Derived.Test.YtaadjlpfdajggaaGreatDoorFjLaw3
set_option linter.unusedVariables false
set_option linter.unusedSimpArgs false
namespace Go.AM
open Go
abbrev B (s:ByteArray):List Int:=bytesOf s
theorem B_len (s:ByteArray):(B s).length = s.size:=by simp [B,bytesOf]
theorem sadd_eq {s u:ByteArray} (h:s.size+u.size < 9000000000000000000):sadd s u = some (s ++ u):=if_pos (by simp only [show IntKind.i64.max = 9223372036854775807 from rfl];omega)
theorem B_strOf {l:List Int} (h:∀ x∈l,0<=x/\x < 256):B (strOf (some l)) = l:=by
 simp only [B,bytesOf,strOf,Sl.l,List.map_map]
 conv=>rhs;rw [<- List.map_id l]
 refine List.map_congr_left fun x hx=>?_
 have:=h x hx
 simp [Function.comp,UInt8.toNat_ofNat'];omega
theorem bind_some {α β:Type} (a:α) (f:α->Option β):(some a).bind f = f a:=rfl
theorem ck_ok {n:Nat} {i:Nat} (h:i < n):ck n (i:Int) = some i:=by
 rw [ck,if_pos (by omega)];simp
theorem ck_int {n:Nat} {i:Int} (h:0<=i) (h':i < n):ck n i = some i.toNat:=if_pos ⟨h,h'⟩
theorem w64 {n:Int} (h:-9223372036854775808<=n) (h':n < 9223372036854775808):IntKind.i64.wrap n = n:=wrap_i64 h h'
theorem wp1 {j:Nat} (h:j < 1000000):IntKind.i64.wrap ((j:Int)+1) = ((j+1:Nat):Int):=by rw [w64 (by omega) (by omega)];omega
def bin:Nat->(Nat->Bool)->Nat
 | 0,_=>0
 | n+1,f=>2*bin n (fun i=>f (i+1))+(f 0).toNat
theorem bin_lt (n:Nat) (f:Nat->Bool):bin n f < 2 ^ n:=by
 induction n generalizing f with
 | zero=>simp [bin]
 | succ n ih =>
  have:=ih (fun i=>f (i+1))
  rw [bin,Nat.pow_succ]
  cases f 0 <;> simp <;> omega
theorem bin_bit (n:Nat) (f:Nat->Bool) (i:Nat):(bin n f).testBit i = (decide (i < n)&&f i):=by
 induction n generalizing f i with
 | zero=>simp [bin]
 | succ n ih =>
  cases i with
  | zero=>rw [bin,Nat.testBit_zero];cases f 0 <;> simp [Nat.add_mod,Nat.mul_mod_right]
  | succ i =>
   rw [bin,Nat.testBit_succ,show (2*bin n (fun i=>f (i+1))+(f 0).toNat) / 2 = bin n (fun i=>f (i+1)) by cases f 0 <;> simp <;> omega,ih]
   simp
theorem bin_ext {n:Nat} {x:Nat} {f:Nat->Bool} (hx:x < 2 ^ n) (h:∀ i,i < n->x.testBit i = f i):x = bin n f:=by
 refine Nat.eq_of_testBit_eq fun i=>?_;rw [bin_bit]
 by_cases hi:i < n
 ·simp [hi,h i hi]
 ·simp only [hi,decide_false,Bool.false_and];exact Nat.testBit_lt_two_pow (Nat.lt_of_lt_of_le hx (Nat.pow_le_pow_right (by omega) (by omega)))
def wd (P:Nat->Bool) (j:Nat):Int:=(bin 64 fun i=>P (64*j+i):Nat)
theorem ofInt_nat (k:Nat) (x:Nat):(BitVec.ofInt k (x:Int)).toNat = x % 2 ^ k:=by simp
theorem u64_nat {x:Nat} (h:x < 2 ^ 64):IntKind.u64.wrap (x:Int) = (x:Int):=by
 simp only [IntKind.wrap,IntKind.signed,IntKind.bits,Bool.false_and,bFt,if_false];omega
theorem orI_nat {x y:Nat} (hx:x < 2 ^ 64) (hy:y < 2 ^ 64):orI .u64 x y = ((x ||| y:Nat):Int):=by
 have e:(BitVec.ofInt IntKind.u64.bits (x:Int) ||| BitVec.ofInt IntKind.u64.bits (y:Int)).toNat = x ||| y:=by
  rw [BitVec.toNat_or,ofInt_nat,ofInt_nat,show IntKind.u64.bits = 64 from rfl,Nat.mod_eq_of_lt hx,Nat.mod_eq_of_lt hy]
 rw [orI,e,u64_nat (Nat.or_lt_two_pow hx hy)]
theorem andI_nat {x y:Nat} (hx:x < 2 ^ 64) (hy:y < 2 ^ 64):andI .u64 x y = ((x &&& y:Nat):Int):=by
 have e:(BitVec.ofInt IntKind.u64.bits (x:Int) &&& BitVec.ofInt IntKind.u64.bits (y:Int)).toNat = x &&& y:=by
  rw [BitVec.toNat_and,ofInt_nat,ofInt_nat,show IntKind.u64.bits = 64 from rfl,Nat.mod_eq_of_lt hx,Nat.mod_eq_of_lt hy]
 rw [andI,e,u64_nat (Nat.and_lt_two_pow _ hy)]
theorem or_wd (P Q:Nat->Bool) (j:Nat):orI .u64 (wd P j) (wd Q j) = wd (fun i=>P i||Q i) j:=by
 rw [wd,wd,orI_nat (bin_lt _ _) (bin_lt _ _),wd];exact congrArg _ (bin_ext (Nat.or_lt_two_pow (bin_lt _ _) (bin_lt _ _)) fun i hi=>by simp [bin_bit,hi])
end Go.AM

set_option maxRecDepth 100000
set_option linter.unusedVariables false
set_option linter.unusedSimpArgs false
namespace Go.Proofs.YtaadjlpfdajggaaGreatDoor
open Go Go.AM
section
variable {β:Type} {vs:List β} {z v w:β} {i j:Nat}
def pf (vs:List β) (z:β) (i:Nat):Sl β:=some (vs.take i ++ List.replicate (vs.length - i) z)
theorem pf_len (h:i<=vs.length):(Sl.l (pf vs z i)).length = vs.length:=by simp [pf,Sl.l];omega
theorem pf_nth [Inhabited β] (h:j < i) (hv:vs[j]? = some v):Sl.nth (pf vs z i) j = v:=by
 have hj:=(lGs.1 hv).1;simp only [pf,Sl.nth,Sl.l,List.getD];rw [lGl (by simp;omega),List.getElem?_take_of_lt h,hv];rfl
theorem pf_put (hv:vs[i]? = some v):Sl.put (pf vs z i) i v = pf vs z (i+1):=by
 obtain ⟨hi,rfl⟩:=lGs.1 hv;simp only [pf,Sl.put,oMs,oIq];rw [List.set_append_right _ _ (by simp;omega),show vs.length - i = (vs.length - (i+1))+1 by omega,List.replicate_succ,show i - (List.take i vs).length = 0 by simp;omega,List.set_cons_zero,List.take_succ_eq_append_getElem hi,lAs];rfl
theorem pf_skip (hv:vs[i]? = some z):pf vs z i = pf vs z (i+1):=by
 obtain ⟨hi,hz⟩:=lGs.1 hv;simp only [pf,oIq];rw [show vs.length - i = (vs.length - (i+1))+1 by omega,List.replicate_succ,List.take_succ_eq_append_getElem hi,hz,lAs];rfl
theorem pf_end:pf vs z vs.length = some vs:=by simp [pf]
theorem pf_0:pf vs z 0 = some (List.replicate vs.length z):=by simp [pf]
theorem nth_put_ne [Inhabited β] {x:Sl β} (h:i ≠ j):Sl.nth (Sl.put x i v) j = Sl.nth x j:=by
 cases x with
 | none=>rfl
 | some l=>simp only [Sl.put,Sl.nth,Sl.l,oMs,List.getD,List.getElem?_set_ne h]
theorem nth_put_eq [Inhabited β] {x:Sl β} (h:i < (Sl.l x).length):Sl.nth (Sl.put x i v) i = v:=by
 cases x with
 | none=>simp [Sl.l] at h
 | some l=>simp only [Sl.l] at h;simp [Sl.put,Sl.nth,Sl.l,List.getD,h]
theorem put_put {x:Sl β}:Sl.put (Sl.put x i v) i w = Sl.put x i w:=by
 cases x with
 | none=>rfl
 | some l=>simp [Sl.put]
theorem put_len {x:Sl β}:(Sl.l (Sl.put x i v)).length = (Sl.l x).length:=by
 cases x with
 | none=>rfl
 | some l=>simp [Sl.put,Sl.l]
theorem nth_l [Inhabited β] {x:Sl β} (h:(Sl.l x)[i]? = some v):Sl.nth x i = v:=by simp [Sl.nth,List.getD,h]
end
def kd (k:Int):Nat:=if k = 8 \/ k = 9 then 2 else if k = 10 \/ k = 11 \/ k = 13 \/ k = 14 \/ k = 15 \/ k = 16 \/ k = 17 then 1 else 0
theorem kids_ok {n:Nat} (k:Int) (h:1<=n):m_ch n k = some ((kd k:Nat):Int):=by
 obtain ⟨n,rfl⟩:∃ m,n = m+1:=⟨n - 1,by omega⟩
 simp only [m_ch,b_fB,b_dz,b_bs,kd]
 by_cases h8:k = 8
 ·subst h8;rfl
 by_cases h9:k = 9
 ·subst h9;rfl
 by_cases h10:k = 10
 ·subst h10;rfl
 by_cases h11:k = 11
 ·subst h11;rfl
 by_cases h13:k = 13
 ·subst h13;rfl
 by_cases h14:k = 14
 ·subst h14;rfl
 by_cases h15:k = 15
 ·subst h15;rfl
 by_cases h16:k = 16
 ·subst h16;rfl
 by_cases h17:k = 17
 ·subst h17;rfl
 simp [*]
def bareS (x:S_c):S_c:={ x with f_Kind:=0,f_A:=0,f_B:=0 }
def fitsB (x:S_c):Bool:=decide (0<=x.f_Kind)&&decide (x.f_Kind < 18)&&decide (bareS x = bareS (ownS x)) &&
 (!decide (x.f_Kind = 10)||(decide (0<=x.f_Min)&&decide (x.f_Min<=100)&&(decide (x.f_Max = -1)||(decide (x.f_Min<=x.f_Max)&&decide (x.f_Max<=100)))&&decide (0<=x.f_Mode)&&decide (x.f_Mode<=2)))
theorem fits_ok {n:Nat} (x:S_c) (h:2<=n):m_bJ n x = some (fitsB x):=by
 obtain ⟨n,rfl⟩:∃ m,n = m+2:=⟨n - 2,by omega⟩
 simp only [m_bJ,b_du,m_dx,b_dw,m_dP,oBs,fitsB];show _ = some (_&&decide (bareS x = bareS (ownS x))&&_)
 by_cases h0:x.f_Kind < 0
 ·simp [h0,show ¬ (0<=x.f_Kind) by omega]
 by_cases h1:18<=x.f_Kind
 ·simp [h0,h1,show ¬ (x.f_Kind < 18) by omega]
 have h0':0<=x.f_Kind:=by omega
 have h1':x.f_Kind < 18:=by omega
 by_cases h2:bareS x = bareS (ownS x)
 ·have h2':=h2;simp only [bareS] at h2'
  by_cases h3:x.f_Kind = 10 <;> simp [h0,h1,h0',h1',h2,h2',h3]
 ·have h2':=h2;simp only [bareS] at h2'
  by_cases h3:x.f_Kind = 10 <;> simp [h0,h1,h0',h1',h2,h2',h3]
inductive Tm where
 | leaf (n:S_c)
 | one (n:S_c) (t:Tm)
 | two (n:S_c) (a b:Tm)
def Tm.flat:Tm->List S_c
 | .leaf n=>[n]
 | .one n t=>t.flat ++ [n]
 | .two n a b=>a.flat ++ b.flat ++ [n]
def Tm.size:Tm->Nat
 | .leaf n=>1
 | .one n t=>t.size+1
 | .two n a b=>a.size+b.size+1
theorem Tm.pos:∀ t:Tm,0 < t.size
 | .leaf n=>by simp [Tm.size]
 | .one n t=>by simp [Tm.size]
 | .two n a b=>by simp [Tm.size]
theorem Tm.flat_len:∀ t:Tm,t.flat.length = t.size
 | .leaf n=>rfl
 | .one n t=>by simp [Tm.flat,Tm.size,t.flat_len]
 | .two n a b=>by simp [Tm.flat,Tm.size,a.flat_len,b.flat_len];omega
def Tm.At (k:Nat):Tm->Prop
 | .leaf n=>fitsB n = true/\kd n.f_Kind = 0/\n.f_A = 0/\n.f_B = 0
 | .one n t=>t.At k/\fitsB n = true/\kd n.f_Kind = 1/\n.f_A+1 = ((k+t.size:Nat):Int)/\n.f_B = 0
 | .two n a b=>a.At k/\b.At (k+a.size)/\fitsB n = true/\kd n.f_Kind = 2/\n.f_A+1 = ((k+a.size:Nat):Int)/\n.f_B+1 = ((k+a.size+b.size:Nat):Int)
section
variable {β:Type} (d:β) (alg:S_c->β->β->β)
def Tm.val:Tm->β
 | .leaf n=>alg n d d
 | .one n t=>alg n t.val d
 | .two n a b=>alg n a.val b.val
def Tm.vals:Tm->List β
 | .leaf n=>[alg n d d]
 | .one n t=>t.vals ++ [alg n (t.val d alg) d]
 | .two n a b=>a.vals ++ b.vals ++ [alg n (a.val d alg) (b.val d alg)]
theorem Tm.vals_len:∀ t:Tm,(t.vals d alg).length = t.size
 | .leaf n=>rfl
 | .one n t=>by simp [Tm.vals,Tm.size,t.vals_len]
 | .two n a b=>by simp [Tm.vals,Tm.size,a.vals_len,b.vals_len];omega
theorem Tm.vals_last:∀ t:Tm,(t.vals d alg)[t.size - 1]? = some (t.val d alg)
 | .leaf n=>rfl
 | .one n t=>by
  simp only [Tm.vals,Tm.size,Tm.val,Nat.add_sub_cancel];rw [lGr (by simp [Tm.vals_len]),Tm.vals_len];simp
 | .two n a b=>by
  simp only [Tm.vals,Tm.size,Tm.val,Nat.add_sub_cancel];rw [lGr (by simp [Tm.vals_len])];simp [Tm.vals_len]
structure Kid (k i:Nat) (vs:List β) (x:S_c):Prop where
 fits:fitsB x = true
 at_:(kd x.f_Kind = 0/\x.f_A = 0/\x.f_B = 0/\vs[i]? = some (alg x d d)) \/
  (kd x.f_Kind = 1/\∃ j v,j < i/\x.f_A = ((k+j:Nat):Int)/\x.f_B = 0/\vs[j]? = some v/\vs[i]? = some (alg x v d)) \/
  (kd x.f_Kind = 2/\∃ j m v w,j < i/\m < i/\x.f_A = ((k+j:Nat):Int)/\x.f_B = ((k+m:Nat):Int)/\vs[j]? = some v/\vs[m]? = some w/\vs[i]? = some (alg x v w))
variable {d alg}
theorem Kid.left {k i:Nat} {vs us:List β} {x:S_c} (h:Kid d alg k i vs x):Kid d alg k i (vs ++ us) x:=by
 have up:∀ {j v},vs[j]? = some v->(vs ++ us)[j]? = some v:=fun {j v} hv=>by rw [lGl (lGs.1 hv).1];exact hv
 refine ⟨h.fits,?_⟩
 rcases h.at_ with ⟨h1,h2,h3,h4⟩ | ⟨h1,j,v,h2,h3,h4,h5,h6⟩ | ⟨h1,j,m,v,w,h2,h3,h4,h5,h6,h7,h8⟩
 ·exact .inl ⟨h1,h2,h3,up h4⟩
 ·exact .inr (.inl ⟨h1,j,v,h2,h3,h4,up h5,up h6⟩)
 ·exact .inr (.inr ⟨h1,j,m,v,w,h2,h3,h4,h5,up h6,up h7,up h8⟩)
theorem Kid.right {k i a:Nat} {vs us:List β} {x:S_c} (h:Kid d alg (k+a) i vs x) (ha:us.length = a):Kid d alg k (a+i) (us ++ vs) x:=by
 have up:∀ {j v},vs[j]? = some v->(us ++ vs)[a+j]? = some v:=fun {j v} hv=>by rw [lGr (by omega),<- hv];congr 1;omega
 refine ⟨h.fits,?_⟩
 rcases h.at_ with ⟨h1,h2,h3,h4⟩ | ⟨h1,j,v,h2,h3,h4,h5,h6⟩ | ⟨h1,j,m,v,w,h2,h3,h4,h5,h6,h7,h8⟩
 ·exact .inl ⟨h1,h2,h3,up h4⟩
 ·exact .inr (.inl ⟨h1,a+j,v,by omega,by rw [h3];congr 1;omega,h4,up h5,up h6⟩)
 ·exact .inr (.inr ⟨h1,a+j,a+m,v,w,by omega,by omega,by rw [h4];congr 1;omega,by rw [h5];congr 1;omega,up h6,up h7,up h8⟩)
theorem Tm.kid:∀ {t:Tm} {k i:Nat} {x:S_c},t.At k->t.flat[i]? = some x->Kid d alg k i (t.vals d alg) x
 | .leaf n,k,i,x,h,hx=>by
  have hi:=(lGs.1 hx).1;simp [Tm.flat] at hi;subst hi;simp [Tm.flat] at hx;subst hx;exact ⟨h.1,.inl ⟨h.2.1,h.2.2.1,h.2.2.2,rfl⟩⟩
 | .one n t,k,i,x,h,hx=>by
  obtain ⟨h1,h2,h3,h4,h5⟩:=h
  by_cases hi:i < t.size
  ·rw [Tm.flat,lGl (by rw [Tm.flat_len];exact hi)] at hx;exact (Tm.kid h1 hx).left
  ·have hlt:=(lGs.1 hx).1;simp [Tm.flat,Tm.flat_len] at hlt
   obtain rfl:i = t.size:=by omega
   rw [Tm.flat,lGr (by rw [Tm.flat_len];exact Nat.le_refl _)] at hx;simp [Tm.flat_len] at hx;subst hx;have hp:=t.pos;refine ⟨h2,.inr (.inl ⟨h3,t.size - 1,t.val d alg,by omega,by omega,h5,?_,?_⟩)⟩
   ·rw [Tm.vals,lGl (by rw [Tm.vals_len];omega)];exact t.vals_last d alg
   ·exact Tm.vals_last d alg (.one n t)
 | .two n a b,k,i,x,h,hx=>by
  obtain ⟨h1,h2,h3,h4,h5,h6⟩:=h;have ha:=a.pos;have hb:=b.pos
  by_cases hi:i < a.size
  ·rw [Tm.flat,lAs,lGl (by rw [Tm.flat_len];exact hi)] at hx
   have:=(Tm.kid h1 hx).left (us:=b.vals d alg ++ [alg n (a.val d alg) (b.val d alg)])
   rw [<- lAs] at this;exact this
  ·by_cases hi2:i < a.size+b.size
   ·rw [Tm.flat,lGl (by simp [Tm.flat_len];omega),lGr (by rw [Tm.flat_len];omega),Tm.flat_len] at hx
    have:=((Tm.kid h2 hx).right (a.vals_len d alg)).left (us:=[alg n (a.val d alg) (b.val d alg)])
    rw [show a.size+(i - a.size) = i by omega] at this;exact this
   ·have hlt:=(lGs.1 hx).1;simp [Tm.flat,Tm.flat_len] at hlt
    obtain rfl:i = a.size+b.size:=by omega
    rw [Tm.flat,lGr (by simp [Tm.flat_len])] at hx;simp [Tm.flat_len] at hx;subst hx;refine ⟨h3,.inr (.inr ⟨h4,a.size - 1,a.size+b.size - 1,a.val d alg,b.val d alg,by omega,by omega,by omega,by omega,?_,?_,?_⟩)⟩
    ·rw [Tm.vals,lAs,lGl (by rw [Tm.vals_len];omega)];exact a.vals_last d alg
    ·rw [Tm.vals,lGl (by simp [Tm.vals_len];omega),lGr (by rw [Tm.vals_len];omega),Tm.vals_len,show a.size+b.size - 1 - a.size = b.size - 1 by omega];exact b.vals_last d alg
    ·exact Tm.vals_last d alg (.two n a b)
end
def szA (_:S_c) (v w:Int):Int:=1+v+w
abbrev Tm.szs (t:Tm):List Int:=t.vals 0 szA
theorem Tm.sz_val:∀ t:Tm,t.val 0 szA = (t.size:Int)
 | .leaf n=>rfl
 | .one n t=>by simp [Tm.val,szA,Tm.size,t.sz_val];omega
 | .two n a b=>by simp [Tm.val,szA,Tm.size,a.sz_val,b.sz_val];omega
def st1 (k:Nat) (st:List Tm) (x:S_c):Option (List Tm) :=
 match kd x.f_Kind,st with
 | 0,st=>if fitsB x = true/\x.f_A = 0/\x.f_B = 0 then some (.leaf x :: st) else none
 | 1,t :: st=>if fitsB x = true/\x.f_A+1 = (k:Int)/\x.f_B = 0 then some (.one x t :: st) else none
 | 2,b :: a :: st=>if fitsB x = true/\x.f_A+1+b.size = (k:Int)/\x.f_B+1 = (k:Int) then some (.two x a b :: st) else none
 | _,_=>none
def sts (k:Nat) (st:List Tm):List S_c->Option (List Tm)
 | []=>some st
 | x :: xs=>(st1 k st x).bind fun st'=>sts (k+1) st' xs
def ff:List Tm->List S_c
 | []=>[]
 | t :: st=>ff st ++ t.flat
def fs:List Tm->List Int
 | []=>[]
 | t :: st=>fs st ++ t.szs
def FAt:List Tm->Prop
 | []=>True
 | t :: st=>FAt st/\t.At (ff st).length
theorem fs_len:∀ st,(fs st).length = (ff st).length
 | []=>rfl
 | t :: st=>by simp [fs,ff,fs_len st,Tm.vals_len,Tm.flat_len]
theorem kd_le (k:Int):kd k = 0 \/ kd k = 1 \/ kd k = 2:=by
 unfold kd
 split
 ·simp
 ·split <;> simp
theorem st1_some {k:Nat} {st st':List Tm} {x:S_c} (h:st1 k st x = some st') (hf:FAt st) (hk:k = (ff st).length):FAt st'/\ff st' = ff st ++ [x]:=by
 unfold st1 at h
 split at h
 ·rename_i h0
  split at h
  ·rename_i hc
   injection h with h;subst h
   exact ⟨⟨hf,hc.1,h0,hc.2.1,hc.2.2⟩,rfl⟩
  ·cases h
 ·rename_i t st0 h1
  split at h
  ·rename_i hc
   injection h with h;subst h
   refine ⟨⟨hf.1,hf.2,hc.1,h1,?_,hc.2.2⟩,by simp [ff,Tm.flat]⟩;rw [hc.2.1,hk];simp [ff,Tm.flat_len]
  ·cases h
 ·rename_i b a st0 h1
  split at h
  ·rename_i hc
   injection h with h;subst h
   refine ⟨⟨hf.1.1,hf.1.2,?_,hc.1,h1,?_,?_⟩,by simp [ff,Tm.flat]⟩
   ·have:=hf.2;simpa [ff,Tm.flat_len] using this
   ·have:=hc.2.1;rw [hk] at this;simp [ff,Tm.flat_len] at this ⊢;omega
   ·have:=hc.2.2;rw [hk] at this;simp [ff,Tm.flat_len] at this ⊢;omega
  ·cases h
 ·cases h
theorem sts_tree:∀ {t:Tm} {k:Nat} {st:List Tm} {xs:List S_c},t.At k->sts k st (t.flat ++ xs) = sts (k+t.size) (t :: st) xs
 | .leaf n,k,st,xs,h=>by
  obtain ⟨h1,h2,h3,h4⟩:=h;simp only [Tm.flat,List.singleton_append,sts,Tm.size,st1,h2];rw [if_pos ⟨h1,h3,h4⟩];rfl
 | .one n t,k,st,xs,h=>by
  obtain ⟨h1,h2,h3,h4,h5⟩:=h;simp only [Tm.flat,lAs,Tm.size];rw [sts_tree h1];simp only [List.singleton_append,sts,st1,h3];rw [if_pos ⟨h2,h4,h5⟩];rfl
 | .two n a b,k,st,xs,h=>by
  obtain ⟨h1,h2,h3,h4,h5,h6⟩:=h;simp only [Tm.flat,lAs,Tm.size];rw [sts_tree h1,sts_tree h2];simp only [List.singleton_append,sts,st1,h4];rw [if_pos ⟨h3,by rw [h5];simp,h6⟩];simp only [oBs]
  congr 1;omega
theorem sts_some:∀ {xs:List S_c} {k:Nat} {st st':List Tm},sts k st xs = some st'->FAt st->k = (ff st).length->FAt st'/\ff st' = ff st ++ xs
 | [],k,st,st',h,hf,hk=>by simp [sts] at h;subst h;exact ⟨hf,by simp⟩
 | x :: xs,k,st,st',h,hf,hk=>by
  simp only [sts,oBe] at h;obtain ⟨s1,h1,h2⟩:=h;obtain ⟨f1,e1⟩:=st1_some h1 hf hk;obtain ⟨f2,e2⟩:=sts_some h2 f1 (by rw [e1,hk];simp);exact ⟨f2,by rw [e2,e1];simp⟩
def tree (l:List S_c):Option Tm :=
 match sts 0 [] l with
 | some [t]=>some t
 | _=>none
theorem tree_some {l:List S_c} {t:Tm} (h:tree l = some t):l = t.flat/\t.At 0:=by
 unfold tree at h
 split at h
 ·rename_i t' ht
  injection h with h;subst h
  obtain ⟨h1,h2⟩:=sts_some ht trivial rfl;exact ⟨by simpa [ff] using h2.symm,by simpa [ff] using h1.2⟩
 ·cases h
theorem tree_flat {t:Tm} (h:t.At 0):tree t.flat = some t:=by
 have:=sts_tree (st:=[]) (xs:=[]) h
 rw [List.append_nil] at this;simp [tree,this,sts]
end Go.Proofs.YtaadjlpfdajggaaGreatDoor

set_option maxRecDepth 100000
set_option linter.unusedVariables false
set_option linter.unusedSimpArgs false
namespace Go.Proofs.YtaadjlpfdajggaaGreatDoor
open Go Go.AM
theorem ct {α:Type} {c:Bool} {a b:α} (h:c = true):(bif c then a else b) = a:=by rw [h];rfl
theorem cfl {α:Type} {c:Bool} {a b:α} (h:c = false):(bif c then a else b) = b:=by rw [h];rfl
theorem dt {p:Prop} [Decidable p] (h:p):decide p = true:=decide_eq_true h
theorem df {p:Prop} [Decidable p] (h:¬ p):decide p = false:=decide_eq_false h
theorem fs_last {t:Tm} {st:List Tm}:(fs (t :: st))[(ff (t :: st)).length - 1]? = some (t.size:Int):=by
 have:=t.pos
 simp only [fs,ff,lLa,Tm.flat_len];rw [lGr (by rw [fs_len];omega),fs_len,show (ff st).length+t.size - 1 - (ff st).length = t.size - 1 by omega,<- t.sz_val];exact t.vals_last 0 szA
theorem fs_last2 {a b:Tm} {st:List Tm}:(fs (b :: a :: st))[(ff (b :: a :: st)).length - 1 - b.size]? = some (a.size:Int):=by
 have:=a.pos
 have h:(ff (b :: a :: st)).length - 1 - b.size = (ff (a :: st)).length - 1:=by simp [ff,Tm.flat_len];omega
 rw [h,fs,lGl (by rw [fs_len];simp [ff,Tm.flat_len];omega)];exact fs_last
def single:List Tm->Bool
 | [_]=>true
 | _=>false
theorem put_rep {l:List Int} {m:Nat} {v z:Int} {k:Nat} (hk:k = l.length):Sl.put (some (l ++ List.replicate (m+1) z)) k v = some ((l ++ [v]) ++ List.replicate m z):=by
 subst hk;simp only [Sl.put,oMs,oIq];rw [List.set_append_right _ _ (Nat.le_refl _),Nat.sub_self,List.replicate_succ,List.set_cons_zero,lAs];rfl
theorem nth_app {l:List Int} {m:List Int} {j:Nat} {v:Int} (h:l[j]? = some v):Sl.nth (some (l ++ m)) j = v:=by
 simp only [Sl.nth,Sl.l,List.getD];rw [lGl (lGs.1 h).1,h];rfl
theorem make_ok {α:Type} {z n m:Nat} {a:α} (h:n<=m) (hm:z*m<=10000000) (hm':m<=10000000):Sl.make z n m a = some (some (List.replicate n a)):=by
 have hr:(10000000:Nat)<=roomMost:=nLb rfl
 have hr':((z:Int)*m)<=((10000000:Nat):Int):=by rw [<- Int.natCast_mul];exact Int.ofNat_le.2 hm
 unfold Sl.make;rw [if_pos ⟨by omega,by omega,by omega,by omega⟩]
 simp
theorem app1 {α:Type} {l:List α} {x:α} {z:Nat} (h:(l.length+1)*z<=8000000):Sl.app z (some l) (some [x]) = some (some (l ++ [x])):=by
 have hr2:(8000000:Nat)<=roomMost:=nLb rfl;unfold Sl.app;rw [if_neg (by simp [Sl.l]),if_pos (by simp [Sl.l];omega)];rfl
section
variable {n:Nat} {x0:Sl S_c}
theorem sizes_2 {q:Sl Int->Int->Int->Option (Sl Int × Bool)} {x:S_c} {l:List Int} {m k:Nat} {a b s N:Int} (hn:2<=n) (hk:k = l.length) (hm:k < 1000) :
  b_b7 (m_ch n) (m_bJ n) n q x0 (some (l ++ List.replicate (m+1) 0)) (k:Int) x a b s N (k:Int) =
   if fitsB x = true/\x.f_A = a/\x.f_B = b then q (some ((l ++ [s]) ++ List.replicate m 0)) N ((k+1:Nat):Int) else some (none,false):=by
 simp only [b_b7,fits_ok x hn,oBs]
 by_cases h:fitsB x = true/\x.f_A = a/\x.f_B = b
 ·rw [if_pos h,cfl (by simp [h.1,h.2.1,h.2.2]),ck_ok (by simp [Sl.l];omega),oBs,put_rep hk,wp1 (by omega)]
 ·rw [if_neg h,ct];simp only [Bool.or_eq_true,Bool.not_eq_true',decide_eq_false_iff_not]
  by_cases h1:fitsB x = true
  ·by_cases h2:x.f_A = a
   ·exact .inr fun h3=>h ⟨h1,h2,h3⟩
   ·exact .inl (.inr h2)
  ·exact .inl (.inl (by simpa using h1))
theorem sizes_loop (hn:2<=n) (hN:(Sl.l x0).length<=500):∀ (xs:List S_c) (fuel:Nat) (st:List Tm),Sl.l x0 = ff st ++ xs->xs.length < fuel ->
  b_bg (m_ch n) (m_bJ n) n x0 fuel (some (fs st ++ List.replicate xs.length 0)) (Sl.len x0) ((ff st).length:Int) =
   match sts (ff st).length st xs with
   | none=>some (none,false)
   | some st'=>some (some (fs st'),single st'):=by
 intro xs
 induction xs with
 | nil =>
  intro fuel st hl hf
  obtain ⟨fuel,rfl⟩:∃ m,fuel = m+1:=⟨fuel - 1,by simp at hf;omega⟩
  have hlen:Sl.len x0 = ((ff st).length:Int):=by simp [Sl.len,hl]
  rw [b_bg,hlen,cfl (df (by omega))];simp only [sts,List.length_nil,List.replicate_zero,List.append_nil]
  have hb:(ff st).length<=500:=by rw [hl] at hN;simpa using hN
  rw [w64 (by omega) (by omega)]
  cases st with
  | nil=>rfl
  | cons t st =>
   have hp:0 < (ff (t :: st)).length:=by have:=t.pos;simp [ff,Tm.flat_len];omega
   rw [ct (dt (by omega)),ck_int (by omega) (by simp [Sl.l,fs_len];omega),oBs,oBs]
   have hj:(((ff (t :: st)).length:Int) - 1).toNat = (ff (t :: st)).length - 1:=by omega
   rw [hj,nth_l (v:=(t.size:Int)) fs_last]
   congr 2
   cases st with
   | nil=>simp [single,ff,Tm.flat_len]
   | cons u st=>have:=u.pos;simp [single,ff,Tm.flat_len];omega
 | cons x xs ih =>
  intro fuel st hl hf
  obtain ⟨fuel,rfl⟩:∃ m,fuel = m+1:=⟨fuel - 1,by simp at hf;omega⟩
  have hlen:Sl.len x0 = (((ff st).length+xs.length+1:Nat):Int):=by simp [Sl.len,hl];omega
  have hb:(ff st).length+xs.length+1<=500:=by rw [hl] at hN;simp at hN;omega
  have hx:Sl.nth x0 (ff st).length = x:=nth_l (by rw [hl,lGr (Nat.le_refl _)];simp);rw [b_bg,ct (dt (by rw [hlen];omega)),ck_ok (by rw [hl];simp),oBs,hx,kids_ok _ (by omega),oBs];simp only [sts,List.length_cons];have hkl:(ff st).length = (fs st).length:=(fs_len st).symm
  rcases kd_le x.f_Kind with h0 | h1 | h2
  ·rw [h0,cfl (df (by omega)),cfl (df (by omega)),sizes_2 hn hkl (by omega)];unfold st1;simp only [h0]
   by_cases hc:fitsB x = true/\x.f_A = 0/\x.f_B = 0
   ·rw [if_pos hc,if_pos hc,oBs]
    have:=ih fuel (.leaf x :: st) (by rw [hl];simp [ff,Tm.flat]) (by simp at hf;omega)
    simpa [fs,ff,Tm.flat,Tm.vals,szA] using this
   ·rw [if_neg hc,if_neg hc];rfl
  ·rw [h1,ct (dt (by omega)),w64 (by omega) (by omega)]
   cases st with
   | nil=>rw [ct (dt (by simp [ff]))];unfold st1;simp only [h1];rfl
   | cons t st =>
    have hp:0 < (ff (t :: st)).length:=by have:=t.pos;simp [ff,Tm.flat_len];omega
    have hts:t.size<=500:=by
     have:t.size<=(ff (t :: st)).length:=by simp [ff,Tm.flat_len]
     omega
    have hj:(((ff (t :: st)).length:Int) - 1).toNat = (ff (t :: st)).length - 1:=by omega
    rw [cfl (df (by omega)),ck_int (by omega) (by simp [Sl.l,fs_len];omega),oBs,hj,nth_app fs_last,w64 (by omega) (by omega),sizes_2 hn hkl (by omega)];unfold st1;simp only [h1]
    by_cases hc:fitsB x = true/\x.f_A = ((ff (t :: st)).length:Int) - 1/\x.f_B = 0
    ·rw [if_pos hc,if_pos ⟨hc.1,by omega,hc.2.2⟩,oBs]
     have:=ih fuel (.one x t :: st) (by rw [hl];simp [ff,Tm.flat]) (by simp at hf;omega)
     simpa [fs,ff,Tm.flat,Tm.vals,szA,Tm.sz_val,Nat.add_assoc] using this
    ·rw [if_neg hc,if_neg fun hc'=>hc ⟨hc'.1,by omega,hc'.2.2⟩];rfl
  ·rw [h2,cfl (df (by omega)),ct (dt (by omega)),w64 (by omega) (by omega)]
   cases st with
   | nil=>rw [ct (dt (by simp [ff]))];unfold st1;simp only [h2];rfl
   | cons b st =>
    have hp:0 < (ff (b :: st)).length:=by have:=b.pos;simp [ff,Tm.flat_len];omega
    have hts:b.size<=(ff (b :: st)).length:=by simp [ff,Tm.flat_len]
    have hj:(((ff (b :: st)).length:Int) - 1).toNat = (ff (b :: st)).length - 1:=by omega
    have e:Sl.nth (some (fs (b :: st) ++ List.replicate (xs.length+1) 0)) ((ff (b :: st)).length - 1) = (b.size:Int):=nth_app fs_last;rw [cfl (df (by omega)),ck_int (by omega) (by simp [Sl.l,fs_len];omega),oBs,hj];simp only [e];rw [w64 (by omega) (by omega)]
    cases st with
    | nil=>rw [ct (dt (by simp [ff,Tm.flat_len];omega))];unfold st1;simp only [h2];rfl
    | cons a st =>
     have ha:=a.pos
     have has:a.size+b.size<=(ff (b :: a :: st)).length:=by simp only [ff,Tm.flat_len,lLa];omega
     have hj2:(((ff (b :: a :: st)).length:Int) - 1 - (b.size:Int)).toNat = (ff (b :: a :: st)).length - 1 - b.size:=by omega
     rw [cfl (df (by omega)),ck_int (by omega) (by simp [Sl.l,fs_len];omega),oBs,hj2,nth_app fs_last2,w64 (n:=(a.size:Int)+b.size) (by omega) (by omega),w64 (by omega) (by omega),sizes_2 hn hkl (by omega)];unfold st1;simp only [h2]
     by_cases hc:fitsB x = true/\x.f_A = ((ff (b :: a :: st)).length:Int) - 1 - b.size/\x.f_B = ((ff (b :: a :: st)).length:Int) - 1
     ·rw [if_pos hc,if_pos ⟨hc.1,by omega,by omega⟩,oBs]
      have:=ih fuel (.two x a b :: st) (by rw [hl];simp [ff,Tm.flat]) (by simp at hf;omega)
      simpa [fs,ff,Tm.flat,Tm.vals,szA,Tm.sz_val,Nat.add_assoc,Int.add_assoc] using this
     ·rw [if_neg hc,if_neg fun hc'=>hc ⟨hc'.1,by omega,by omega⟩];rfl
theorem sizes_ok (hn:600<=n) (hN:(Sl.l x0).length<=500):m_bG n x0 = match sts 0 [] (Sl.l x0) with
   | none=>some (none,false)
   | some st'=>some (some (fs st'),single st'):=by
 obtain ⟨n,rfl⟩:∃ m,n = m+1:=⟨n - 1,by omega⟩
 simp only [m_bG,b_e2,Sl.len];rw [make_ok (Nat.le_refl _) (by omega) (by omega),oBs]
 have:=sizes_loop (n:=n) (x0:=x0) (by omega) hN (Sl.l x0) n [] rfl (by omega)
 simpa [fs,ff,Sl.len] using this
theorem sizes_tree (hn:600<=n) (hN:(Sl.l x0).length<=500) {t:Tm} (ht:tree (Sl.l x0) = some t):m_bG n x0 = some (some t.szs,true):=by
 rw [sizes_ok hn hN];unfold tree at ht
 split at ht
 ·rename_i t' h'
  injection ht with ht;subst ht
  rw [h'];simp [fs,single]
 ·cases ht
theorem sizes_none (hn:600<=n) (hN:(Sl.l x0).length<=500) (ht:tree (Sl.l x0) = none):∃ y,m_bG n x0 = some (y,false):=by
 rw [sizes_ok hn hN];unfold tree at ht
 cases h:sts 0 [] (Sl.l x0) with
 | none=>exact ⟨_,rfl⟩
 | some st =>
  rw [h] at ht;refine ⟨some (fs st),?_⟩
  match st,ht with
  | [],_=>rfl
  | [t],ht=>simp at ht
  | a :: b :: st,_=>rfl
end
end Go.Proofs.YtaadjlpfdajggaaGreatDoor

set_option maxRecDepth 100000
set_option linter.unusedVariables false
set_option linter.unusedSimpArgs false
namespace Go.Proofs.YtaadjlpfdajggaaGreatDoor
open Go Go.AM
def depA (x:S_c) (v w:Int):Int:=if kd x.f_Kind = 0 then 1 else if kd x.f_Kind = 1 then 1+v else 1+max v w
abbrev Tm.dep (t:Tm):Int:=t.val 0 depA
theorem dep_leaf {n:S_c} {k:Nat} (h:(Tm.leaf n).At k):(Tm.leaf n).dep = 1:=by simp [Tm.dep,Tm.val,depA,h.2.1]
theorem dep_one {n:S_c} {t:Tm} {k:Nat} (h:(Tm.one n t).At k):(Tm.one n t).dep = 1+t.dep:=by simp [Tm.dep,Tm.val,depA,h.2.2.1]
theorem dep_two {n:S_c} {a b:Tm} {k:Nat} (h:(Tm.two n a b).At k):(Tm.two n a b).dep = 1+max a.dep b.dep:=by simp [Tm.dep,Tm.val,depA,h.2.2.2.1]
theorem dep_rng:∀ {t:Tm} {k:Nat},t.At k->1<=t.dep/\t.dep<=t.size/\∀ v∈t.vals 0 depA,1<=v/\v<=t.dep
 | .leaf n,k,h=>by
  rw [dep_leaf h];refine ⟨by omega,by simp [Tm.size],fun v hv=>?_⟩;simp [Tm.vals,depA,h.2.1] at hv;omega
 | .one n t,k,h=>by
  obtain ⟨h1,h2,h3⟩:=dep_rng h.1;rw [dep_one h];refine ⟨by omega,by simp [Tm.size];omega,fun v hv=>?_⟩;simp only [Tm.vals,List.mem_append,List.mem_singleton] at hv
  rcases hv with hv | rfl
  ·have:=h3 v hv;omega
  ·have e:=dep_one h;simp only [Tm.dep,Tm.val] at e ⊢;rw [e];simp only [Tm.dep] at h1;omega
 | .two n a b,k,h=>by
  obtain ⟨h1,h2,h3⟩:=dep_rng h.1;obtain ⟨g1,g2,g3⟩:=dep_rng h.2.1;rw [dep_two h];refine ⟨by omega,by simp [Tm.size];omega,fun v hv=>?_⟩;simp only [Tm.vals,List.mem_append,List.mem_singleton] at hv
  rcases hv with (hv | hv) | rfl
  ·have:=h3 v hv;omega
  ·have:=g3 v hv;omega
  ·have e:=dep_two h;simp only [Tm.dep,Tm.val] at e ⊢;rw [e];simp only [Tm.dep] at h1 g1;omega
section
variable {n:Nat} {x0:Sl S_c} {t:Tm}
theorem depths_loop (hn:2<=n) (hN:(Sl.l x0).length<=500) (hl:Sl.l x0 = t.flat) (ht:t.At 0):∀ (d fuel i:Nat),i+d = t.size->d < fuel ->
  b_8 (m_ch n) n x0 fuel (pf (t.vals 0 depA) 0 i) (Sl.len x0) (i:Int) = some (some (t.vals 0 depA)):=by
 have hlen:Sl.len x0 = (t.size:Int):=by simp [Sl.len,hl,Tm.flat_len]
 have hs:t.size<=500:=by rw [hl,Tm.flat_len] at hN;exact hN
 have hvl:(t.vals 0 depA).length = t.size:=t.vals_len _ _;obtain ⟨_,hd2,hd3⟩:=dep_rng ht
 have rng:∀ {j:Nat} {v:Int},(t.vals 0 depA)[j]? = some v->1<=v/\v<=500:=fun {j v} hv=>by have:=hd3 v (List.mem_iff_getElem?.2 ⟨_,hv⟩);omega
 intro d
 induction d with
 | zero =>
  intro fuel i hi hf
  obtain ⟨fuel,rfl⟩:∃ m,fuel = m+1:=⟨fuel - 1,by omega⟩
  obtain rfl:i = t.size:=by omega
  rw [b_8,cfl (df (by omega)),<- hvl,pf_end]
 | succ d ih =>
  intro fuel i hi hf
  obtain ⟨fuel,rfl⟩:∃ m,fuel = m+1:=⟨fuel - 1,by omega⟩
  have hif:i < t.flat.length:=by rw [Tm.flat_len];omega
  have hx:=List.getElem?_eq_getElem hif;have hx0:Sl.nth x0 i = t.flat[i]:=nth_l (by rw [hl];exact hx);have K:=Tm.kid (d:=(0:Int)) (alg:=depA) ht hx;rw [b_8,ct (dt (by omega)),ck_ok (by rw [hl];exact hif),oBs,hx0,kids_ok _ (by omega),oBs]
  have hck:∀ {j:Nat} {v:Int},(t.vals 0 depA)[j]? = some v->ck (Sl.l (pf (t.vals 0 depA) 0 i)).length ((0+j:Nat):Int) = some j:=fun {j v} hv=>by
   rw [pf_len (by omega),Nat.zero_add];exact ck_ok (lGs.1 hv).1
  have hci:ck (Sl.l (pf (t.vals 0 depA) 0 i)).length (i:Int) = some i:=by rw [pf_len (by omega)];exact ck_ok (by omega)
  generalize t.flat[i] = x at *
  rcases K.at_ with ⟨h1,h2,h3,h4⟩ | ⟨h1,j,v,h2,h3,h4,h5,h6⟩ | ⟨h1,j,m,v,w,h2,h3,h4,h5,h6,h7,h8⟩
  ·rw [h1,ct (dt (by omega)),hci,oBs,b_bD,wp1 (by omega)]
   have e:depA x 0 0 = 1:=by simp [depA,h1]
   rw [e] at h4;rw [pf_put h4];exact ih fuel (i+1) (by omega) (by omega)
  ·have r5:=rng h5;rw [h1,cfl (df (by omega)),ct (dt (by omega)),h3,hck h5,oBs,hci,oBs,b_bD,wp1 (by omega),pf_nth h2 h5,w64 (by omega) (by omega)]
   have e:depA x v 0 = 1+v:=by simp [depA,h1]
   rw [e] at h6;rw [pf_put h6];exact ih fuel (i+1) (by omega) (by omega)
  ·have r5:=rng h6;have r6:=rng h7;rw [h1,cfl (df (by omega)),cfl (df (by omega)),h4,hck h6,oBs,h5,hck h7,oBs,hci,oBs,b_bD,wp1 (by omega),pf_nth h2 h6,pf_nth h3 h7,w64 (by omega) (by omega)]
   have e:depA x v w = 1+max v w:=by simp [depA,h1]
   rw [e] at h8;rw [pf_put h8];exact ih fuel (i+1) (by omega) (by omega)
theorem depths_ok (hn:600<=n) (hN:(Sl.l x0).length<=500) (ht:tree (Sl.l x0) = some t):m_dA n x0 = some (some (t.vals 0 depA)):=by
 obtain ⟨n,rfl⟩:∃ m,n = m+1:=⟨n - 1,by omega⟩
 obtain ⟨hl,hA⟩:=tree_some ht
 have hs:t.size<=500:=by rw [hl,Tm.flat_len] at hN;exact hN
 simp only [m_dA,b_eH]
 have:=depths_loop (n:=n) (by omega) hN hl hA t.size n 0 (by omega) (by omega)
 rw [show Sl.len x0 = ((t.size:Nat):Int) by simp [Sl.len,hl,Tm.flat_len]] at this ⊢;rw [make_ok (Nat.le_refl _) (by omega) (by omega),oBs];rw [pf_0,Tm.vals_len] at this;exact this
theorem max_loop {vs:List Int} {M:Int} (hM:∀ v∈vs,v<=M) (hl:vs.length<=1000):∀ (d fuel i:Nat) (m:Int),i+d = vs.length->d < fuel->m<=M->(m = M \/ M∈vs.drop i) ->
  b_Y n (some vs) fuel m (i:Int) = some M:=by
 intro d
 induction d with
 | zero =>
  intro fuel i m hi hf hm hor
  obtain ⟨fuel,rfl⟩:∃ m,fuel = m+1:=⟨fuel - 1,by omega⟩
  rw [b_Y,cfl (df (by simp [Sl.len,Sl.l];omega))]
  rcases hor with rfl | h
  ·rfl
  ·rw [List.drop_eq_nil_of_le (by omega)] at h;cases h
 | succ d ih =>
  intro fuel i m hi hf hm hor
  obtain ⟨fuel,rfl⟩:∃ m,fuel = m+1:=⟨fuel - 1,by omega⟩
  have hil:i < vs.length:=by omega
  rw [b_Y,ct (dt (by simp [Sl.len,Sl.l];omega)),ck_ok (by simpa [Sl.l] using hil),oBs,wp1 (by omega),nth_l (v:=vs[i]) (by simp [Sl.l])];have hv:=hM _ (List.getElem_mem hil);refine ih fuel (i+1) _ (by omega) (by omega) (by omega) ?_;rw [List.drop_eq_getElem_cons hil] at hor
  rcases hor with rfl | h
  ·exact .inl (by omega)
  ·rcases List.mem_cons.1 h with h | h
   ·exact .inl (by omega)
   ·exact .inr h
theorem max_ok {vs:List Int} {M:Int} (hn:1100<=n) (hM:∀ v∈vs,v<=M) (hm:M∈vs) (hl:vs.length<=1000):m_bI n (some vs) = some M:=by
 obtain ⟨n,rfl⟩:∃ m,n = m+1:=⟨n - 1,by omega⟩
 have hp:0 < vs.length:=List.length_pos_of_mem hm;simp only [m_bI,b_ce,b_bV];rw [cfl (df (by simp [Sl.len,Sl.l];omega)),ck_int (by omega) (by simp [Sl.l];omega),oBs];have hv:=hM _ (List.getElem_mem hp);rw [show ((0:Int)).toNat = 0 from rfl,nth_l (v:=vs[0]) (by simp [Sl.l])];refine max_loop hM hl (vs.length - 1) n 1 _ (by omega) (by omega) hv ?_;obtain ⟨i,hi⟩:=List.mem_iff_getElem?.1 hm
 cases i with
 | zero=>rw [List.getElem?_eq_getElem hp] at hi;injection hi with hi;exact .inl hi
 | succ i=>exact .inr (List.mem_iff_getElem?.2 ⟨i,by rw [List.getElem?_drop,Nat.add_comm];exact hi⟩)
def formedR (l:List S_c):Int:=if 500 < l.length then 4 else match tree l with | none=>3 | some t=>if 40 < t.dep then 4 else 0
theorem formed_ok (hn:1200<=n):m_cW n x0 = some (formedR (Sl.l x0)):=by
 obtain ⟨n,rfl⟩:∃ m,n = m+1:=⟨n - 1,by omega⟩
 simp only [m_cW,b_el,formedR]
 by_cases h:500 < (Sl.l x0).length
 ·rw [ct (dt (by simp only [Sl.len];omega)),if_pos h]
 ·rw [cfl (df (by simp only [Sl.len];omega)),if_neg h]
  cases ht:tree (Sl.l x0) with
  | none =>
   obtain ⟨y,hy⟩:=sizes_none (n:=n) (by omega) (by omega) ht;rw [hy];rfl
  | some t =>
   rw [sizes_tree (by omega) (by omega) ht,oBs];obtain ⟨hl,hA⟩:=tree_some ht
   have hs:t.size<=500:=by rw [hl,Tm.flat_len] at h;omega
   obtain ⟨h1,h2,h3⟩:=dep_rng hA;rw [depths_ok (by omega) (by omega) ht];simp only [Bool.not_true,cond_false,oBs];rw [max_ok (M:=t.dep) (by omega) (fun v hv=>(h3 v hv).2) (List.mem_iff_getElem?.2 ⟨_,t.vals_last 0 depA⟩) (by rw [Tm.vals_len];omega),oBs]
   by_cases h4:40 < t.dep
   ·rw [ct (dt h4)];simp [h4]
   ·rw [cfl (df h4)];simp [h4]
def deepR (l:List S_c):Int:=if 500 < l.length then 0 else match tree l with | none=>0 | some t=>t.dep
end
def plusI (a b:Int):Int:=if a = -1 \/ b = -1 then -1 else min (IntKind.i64.wrap (a+b)) 1048576
def timesI (a k:Int):Int:=if a = 0 \/ k = 0 then 0 else if a = -1 \/ k = -1 then -1 else min (IntKind.i64.wrap (a*k)) 1048576
theorem plus_ok {n:Nat} (a b:Int) (h:1<=n):m_cO n a b = some (plusI a b):=by
 obtain ⟨n,rfl⟩:∃ m,n = m+1:=⟨n - 1,by omega⟩
 simp only [m_cO,b_fy,plusI]
 by_cases h1:a = -1 <;> by_cases h2:b = -1 <;> simp [h1,h2]
theorem times_ok {n:Nat} (a b:Int) (h:1<=n):m_cj n a b = some (timesI a b):=by
 obtain ⟨n,rfl⟩:∃ m,n = m+1:=⟨n - 1,by omega⟩
 simp only [m_cj,b_fa,timesI]
 by_cases h1:a = 0
 ·simp [h1]
 by_cases h2:b = 0
 ·simp [h2]
 by_cases h3:a = -1 <;> by_cases h4:b = -1 <;> simp [h1,h2,h3,h4]
def lenA (x:S_c) (v w:Int × Int):Int × Int :=
 if x.f_Kind = 1 then (1,1) else if x.f_Kind = 12 then (0,-1) else if x.f_Kind = 8 then (plusI v.1 w.1,plusI v.2 w.2)
 else if x.f_Kind = 9 then (min v.1 w.1,if min v.2 w.2 = -1 then -1 else max v.2 w.2)
 else if x.f_Kind = 10 then (timesI v.1 x.f_Min,timesI v.2 x.f_Max) else if x.f_Kind = 11 \/ x.f_Kind = 17 then v else (0,0)
abbrev Tm.lens (t:Tm):List (Int × Int):=t.vals (0,0) lenA
theorem lens_loop {n:Nat} {x0:Sl S_c} {t:Tm} (hn:2<=n) (hN:(Sl.l x0).length<=500) (hl:Sl.l x0 = t.flat) (ht:t.At 0):∀ (d fuel i:Nat),i+d = t.size->d < fuel ->
  b_I (m_cO n) (m_cj n) n x0 fuel (pf (t.lens.map Prod.fst) 0 i) (pf (t.lens.map Prod.snd) 0 i) (Sl.len x0) (i:Int) = some (some (t.lens.map Prod.fst),some (t.lens.map Prod.snd)):=by
 have hlen:Sl.len x0 = (t.size:Int):=by simp [Sl.len,hl,Tm.flat_len]
 have hs:t.size<=500:=by rw [hl,Tm.flat_len] at hN;exact hN
 have hvl:(t.lens.map Prod.fst).length = t.size:=by simp [Tm.vals_len]
 have hvl2:(t.lens.map Prod.snd).length = t.size:=by simp [Tm.vals_len]
 intro d
 induction d with
 | zero =>
  intro fuel i hi hf
  obtain ⟨fuel,rfl⟩:∃ m,fuel = m+1:=⟨fuel - 1,by omega⟩
  obtain rfl:i = t.size:=by omega
  rw [b_I,cfl (df (by omega))]
  conv=>lhs;rw [<- hvl]
  rw [pf_end,hvl,<- hvl2,pf_end]
 | succ d ih =>
  intro fuel i hi hf
  obtain ⟨fuel,rfl⟩:∃ m,fuel = m+1:=⟨fuel - 1,by omega⟩
  have hif:i < t.flat.length:=by rw [Tm.flat_len];omega
  have hx:=List.getElem?_eq_getElem hif;have hx0:Sl.nth x0 i = t.flat[i]:=nth_l (by rw [hl];exact hx);have K:=Tm.kid (d:=((0:Int),(0:Int))) (alg:=lenA) ht hx;rw [b_I,ct (dt (by omega)),ck_ok (by rw [hl];exact hif),oBs,hx0]
  have f1:∀ {j:Nat} {v:Int × Int},t.lens[j]? = some v->(t.lens.map Prod.fst)[j]? = some v.1:=fun {j v} hv=>by rw [List.getElem?_map,hv];rfl
  have f2:∀ {j:Nat} {v:Int × Int},t.lens[j]? = some v->(t.lens.map Prod.snd)[j]? = some v.2:=fun {j v} hv=>by rw [List.getElem?_map,hv];rfl
  have hck1:∀ {j:Nat} {v:Int × Int},t.lens[j]? = some v->ck (Sl.l (pf (t.lens.map Prod.fst) 0 i)).length ((0+j:Nat):Int) = some j:=fun {j v} hv=>by
   rw [pf_len (by omega),Nat.zero_add];exact ck_ok (lGs.1 (f1 hv)).1
  have hck2:∀ {j:Nat} {v:Int × Int},t.lens[j]? = some v->ck (Sl.l (pf (t.lens.map Prod.snd) 0 i)).length ((0+j:Nat):Int) = some j:=fun {j v} hv=>by
   rw [pf_len (by omega),Nat.zero_add];exact ck_ok (lGs.1 (f2 hv)).1
  have hci1:ck (Sl.l (pf (t.lens.map Prod.fst) 0 i)).length (i:Int) = some i:=by rw [pf_len (by omega)];exact ck_ok (by omega)
  have hci2:ck (Sl.l (pf (t.lens.map Prod.snd) 0 i)).length (i:Int) = some i:=by rw [pf_len (by omega)];exact ck_ok (by omega)
  have go:=ih fuel (i+1) (by omega) (by omega)
  generalize t.flat[i] = x at *
  by_cases k1:x.f_Kind = 1
  ·rw [ct (dt k1),hci1,oBs,hci2,oBs,b_H,wp1 (by omega)]
   have hv:t.lens[i]? = some (1,1):=by
    rcases K.at_ with ⟨h1,h2,h3,h4⟩ | ⟨h1,j,v,h2,h3,h4,h5,h6⟩ | ⟨h1,j,m,v,w,h2,h3,h4,h5,h6,h7,h8⟩
    ·rw [h4];simp [lenA,k1]
    ·rw [h6];simp [lenA,k1]
    ·rw [h8];simp [lenA,k1]
   rw [pf_put (f1 hv),pf_put (f2 hv)];exact go
  rw [cfl (df k1)]
  by_cases k2:x.f_Kind = 12
  ·rw [ct (dt k2),hci2,oBs,b_H,wp1 (by omega)]
   have hv:t.lens[i]? = some (0,-1):=by
    rcases K.at_ with ⟨h1,h2,h3,h4⟩ | ⟨h1,j,v,h2,h3,h4,h5,h6⟩ | ⟨h1,j,m,v,w,h2,h3,h4,h5,h6,h7,h8⟩
    ·rw [h4];simp [lenA,k2]
    ·rw [h6];simp [lenA,k2]
    ·rw [h8];simp [lenA,k2]
   rw [pf_skip (f1 hv),pf_put (f2 hv)];exact go
  rw [cfl (df k2)]
  by_cases k3:x.f_Kind = 8
  ·rcases K.at_ with ⟨h1,_⟩ | ⟨h1,_⟩ | ⟨h1,j,m,v,w,h2,h3,h4,h5,h6,h7,h8⟩
   ·simp [kd,k3] at h1
   ·simp [kd,k3] at h1
   have hv:t.lens[i]? = some (plusI v.1 w.1,plusI v.2 w.2):=by rw [h8];simp [lenA,k3]
   rw [ct (dt k3),h4,hck1 h6,oBs,h5,hck1 h7,oBs,plus_ok _ _ (by omega),oBs,hck2 h6,oBs,hck2 h7,oBs,plus_ok _ _ (by omega),oBs,hci1,oBs,hci2,oBs,
    b_H,wp1 (by omega),pf_nth h2 (f1 h6),pf_nth h3 (f1 h7),pf_nth h2 (f2 h6),pf_nth h3 (f2 h7),pf_put (f1 hv),pf_put (f2 hv)]
   exact go
  rw [cfl (df k3)]
  by_cases k4:x.f_Kind = 9
  ·rcases K.at_ with ⟨h1,_⟩ | ⟨h1,_⟩ | ⟨h1,j,m,v,w,h2,h3,h4,h5,h6,h7,h8⟩
   ·simp [kd,k4] at h1
   ·simp [kd,k4] at h1
   have hv:t.lens[i]? = some (min v.1 w.1,if min v.2 w.2 = -1 then -1 else max v.2 w.2):=by rw [h8];simp [lenA,k4]
   rw [ct (dt k4),h4,hck1 h6,oBs,h5,hck1 h7,oBs,hck2 h6,oBs,hck2 h7,oBs,hci1,oBs,hci2,oBs];have n1:Sl.nth (pf (t.lens.map Prod.fst) 0 i) j = v.1:=pf_nth h2 (f1 h6);have n2:Sl.nth (pf (t.lens.map Prod.fst) 0 i) m = w.1:=pf_nth h3 (f1 h7);have n3:Sl.nth (pf (t.lens.map Prod.snd) 0 i) j = v.2:=pf_nth h2 (f2 h6);have n4:Sl.nth (pf (t.lens.map Prod.snd) 0 i) m = w.2:=pf_nth h3 (f2 h7);have e3:∀ z,Sl.nth (Sl.put (pf (t.lens.map Prod.snd) 0 i) i z) j = v.2:=fun z=>(nth_put_ne (by omega)).trans n3;have e4:∀ z,Sl.nth (Sl.put (pf (t.lens.map Prod.snd) 0 i) i z) m = w.2:=fun z=>(nth_put_ne (by omega)).trans n4;simp only [e3,e4,n1,n2,n3,n4,put_put,b_H,wp1 (show i < 1000000 by omega)]
   by_cases hm:min v.2 w.2 = -1
   ·rw [if_pos hm] at hv;rw [ct (dt hm),pf_put (f1 hv),pf_put (f2 hv)];exact go
   ·rw [if_neg hm] at hv;rw [cfl (df hm),pf_put (f1 hv),pf_put (f2 hv)];exact go
  rw [cfl (df k4)]
  by_cases k5:x.f_Kind = 10
  ·rcases K.at_ with ⟨h1,_⟩ | ⟨h1,j,v,h2,h3,h4,h5,h6⟩ | ⟨h1,_⟩
   ·simp [kd,k5] at h1
   case inr.inr=>simp [kd,k5] at h1
   have hv:t.lens[i]? = some (timesI v.1 x.f_Min,timesI v.2 x.f_Max):=by rw [h6];simp [lenA,k5]
   rw [ct (dt k5),h3,hck1 h5,oBs,times_ok _ _ (by omega),oBs,hck2 h5,oBs,times_ok _ _ (by omega),oBs,hci1,oBs,hci2,oBs,
    b_H,wp1 (by omega),pf_nth h2 (f1 h5),pf_nth h2 (f2 h5),pf_put (f1 hv),pf_put (f2 hv)]
   exact go
  rw [cfl (df k5)]
  by_cases k6:x.f_Kind = 11 \/ x.f_Kind = 17
  ·rcases K.at_ with ⟨h1,_⟩ | ⟨h1,j,v,h2,h3,h4,h5,h6⟩ | ⟨h1,_⟩
   ·rcases k6 with k6 | k6 <;> simp [kd,k6] at h1
   case inr.inr=>rcases k6 with k6 | k6 <;> simp [kd,k6] at h1
   have hv:t.lens[i]? = some v:=by rw [h6];rcases k6 with k6 | k6 <;> simp [lenA,k6]
   have fin:b_cx (m_cO n) (m_cj n) n (b_I (m_cO n) (m_cj n) n x0 fuel) x0 (pf (t.lens.map Prod.fst) 0 i) (pf (t.lens.map Prod.snd) 0 i) i x (Sl.len x0) i true = some (some (t.lens.map Prod.fst),some (t.lens.map Prod.snd)):=by
    rw [b_cx,cond_true,h3,hck1 h5,oBs,hck2 h5,oBs,hci1,oBs,hci2,oBs,b_H,wp1 (by omega),pf_nth h2 (f1 h5),pf_nth h2 (f2 h5),pf_put (f1 hv),pf_put (f2 hv)];exact go
   by_cases k7:x.f_Kind = 11
   ·rw [ct (dt k7),dt k7];exact fin
   ·rw [cfl (df k7),dt (k6.resolve_left k7)];exact fin
  rw [cfl (df fun h=>k6 (.inl h)),df fun h=>k6 (.inr h),b_cx,cond_false,b_H,wp1 (by omega)]
  have hv:t.lens[i]? = some (0,0):=by
   have e:∀ v w,lenA x v w = (0,0):=fun v w=>by simp only [lenA,if_neg k1,if_neg k2,if_neg k3,if_neg k4,if_neg k5,if_neg k6]
   rcases K.at_ with ⟨h1,h2,h3,h4⟩ | ⟨h1,j,v,h2,h3,h4,h5,h6⟩ | ⟨h1,j,m,v,w,h2,h3,h4,h5,h6,h7,h8⟩
   ·rw [h4,e]
   ·rw [h6,e]
   ·rw [h8,e]
  rw [pf_skip (f1 hv),pf_skip (f2 hv)];exact go
theorem lens_ok {n:Nat} {x0:Sl S_c} {t:Tm} (hn:600<=n) (hN:(Sl.l x0).length<=500) (ht:tree (Sl.l x0) = some t):m_dS n x0 = some (some (t.lens.map Prod.fst),some (t.lens.map Prod.snd)):=by
 obtain ⟨n,rfl⟩:∃ m,n = m+1:=⟨n - 1,by omega⟩
 obtain ⟨hl,hA⟩:=tree_some ht
 have hs:t.size<=500:=by rw [hl,Tm.flat_len] at hN;exact hN
 simp only [m_dS,b_fA]
 have:=lens_loop (n:=n) (by omega) hN hl hA t.size n 0 (by omega) (by omega)
 rw [show Sl.len x0 = ((t.size:Nat):Int) by simp [Sl.len,hl,Tm.flat_len]] at this ⊢;rw [make_ok (Nat.le_refl _) (by omega) (by omega),oBs];rw [pf_0,pf_0,List.length_map,List.length_map,Tm.vals_len] at this;exact this
end Go.Proofs.YtaadjlpfdajggaaGreatDoor

set_option maxRecDepth 100000
set_option linter.unusedVariables false
set_option linter.unusedSimpArgs false
namespace Go.Proofs.YtaadjlpfdajggaaGreatDoor
open Go Go.AM
theorem sz_rng:∀ {t:Tm},∀ v∈t.szs,1<=v/\v<=t.size
 | .leaf n=>fun v hv=>by simp [Tm.vals,szA] at hv;simp [Tm.size];omega
 | .one n t=>fun v hv=>by
  simp only [Tm.vals,List.mem_append,List.mem_singleton] at hv
  rcases hv with hv | rfl
  ·have:=sz_rng v hv;simp [Tm.size];omega
  ·simp [szA,Tm.sz_val,Tm.size];omega
 | .two n a b=>fun v hv=>by
  simp only [Tm.vals,List.mem_append,List.mem_singleton] at hv
  rcases hv with (hv | hv) | rfl
  ·have:=sz_rng v hv;simp [Tm.size];omega
  ·have:=sz_rng v hv;simp [Tm.size];omega
  ·simp [szA,Tm.sz_val,Tm.size];omega
def szAt (sz:List Int) (x:Int):Int:=sz.getD x.toNat default
def cfG (sz:List Int) (x y:Int):Int:=if (x - szAt sz x+1) - (y - szAt sz y+1) ≠ 0 then (x - szAt sz x+1) - (y - szAt sz y+1) else szAt sz y - szAt sz x
def InR (sz:List Int) (x:Int):Prop:=0<=x/\x < sz.length
theorem srt_congr {cf cg:Int->Int->Int} {l:List Int} (h:∀ a∈l,∀ b∈l,cf a b = cg a b):srt cf l = srt cg l:=by
 have:=List.map_mergeSort (r:=fun x y=>!ltC cf y x) (s:=fun x y=>!ltC cg y x) (f:=id) (l:=l) (fun a ha b hb=>by simp only [ltC,id,h b hb a ha])
 simpa [srt] using this
theorem ltG {sz:List Int} {x y:Int}:ltC (cfG sz) x y = true ↔ (x - szAt sz x < y - szAt sz y \/ (x - szAt sz x = y - szAt sz y/\szAt sz y < szAt sz x)):=by
 unfold ltC cfG;rw [decide_eq_true_iff]
 split <;> omega
theorem ltG' {sz:List Int} {x y:Int}:ltC (cfG sz) x y = false ↔ ¬ (x - szAt sz x < y - szAt sz y \/ (x - szAt sz x = y - szAt sz y/\szAt sz y < szAt sz x)):=by
 rw [<- ltG,Bool.not_eq_true]
theorem ord_G (sz l:List Int):OrdOn (ltC (cfG sz)) l where
 irrefl x _:=by rw [ltG'];omega
 trans x _ y _ z _ h1 h2:=by rw [ltG] at *;omega
 ntrans x _ y _ z _ h1 h2:=by rw [ltG'] at *;omega
 anti x _ y _ h1 h2:=by rw [ltG'] at *;omega
section
variable {n:Nat} {sz:List Int}
theorem c1_ok {x:Int} (hn:1<=n) (hb:∀ v∈sz,1<=v/\v<=500) (hl:sz.length<=500) (hx:InR sz x):m_cw n x (some sz) = some (x - szAt sz x+1):=by
 obtain ⟨n,rfl⟩:∃ m,n = m+1:=⟨n - 1,by omega⟩
 obtain ⟨h1,h2⟩:=hx
 have hj:x.toNat < sz.length:=by omega
 have:=hb _ (List.getElem_mem hj)
 have e:szAt sz x = sz[x.toNat]:=by simp [szAt,List.getD,hj]
 simp only [m_cw,b_c4,Sl.l];rw [ck_int h1 h2,oBs,nth_l (v:=sz[x.toNat]) (by simp [Sl.l,hj]),w64 (n:=x - _) (by omega) (by omega),w64 (by omega) (by omega),e]
theorem c2_ok {x y:Int} (hn:2<=n) (hb:∀ v∈sz,1<=v/\v<=500) (hl:sz.length<=500) (hx:InR sz x) (hy:InR sz y):m_y n x y (some sz) (some sz) = some (cfG sz x y):=by
 obtain ⟨n,rfl⟩:∃ m,n = m+1:=⟨n - 1,by omega⟩
 have hjx:x.toNat < sz.length:=by have:=hx.1;have:=hx.2;omega
 have hjy:y.toNat < sz.length:=by have:=hy.1;have:=hy.2;omega
 have b1:=hb _ (List.getElem_mem hjx);have b2:=hb _ (List.getElem_mem hjy)
 have e1:szAt sz x = sz[x.toNat]:=by simp [szAt,List.getD,hjx]
 have e2:szAt sz y = sz[y.toNat]:=by simp [szAt,List.getD,hjy]
 simp only [m_y,b_c5];rw [c1_ok (by omega) hb hl hx,oBs,c1_ok (by omega) hb hl hy,oBs]
 have:=hx.1;have:=hx.2;have:=hy.1;have:=hy.2
 rw [w64 (by omega) (by omega)];unfold cfG
 by_cases h:(x - szAt sz x+1) - (y - szAt sz y+1) = 0
 ·rw [cfl (by simp [h]),if_neg (by simp [h])];simp only [Sl.l];rw [ck_int hy.1 hy.2,oBs,ck_int hx.1 hx.2,oBs,nth_l (x:=some sz) (v:=sz[y.toNat]) (by simp [Sl.l,hjy]),nth_l (x:=some sz) (v:=sz[x.toNat]) (by simp [Sl.l,hjx]),w64 (by omega) (by omega),e1,e2]
 ·rw [ct (by simp [h]),if_pos h]
theorem sort_ok {l:List Int} (hn:3<=n) (hb:∀ v∈sz,1<=v/\v<=500) (hl:sz.length<=500) (hx:∀ x∈l,InR sz x) (h0:l ≠ []) (hl':l.length<=500):m_p n (some l) (some sz) = some (some (srt (cfG sz) l)):=by
 obtain ⟨n,rfl⟩:∃ m,n = m+1:=⟨n - 1,by omega⟩
 have hc:∀ x∈l,∀ y∈l,(m_y n x y (some sz) (some sz)).getD 0 = cfG sz x y:=fun x h y h'=>by rw [c2_ok (by omega) hb hl (hx x h) (hx y h')];rfl
 simp only [m_p];rw [if_pos,srt_congr hc];refine ⟨h0,by omega,fun x h y h'=>by rw [c2_ok (by omega) hb hl (hx x h) (hx y h')];simp,?_⟩;have o:=ord_G sz l
 have e:∀ x∈l,∀ y∈l,ltC (fun x y=>(m_y n x y (some sz) (some sz)).getD 0) x y = ltC (cfG sz) x y:=fun x h y h'=>by simp only [ltC,hc x h y h']
 exact ⟨fun x h=>by rw [e x h x h];exact o.irrefl x h,fun x h y h' z h''=>by rw [e x h y h',e y h' z h'',e x h z h''];exact o.trans x h y h' z h'',fun x h y h' z h''=>by rw [e x h y h',e y h' z h'',e x h z h''];exact o.ntrans x h y h' z h'',fun x h y h'=>by rw [e x h y h',e y h' x h];exact o.anti x h y h'⟩
end
def gix (i:Nat):List S_c->List Int
 | []=>[]
 | x :: xs=>if x.f_Kind = 11 then (i:Int) :: gix (i+1) xs else gix (i+1) xs
def oddB (g:Nat) (x:S_c):Bool:=decide (x.f_Kind = 12)&&(decide (x.f_N < 1)||decide ((g:Int) < x.f_N))
def numOk (l:List S_c):List Int->Int->Bool
 | [],_=>true
 | i :: S,k=>decide ((l.getD i.toNat default).f_N = k+1)&&numOk l S (k+1)
def ol (l:List Int):Sl Int:=if l = [] then none else some l
theorem ol_l (l:List Int):Sl.l (ol l) = l:=by
 unfold ol;split
 ·rename_i h;rw [h];rfl
 ·rfl
def groupedR (l:List S_c) (sz:List Int):Bool :=
 numOk l (srt (cfG sz) (gix 0 l)) 0&&(decide ((gix 0 l).length<=9)&&!l.any (oddB (gix 0 l).length))
section
variable {n:Nat} {x0:Sl S_c} {sz:List Int}
theorem idx_loop {o:Sl Int} {g:Nat} (hg:(Sl.l o).length = g) (hn:2<=n) (hN:(Sl.l x0).length<=500):∀ (d fuel i:Nat),i+d = (Sl.l x0).length->d < fuel ->
  ∃ r,b_N (m_bU n) n x0 o fuel (Sl.len x0) (i:Int) = some r/\decide (0<=r) = ((Sl.l x0).drop i).any (oddB g):=by
 intro d
 induction d with
 | zero =>
  intro fuel i hi hf
  obtain ⟨fuel,rfl⟩:∃ m,fuel = m+1:=⟨fuel - 1,by omega⟩
  rw [b_N,cfl (df (by simp only [Sl.len];omega)),List.drop_eq_nil_of_le (by omega)];exact ⟨_,rfl,rfl⟩
 | succ d ih =>
  intro fuel i hi hf
  obtain ⟨fuel,rfl⟩:∃ m,fuel = m+1:=⟨fuel - 1,by omega⟩
  have hil:i < (Sl.l x0).length:=by omega
  rw [b_N,ct (dt (by simp only [Sl.len];omega)),ck_ok hil,oBs,nth_l (List.getElem?_eq_getElem hil),List.drop_eq_getElem_cons hil,List.any_cons]
  have h3:∀ x,m_bU n x o = some (oddB g x):=fun x=>by
   obtain ⟨n,rfl⟩:∃ m,n = m+1:=⟨n - 1,by omega⟩
   simp only [m_bU,b_da,oddB,Sl.len,hg]
  rw [h3,oBs]
  cases hv:oddB g (Sl.l x0)[i] with
  | true=>exact ⟨_,rfl,by simp⟩
  | false =>
   rw [cond_false,wp1 (by omega),Bool.false_or];exact ih fuel (i+1) (by omega) (by omega)
theorem cont_ok {o:Sl Int} {g:Nat} (hg:(Sl.l o).length = g) (hn:600<=n) (hN:(Sl.l x0).length<=500):m_U n x0 o = some ((Sl.l x0).any (oddB g)):=by
 obtain ⟨n,rfl⟩:∃ m,n = m+2:=⟨n - 2,by omega⟩
 obtain ⟨r,h1,h2⟩:=idx_loop (n:=n) hg (by omega) hN (Sl.l x0).length n 0 (by omega) (by omega);simp only [m_U,b_bR,m_bO,b_bP];rw [show ((0:Nat):Int) = 0 from rfl] at h1;rw [h1,oBs,h2,List.drop_zero]
theorem num_loop {S:List Int} {N:Nat} (hN:N = S.length) (hn:700<=n) (hx:(Sl.l x0).length<=500) (hS:∀ x∈S,0<=x/\x < ((Sl.l x0).length:Int)) (hl:S.length<=500) {o:Sl Int} (ho:Sl.l o = S):∀ (d fuel i:Nat),i+d = N->d < fuel ->
  b_bH (m_bG n) (m_p n) (m_U n) n x0 fuel o (N:Int) (i:Int) =
   some (numOk (Sl.l x0) (S.drop i) i&&(decide (S.length<=9)&&!(Sl.l x0).any (oddB S.length))):=by
 intro d
 induction d with
 | zero =>
  intro fuel i hi hf
  obtain ⟨fuel,rfl⟩:∃ m,fuel = m+1:=⟨fuel - 1,by omega⟩
  rw [b_bH,cfl (df (by omega)),List.drop_eq_nil_of_le (by omega),numOk,Bool.true_and]
  by_cases h9:S.length<=9
  ·rw [ct (dt (by simp only [Sl.len,ho];omega)),cont_ok (g:=S.length) (by rw [ho]) (by omega) hx,dt h9];rfl
  ·rw [cfl (df (by simp only [Sl.len,ho];omega)),df h9];rfl
 | succ d ih =>
  intro fuel i hi hf
  obtain ⟨fuel,rfl⟩:∃ m,fuel = m+1:=⟨fuel - 1,by omega⟩
  have hil:i < S.length:=by omega
  have hm:=hS _ (List.getElem_mem hil)
  have hil':i < (Sl.l o).length:=by rw [ho];exact hil
  have ho':Sl.nth o i = S[i]:=nth_l (by rw [ho];exact List.getElem?_eq_getElem hil);rw [b_bH,ct (dt (by omega)),ck_ok hil',oBs,ho',ck_int hm.1 hm.2,oBs,wp1 (by omega),List.drop_eq_getElem_cons hil,numOk];have e:Sl.nth x0 S[i].toNat = (Sl.l x0).getD S[i].toNat default:=rfl;rw [e]
  by_cases h:((Sl.l x0).getD S[i].toNat default).f_N = ((i+1:Nat):Int)
  ·rw [cfl (by rw [dt h];rfl),ih fuel (i+1) (by omega) (by omega),dt (show _ = (i:Int)+1 by rw [h];omega),Bool.true_and]
   congr 2
  ·rw [ct (by rw [df h];rfl),df (show ¬ (_ = (i:Int)+1) by omega)];rfl
theorem grp_loop (hn:700<=n) (hN:(Sl.l x0).length<=500) (hb:∀ v∈sz,1<=v/\v<=500) (hsz:sz.length = (Sl.l x0).length):∀ (xs:List S_c) (fuel i:Nat) (acc:List Int),(Sl.l x0).drop i = xs->i<=(Sl.l x0).length->xs.length < fuel->(∀ x∈acc,InR sz x)->acc.length<=i ->
  b_bc (m_bG n) (m_p n) (m_U n) n x0 fuel (some sz) (ol acc) (Sl.len x0) (i:Int) =
   some (numOk (Sl.l x0) (srt (cfG sz) (acc ++ gix i xs)) 0&&(decide ((acc ++ gix i xs).length<=9)&&!(Sl.l x0).any (oddB (acc ++ gix i xs).length))):=by
 intro xs
 induction xs with
 | nil =>
  intro fuel i acc hd hi hf hr ha
  obtain ⟨fuel,rfl⟩:∃ m,fuel = m+1:=⟨fuel - 1,by omega⟩
  have hlen:(Sl.l x0).length<=i:=List.drop_eq_nil_iff.1 hd;rw [b_bc,cfl (df (by simp only [Sl.len];omega))];simp only [gix,List.append_nil]
  have hlen':Sl.len (ol acc) = ((acc.length:Nat):Int):=by simp only [Sl.len,ol_l]
  by_cases h0:acc = []
  ·subst h0
   obtain ⟨n,rfl⟩:∃ m,n = m+1:=⟨n - 1,by omega⟩
   have e:m_p (n+1) (ol []) (some sz) = some none:=rfl
   have:=num_loop (n:=n+1) (x0:=x0) (S:=[]) (N:=0) rfl (by omega) hN (by simp) (by simp) (o:=none) rfl 0 (n+1) 0 rfl (by omega)
   rw [e,oBs,hlen']
   simpa [srt,numOk] using this
  ·have e:ol acc = some acc:=if_neg h0
   have hS:∀ x∈srt (cfG sz) acc,0<=x/\x < ((Sl.l x0).length:Int):=fun x hx=>by
    have:=hr x (List.mem_mergeSort.1 hx)
    rw [InR,hsz] at this;exact this
   have hl:(srt (cfG sz) acc).length = acc.length:=List.length_mergeSort _;rw [hlen',e,sort_ok (by omega) hb (by omega) hr h0 (by omega),oBs]
   have:=num_loop (n:=n) (x0:=x0) (S:=srt (cfG sz) acc) (N:=acc.length) hl.symm hn hN hS (by omega) (o:=some (srt (cfG sz) acc)) rfl acc.length n 0 (by omega) (by omega)
   rw [hl] at this;exact this
 | cons x xs ih =>
  intro fuel i acc hd hi hf hr ha
  obtain ⟨fuel,rfl⟩:∃ m,fuel = m+1:=⟨fuel - 1,by simp at hf;omega⟩
  have hil:i < (Sl.l x0).length:=by
   rcases Nat.lt_or_ge i (Sl.l x0).length with h | h
   ·exact h
   ·rw [List.drop_eq_nil_of_le h] at hd;cases hd
  rw [List.drop_eq_getElem_cons hil] at hd
  injection hd with hx hd
  rw [b_bc,ct (dt (by simp only [Sl.len];omega)),ck_ok hil,oBs,nth_l (List.getElem?_eq_getElem hil),hx]
  by_cases h:x.f_Kind = 11
  ·rw [ct (dt h),show gix i (x :: xs) = (i:Int) :: gix (i+1) xs by simp [gix,h]]
   have e:Sl.app 8 (ol acc) (some ([(i:Int)]:List Int)) = some (ol (acc ++ [(i:Int)])):=by
    have hr2:(8000000:Nat)<=roomMost:=nLb rfl;unfold Sl.app;rw [if_neg (by simp [Sl.l]),if_pos (by rw [ol_l];simp [Sl.l];omega),ol_l];simp [ol,Sl.l]
   rw [e,oBs,b_b4,wp1 (by omega)]
   have:=ih fuel (i+1) (acc ++ [(i:Int)]) hd (by omega) (by simp at hf;omega) (fun y hy=>by
    rcases List.mem_append.1 hy with hy | hy
    ·exact hr y hy
    ·rw [List.mem_singleton] at hy;subst hy;exact ⟨by omega,by rw [hsz];omega⟩) (by simp;omega)
   rw [lAs] at this;exact this
  ·rw [cfl (df h),show gix i (x :: xs) = gix (i+1) xs by simp [gix,h],b_b4,wp1 (by omega)];exact ih fuel (i+1) acc hd (by omega) (by simp at hf;omega) hr (by omega)
theorem grouped_ok {t:Tm} (hn:800<=n) (hN:(Sl.l x0).length<=500) (ht:tree (Sl.l x0) = some t):m_cI n x0 = some (groupedR (Sl.l x0) t.szs):=by
 obtain ⟨n,rfl⟩:∃ m,n = m+1:=⟨n - 1,by omega⟩
 obtain ⟨hl,hA⟩:=tree_some ht
 have hs:t.size<=500:=by rw [hl,Tm.flat_len] at hN;exact hN
 simp only [m_cI,b_ee];rw [sizes_tree (by omega) hN ht,oBs]
 have:=grp_loop (n:=n) (x0:=x0) (sz:=t.szs) (by omega) hN (fun v hv=>by have:=sz_rng v hv;omega) (by rw [Tm.vals_len,hl,Tm.flat_len]) (Sl.l x0) n 0 [] rfl (by omega) (by omega) (by simp) (by simp)
 simpa [ol,groupedR] using this
end
def BehOk (t:Tm):Prop:=∀ (i:Nat) x,t.flat[i]? = some x->(x.f_Kind = 15 \/ x.f_Kind = 16)->∀ (j:Nat) v,x.f_A = (j:Int)->t.lens[j]? = some v->v.1 = v.2/\v.1<=255
section
variable {n:Nat} {x0:Sl S_c} {t:Tm}
theorem right_loop {c1:T_cX} {c2:T_dQ} {c3:T_cJ} (hl:Sl.l x0 = t.flat) (ht:t.At 0) (hs:t.size<=500):∀ (d fuel i:Nat),i+d = t.size->d < fuel ->
  ∃ r,b_bw c1 c2 c3 n x0 fuel (some (t.lens.map Prod.fst)) (some (t.lens.map Prod.snd)) (Sl.len x0) (i:Int) = some r/\(r = 0 \/ r = 7)/\(r = 0 ↔ ∀ (i':Nat) x,i<=i'->t.flat[i']? = some x->(x.f_Kind = 15 \/ x.f_Kind = 16)->∀ (j:Nat) v,x.f_A = (j:Int)->t.lens[j]? = some v->v.1 = v.2/\v.1<=255):=by
 have hlen:Sl.len x0 = (t.size:Int):=by simp [Sl.len,hl,Tm.flat_len]
 intro d
 induction d with
 | zero =>
  intro fuel i hi hf
  obtain ⟨fuel,rfl⟩:∃ m,fuel = m+1:=⟨fuel - 1,by omega⟩
  rw [b_bw,cfl (df (by omega))];refine ⟨0,rfl,.inl rfl,fun _ i' x hi' hx=>?_,fun _=>rfl⟩
  have:=(lGs.1 hx).1
  rw [Tm.flat_len] at this;omega
 | succ d ih =>
  intro fuel i hi hf
  obtain ⟨fuel,rfl⟩:∃ m,fuel = m+1:=⟨fuel - 1,by omega⟩
  have hif:i < t.flat.length:=by rw [Tm.flat_len];omega
  have hx:=List.getElem?_eq_getElem hif;have hx0:Sl.nth x0 i = t.flat[i]:=nth_l (by rw [hl];exact hx);have K:=Tm.kid (d:=((0:Int),(0:Int))) (alg:=lenA) ht hx;obtain ⟨r,hr1,hr2,hr3⟩:=ih fuel (i+1) (by omega) (by omega);rw [b_bw,ct (dt (by omega)),ck_ok (by rw [hl];exact hif),oBs,hx0]
  generalize t.flat[i] = x at *
  have step:(∀ (j:Nat) v,(x.f_Kind = 15 \/ x.f_Kind = 16)->x.f_A = (j:Int)->t.lens[j]? = some v->v.1 = v.2/\v.1<=255)->(r = 0 ↔ ∀ (i':Nat) x,i<=i'->t.flat[i']? = some x->(x.f_Kind = 15 \/ x.f_Kind = 16)->∀ (j:Nat) v,x.f_A = (j:Int)->t.lens[j]? = some v->v.1 = v.2/\v.1<=255):=fun hc=>by
   refine ⟨fun h i' y hi' hy hk j v hj hv=>?_,fun h=>hr3.2 fun i' y hi'=>h i' y (by omega)⟩
   rcases Nat.lt_or_ge i i' with h' | h'
   ·exact hr3.1 h i' y (by omega) hy hk j v hj hv
   ·obtain rfl:i' = i:=by omega
    rw [hx] at hy;injection hy with hy;subst hy
    exact hc j v hk hj hv
  by_cases k:x.f_Kind = 15 \/ x.f_Kind = 16
  ·have f1:∀ {j:Nat} {v:Int × Int},t.lens[j]? = some v->(t.lens.map Prod.fst)[j]? = some v.1:=fun {j v} hv=>by rw [List.getElem?_map,hv];rfl
   have f2:∀ {j:Nat} {v:Int × Int},t.lens[j]? = some v->(t.lens.map Prod.snd)[j]? = some v.2:=fun {j v} hv=>by rw [List.getElem?_map,hv];rfl
   rcases K.at_ with ⟨h1,_⟩ | ⟨h1,j,v,h2,h3,h4,h5,h6⟩ | ⟨h1,_⟩
   ·rcases k with k | k <;> simp [kd,k] at h1
   case inr.inr=>rcases k with k | k <;> simp [kd,k] at h1
   have hj:j < t.lens.length:=(lGs.1 h5).1;rw [cfl (by rcases k with k | k <;> simp [k]),h3,Nat.zero_add,ck_ok (by simp [Sl.l];exact hj),oBs,ck_ok (by simp [Sl.l];exact hj),oBs,nth_l (x:=some (t.lens.map Prod.fst)) (f1 h5),nth_l (x:=some (t.lens.map Prod.snd)) (f2 h5)]
   by_cases hc:v.1 = v.2/\v.1<=255
   ·rw [cfl (by simp [hc.1];have:=hc.2;have:=hc.1;omega),b_cE,wp1 (by omega)];refine ⟨r,hr1,hr2,step fun j' v' _ hj' hv'=>?_⟩
    obtain rfl:j' = j:=by rw [h3] at hj';omega
    rw [h5] at hv';injection hv' with hv';subst hv';exact hc
   ·rw [ct (by
     simp only [Bool.or_eq_true,Bool.not_eq_true',decide_eq_false_iff_not,decide_eq_true_eq]
     by_cases h:v.1 = v.2
     ·exact .inr (by
      have:¬ (v.1<=255):=fun h'=>hc ⟨h,h'⟩
      omega)
     ·exact .inl h)]
    refine ⟨7,rfl,.inr rfl,fun h=>(by cases h),fun h=>(hc (h i x (Nat.le_refl _) hx k j v (by rw [h3,Nat.zero_add]) h5)).elim⟩
  ·rw [ct (by simp only [Bool.and_eq_true,Bool.not_eq_true',decide_eq_false_iff_not];exact ⟨fun h=>k (.inl h),fun h=>k (.inr h)⟩),b_cE,wp1 (by omega)];exact ⟨r,hr1,hr2,step fun _ _ h=>(k h).elim⟩
structure RightT (l:List S_c) (t:Tm):Prop where
 tree:tree l = some t
 len:t.size<=500
 dep:t.dep<=40
 grp:groupedR l t.szs = true
 beh:BehOk t
end
end Go.Proofs.YtaadjlpfdajggaaGreatDoor

set_option maxRecDepth 100000
set_option linter.unusedVariables false
set_option linter.unusedSimpArgs false
namespace Go.Proofs.YtaadjlpfdajggaaGreatDoor
open Go Go.AM
def W (P:Nat->Bool):S_g:=⟨⟨[wd P 0,wd P 1,wd P 2,wd P 3],rfl⟩⟩
theorem rem64 {c:Nat}:remO (c:Int) 64 = some ((c % 64:Nat):Int):=by
 simp only [remO,show ¬ ((64:Int) = 0) by decide,if_false];rw [Int.tmod_eq_emod_of_nonneg (by omega)]
 simp
theorem shr_W {x:Int} {m:Nat} (h:m < 64):shrO .u64 x (m:Int) = some (x.fdiv (2 ^ m)):=by
 rw [shrO,if_pos (by omega)]
 have e:min ((m:Int)).toNat IntKind.u64.bits = m:=by
  have:IntKind.u64.bits = 64:=rfl
  omega
 rw [e]
theorem nth_W (P:Nat->Bool) {j:Nat} (h:j < 4):(W P).f_W.nth j = wd P j:=by
 match j,h with
 | 0,_=>rfl
 | 1,_=>rfl
 | 2,_=>rfl
 | 3,_=>rfl
theorem W_of (s:S_g) (h:∀ x∈s.f_W.l,InK .u64 x):∃ P,s = W P:=by
 obtain ⟨⟨l,hl⟩⟩:=s
 match l,hl,h with
 | [p,q,r,u],hl,h =>
  have one:∀ x:Int,InK .u64 x->∃ f:Nat->Bool,∀ (P:Nat->Bool) (j:Nat),(∀ i,i < 64->P (64*j+i) = f i)->wd P j = x:=fun x hx=>by
   have hx1:0<=x:=hx.1;have hx2:x<=18446744073709551615:=hx.2;refine ⟨fun i=>x.toNat.testBit i,fun P j hP=>?_⟩
   have:x.toNat = bin 64 fun i=>P (64*j+i):=bin_ext (by omega) fun i hi=>(hP i hi).symm
   rw [wd,<- this];omega
  obtain ⟨f0,h0⟩:=one p (h p (by simp));obtain ⟨f1,h1⟩:=one q (h q (by simp));obtain ⟨f2,h2⟩:=one r (h r (by simp));obtain ⟨f3,h3⟩:=one u (h u (by simp));refine ⟨fun i=>if i < 64 then f0 i else if i < 128 then f1 (i - 64) else if i < 192 then f2 (i - 128) else f3 (i - 192),?_⟩;unfold W;rw [h0 _ 0 fun i hi=>?_,h1 _ 1 fun i hi=>?_,h2 _ 2 fun i hi=>?_,h3 _ 3 fun i hi=>?_]
  ·show (if 64*3+i < 64 then f0 (64*3+i) else if 64*3+i < 128 then f1 (64*3+i - 64) else if 64*3+i < 192 then f2 (64*3+i - 128) else f3 (64*3+i - 192)) = f3 i;rw [if_neg (show ¬ 64*3+i < 64 by omega),if_neg (show ¬ 64*3+i < 128 by omega),if_neg (show ¬ 64*3+i < 192 by omega),show 64*3+i - 192 = i by omega]
  ·show (if 64*2+i < 64 then f0 (64*2+i) else if 64*2+i < 128 then f1 (64*2+i - 64) else if 64*2+i < 192 then f2 (64*2+i - 128) else f3 (64*2+i - 192)) = f2 i;rw [if_neg (show ¬ 64*2+i < 64 by omega),if_neg (show ¬ 64*2+i < 128 by omega),if_pos (show 64*2+i < 192 by omega),show 64*2+i - 128 = i by omega]
  ·show (if 64*1+i < 64 then f0 (64*1+i) else if 64*1+i < 128 then f1 (64*1+i - 64) else if 64*1+i < 192 then f2 (64*1+i - 128) else f3 (64*1+i - 192)) = f1 i;rw [if_neg (show ¬ 64*1+i < 64 by omega),if_pos (show 64*1+i < 128 by omega),show 64*1+i - 64 = i by omega]
  ·show (if 64*0+i < 64 then f0 (64*0+i) else if 64*0+i < 128 then f1 (64*0+i - 64) else if 64*0+i < 192 then f2 (64*0+i - 128) else f3 (64*0+i - 192)) = f0 i;rw [if_pos (show 64*0+i < 64 by omega),show 64*0+i = i by omega]
end Go.Proofs.YtaadjlpfdajggaaGreatDoor

set_option maxRecDepth 100000
set_option linter.unusedVariables false
set_option linter.unusedSimpArgs false
namespace Go.Proofs.YtaadjlpfdajggaaGreatDoor
open Go Go.AM
theorem low_form:∀ v:Nat,0 < v->∃ m q,v = 2 ^ m*(2*q+1):=fun v=>by
 induction v using Nat.strongRecOn with
 | _ v ih =>
  intro hv
  rcases Nat.mod_two_eq_zero_or_one v with h | h
  ·obtain ⟨m,q,hm⟩:=ih (v / 2) (by omega) (by omega);refine ⟨m+1,q,?_⟩;rw [Nat.pow_succ,Nat.mul_comm (2 ^ m) 2,Nat.mul_assoc,<- hm];omega
  ·exact ⟨0,v / 2,by omega⟩
theorem low_and {v m q:Nat} (hv:v < 2 ^ 64) (h:v = 2 ^ m*(2*q+1)):m < 64/\v.testBit m = true/\v &&& (2 ^ 64 - v) = 2 ^ m:=by
 have hp:0 < 2 ^ m:=Nat.two_pow_pos m
 have hm:m < 64:=by
  have h1:2 ^ m<=v:=by rw [h];exact Nat.le_mul_of_pos_right _ (by omega)
  exact (Nat.pow_lt_pow_iff_right (by omega)).1 (Nat.lt_of_le_of_lt h1 hv)
 have b1:∀ i,v.testBit i = (decide (i ≥ m)&&(2*q+1).testBit (i - m)):=fun i=>by rw [h,Nat.testBit_two_pow_mul]
 have e:v - 1 = 2 ^ m*(2*q)+(2 ^ m - 1):=by rw [h,Nat.mul_add];omega
 have b2:∀ i,(v - 1).testBit i = if i < m then (2 ^ m - 1).testBit i else (2*q).testBit (i - m):=fun i=>by rw [e,Nat.testBit_two_pow_mul_add _ (by omega)]
 have hv0:0 < v:=by rw [h];exact Nat.mul_pos hp (by omega)
 have b3:∀ i,(2 ^ 64 - v).testBit i = (decide (i < 64)&&!(v - 1).testBit i):=fun i=>by
  rw [show v = (v - 1)+1 by omega,Nat.testBit_two_pow_sub_succ (by omega)];simp
 refine ⟨hm,by rw [b1];simp,Nat.eq_of_testBit_eq fun i=>?_⟩;rw [Nat.testBit_and,b1,b3,b2,Nat.testBit_two_pow]
 rcases Nat.lt_trichotomy i m with h1 | rfl | h1
 ·rw [decide_eq_false (by omega:¬ (i ≥ m)),decide_eq_false (by omega:¬ m = i)];rfl
 ·simp [hm]
 ·rw [if_neg (by omega),decide_eq_true (by omega),decide_eq_false (by omega:¬ m = i)]
  obtain ⟨k,rfl⟩:∃ k,i = m+(k+1):=⟨i - m - 1,by omega⟩
  rw [show m+(k+1) - m = k+1 by omega,Nat.testBit_succ,Nat.testBit_succ,show (2*q+1) / 2 = q by omega,show 2*q / 2 = q by omega]
  cases q.testBit k <;> simp
def tzF (x:Int):Option Int:=(shrO .u64 (IntKind.u64.wrap (x*285870213051353865)) 58).bind fun v4=>(ck 64 v4).bind fun j5=>some (IntKind.i64.wrap (tabN1 j5))
theorem tz_tab:(List.range 64).all (fun m=>decide (tzF ((2 ^ m:Nat):Int) = some (m:Int))) = true:=by kernel_rfl
theorem tz_ok {v:Nat} (h0:0 < v) (h1:v < 2 ^ 64):∃ m,m < 64/\v.testBit m = true/\(∀ i,i < m->v.testBit i = false)/\∀ n,1<=n->m_9 n (v:Int) = some (m:Int):=by
 obtain ⟨m,q,h⟩:=low_form v h0;obtain ⟨hm,ht,ha⟩:=low_and h1 h;refine ⟨m,hm,ht,fun i hi=>by rw [h,Nat.testBit_two_pow_mul];simp;omega,fun n hn=>?_⟩
 obtain ⟨n,rfl⟩:∃ m,n = m+1:=⟨n - 1,by omega⟩
 have hw:IntKind.u64.wrap (0 - (v:Int)) = ((2 ^ 64 - v:Nat):Int):=by
  have e:IntKind.u64.wrap (0 - (v:Int)) = (0 - (v:Int)) % 18446744073709551616:=rfl;rw [e];omega
 have h64:(2:Nat) ^ 64 - v < 2 ^ 64:=by omega
 simp only [m_9,b_bW];rw [show decide ((v:Int) = 0) = false from decide_eq_false (by omega),cond_false,hw,andI_nat h1 h64,ha]
 have:=List.all_eq_true.1 tz_tab m (List.mem_range.2 hm)
 exact of_decide_eq_true this
theorem ones_ok (x:Int):∃ v,(∀ n,1<=n->m_b0 n x = some v)/\(x = 0->v = 0):=by
 have h:∃ v,b_4 0 x = some v:=by simp [b_4,shrO]
 obtain ⟨v,hv⟩:=h;refine ⟨v,fun n hn=>?_,fun h0=>?_⟩
 ·obtain ⟨n,rfl⟩:∃ m,n = m+1:=⟨n - 1,by omega⟩
  exact hv
 ·subst h0
  have:b_4 0 0 = some 0:=by kernel_rfl
  rw [this] at hv;injection hv with hv;exact hv.symm
theorem wd_nat (P:Nat->Bool) (j:Nat):∃ v:Nat,wd P j = v/\v < 2 ^ 64/\∀ m,m < 64->v.testBit m = P (64*j+m) :=
 ⟨_,rfl,bin_lt _ _,fun m hm=>by rw [bin_bit];simp [hm]⟩
theorem len_ok (P:Nat->Bool):∃ v,(∀ n,10<=n->m_bk n (W P) = some v)/\((∀ j,j < 4->wd P j = 0)->v = 0):=by
 obtain ⟨v0,h0,z0⟩:=ones_ok (wd P 0);obtain ⟨v1,h1,z1⟩:=ones_ok (wd P 1);obtain ⟨v2,h2,z2⟩:=ones_ok (wd P 2);obtain ⟨v3,h3,z3⟩:=ones_ok (wd P 3);refine ⟨IntKind.i64.wrap (IntKind.i64.wrap (IntKind.i64.wrap (IntKind.i64.wrap (0+v0)+v1)+v2)+v3),fun n hn=>?_,fun hz=>?_⟩
 ·obtain ⟨n,rfl⟩:∃ m,n = m+10:=⟨n - 10,by omega⟩
  have c0:ck 4 0 = some 0:=rfl;have c1:ck 4 (IntKind.i64.wrap (0+1)) = some 1:=rfl;have c2:ck 4 (IntKind.i64.wrap (IntKind.i64.wrap (0+1)+1)) = some 2:=rfl;have c3:ck 4 (IntKind.i64.wrap (IntKind.i64.wrap (IntKind.i64.wrap (0+1)+1)+1)) = some 3:=rfl;have d0:decide ((0:Int) < 4) = true:=rfl;have d1:decide (IntKind.i64.wrap (0+1) < 4) = true:=rfl;have d2:decide (IntKind.i64.wrap (IntKind.i64.wrap (0+1)+1) < 4) = true:=rfl;have d3:decide (IntKind.i64.wrap (IntKind.i64.wrap (IntKind.i64.wrap (0+1)+1)+1) < 4) = true:=rfl;have d4:decide (IntKind.i64.wrap (IntKind.i64.wrap (IntKind.i64.wrap (IntKind.i64.wrap (0+1)+1)+1)+1) < 4) = false:=rfl;have n0:(W P).f_W.nth 0 = wd P 0:=rfl;have n1:(W P).f_W.nth 1 = wd P 1:=rfl;have n2:(W P).f_W.nth 2 = wd P 2:=rfl;have n3:(W P).f_W.nth 3 = wd P 3:=rfl;simp only [m_bk,b_cL,b_bM,d0,d1,d2,d3,d4,c0,c1,c2,c3,n0,n1,n2,n3,cond_true,cond_false,oBs,h0 (n+9) (by omega),h1 (n+9) (by omega),h2 (n+9) (by omega),h3 (n+9) (by omega)]
 ·rw [z0 (hz 0 (by omega)),z1 (hz 1 (by omega)),z2 (hz 2 (by omega)),z3 (hz 3 (by omega))];rfl
theorem min_ok (P:Nat->Bool):∃ c b,(∀ n,10<=n->m_bb n (W P) = some (c,b))/\0<=c/\c < 256/\((∀ j,j < 4->wd P j = 0) \/ P c.toNat = true):=by
 have c0:ck 4 0 = some 0:=rfl;have c1:ck 4 (IntKind.i64.wrap (0+1)) = some 1:=rfl;have c2:ck 4 (IntKind.i64.wrap (IntKind.i64.wrap (0+1)+1)) = some 2:=rfl;have c3:ck 4 (IntKind.i64.wrap (IntKind.i64.wrap (IntKind.i64.wrap (0+1)+1)+1)) = some 3:=rfl;have d0:decide ((0:Int) < 4) = true:=rfl;have d1:decide (IntKind.i64.wrap (0+1) < 4) = true:=rfl;have d2:decide (IntKind.i64.wrap (IntKind.i64.wrap (0+1)+1) < 4) = true:=rfl;have d3:decide (IntKind.i64.wrap (IntKind.i64.wrap (IntKind.i64.wrap (0+1)+1)+1) < 4) = true:=rfl;have d4:decide (IntKind.i64.wrap (IntKind.i64.wrap (IntKind.i64.wrap (IntKind.i64.wrap (0+1)+1)+1)+1) < 4) = false:=rfl;have n0:(W P).f_W.nth 0 = wd P 0:=rfl;have n1:(W P).f_W.nth 1 = wd P 1:=rfl;have n2:(W P).f_W.nth 2 = wd P 2:=rfl;have n3:(W P).f_W.nth 3 = wd P 3:=rfl
 have one:∀ j,j < 4->wd P j ≠ 0->∃ c,0<=c/\c < 256/\P c.toNat = true/\∀ n,1<=n->∀ i:Int,i = j->(m_9 n (wd P j)).bind (fun v38=>some (IntKind.u8.wrap (IntKind.i64.wrap ((IntKind.i64.wrap (i*64))+v38)),true)) = some (c,true):=fun j hj h=>by
  obtain ⟨v,hv,hl,hb⟩:=wd_nat P j
  have hv0:0 < v:=by
   rcases Nat.eq_zero_or_pos v with h' | h';· subst h';exact (h hv).elim
   ·exact h'
  obtain ⟨m,hm,ht,_,hn⟩:=tz_ok hv0 hl;refine ⟨((64*j+m:Nat):Int),by omega,by omega,by rw [Int.toNat_natCast,<- hb m hm,ht],fun n h1 i hi=>?_⟩;subst hi;rw [hv,hn n h1,oBs,w64 (n:=(j:Int)*64) (by omega) (by omega),w64 (by omega) (by omega),wrap_u8 (by omega) (by omega)]
  simp;omega
 by_cases z0:wd P 0 = 0
 ·by_cases z1:wd P 1 = 0
  ·by_cases z2:wd P 2 = 0
   ·by_cases z3:wd P 3 = 0
    ·refine ⟨0,false,fun n hn=>?_,by omega,by omega,.inl fun j hj=>?_⟩
     ·obtain ⟨n,rfl⟩:∃ m,n = m+10:=⟨n - 10,by omega⟩
      simp only [m_bb,b_bo,b_0,d0,d1,d2,d3,d4,c0,c1,c2,c3,n0,n1,n2,n3,cond_true,cond_false,oBs,z0,z1,z2,z3,decide_true,Bool.not_true]
     ·match j,hj with
      | 0,_=>exact z0
      | 1,_=>exact z1
      | 2,_=>exact z2
      | 3,_=>exact z3
    ·obtain ⟨c,h1,h2,h3,h4⟩:=one 3 (by omega) z3;refine ⟨c,true,fun n hn=>?_,h1,h2,.inr h3⟩
     obtain ⟨n,rfl⟩:∃ m,n = m+10:=⟨n - 10,by omega⟩
     simp only [m_bb,b_bo,b_0,d0,d1,d2,d3,d4,c0,c1,c2,c3,n0,n1,n2,n3,cond_true,cond_false,oBs,z0,z1,z2,decide_true,Bool.not_true,decide_eq_false z3,Bool.not_false];exact h4 (n+9) (by omega) _ rfl
   ·obtain ⟨c,h1,h2,h3,h4⟩:=one 2 (by omega) z2;refine ⟨c,true,fun n hn=>?_,h1,h2,.inr h3⟩
    obtain ⟨n,rfl⟩:∃ m,n = m+10:=⟨n - 10,by omega⟩
    simp only [m_bb,b_bo,b_0,d0,d1,d2,d3,d4,c0,c1,c2,c3,n0,n1,n2,n3,cond_true,cond_false,oBs,z0,z1,decide_true,Bool.not_true,decide_eq_false z2,Bool.not_false];exact h4 (n+9) (by omega) _ rfl
  ·obtain ⟨c,h1,h2,h3,h4⟩:=one 1 (by omega) z1;refine ⟨c,true,fun n hn=>?_,h1,h2,.inr h3⟩
   obtain ⟨n,rfl⟩:∃ m,n = m+10:=⟨n - 10,by omega⟩
   simp only [m_bb,b_bo,b_0,d0,d1,d2,d3,d4,c0,c1,c2,c3,n0,n1,n2,n3,cond_true,cond_false,oBs,z0,decide_true,Bool.not_true,decide_eq_false z1,Bool.not_false];exact h4 (n+9) (by omega) _ rfl
 ·obtain ⟨c,h1,h2,h3,h4⟩:=one 0 (by omega) z0;refine ⟨c,true,fun n hn=>?_,h1,h2,.inr h3⟩
  obtain ⟨n,rfl⟩:∃ m,n = m+10:=⟨n - 10,by omega⟩
  simp only [m_bb,b_bo,b_0,d0,c0,n0,cond_true,cond_false,oBs,decide_eq_false z0,Bool.not_false];exact h4 (n+9) (by omega) _ rfl
def orS (s t:S_g):S_g:=⟨⟨[orI .u64 (s.f_W.nth 0) (t.f_W.nth 0),orI .u64 (s.f_W.nth 1) (t.f_W.nth 1),orI .u64 (s.f_W.nth 2) (t.f_W.nth 2),orI .u64 (s.f_W.nth 3) (t.f_W.nth 3)],rfl⟩⟩
theorem or_ok {n:Nat} (s t:S_g) (h:10<=n):m_co n s t = some (orS s t):=by
 have e:∀ (m:Nat) (a b c d:Int) (hl:[a,b,c,d].length = 4),m_co (m+10) ⟨⟨[a,b,c,d],hl⟩⟩ t = some (orS ⟨⟨[a,b,c,d],hl⟩⟩ t):=fun m a b c d hl=>by kernel_rfl
 obtain ⟨⟨l,hl⟩⟩:=s
 match l,hl with
 | [a,b,c,d],hl =>
  have:=e (n - 10) a b c d hl
  rw [show n - 10+10 = n by omega] at this;exact this
theorem or_W (P Q:Nat->Bool):orS (W P) (W Q) = W fun i=>P i||Q i:=by
 simp only [orS,nth_W _ (show 0 < 4 by omega),nth_W _ (show 1 < 4 by omega),nth_W _ (show 2 < 4 by omega),nth_W _ (show 3 < 4 by omega),or_wd];rfl
def allS:S_g:=W fun _=>true
theorem all_ok {n:Nat} (h:10<=n):m_cm n = some allS:=by
 have e:∀ m,m_cm (m+10) = some allS:=fun m=>by kernel_rfl
 have:=e (n - 10)
 rw [show n - 10+10 = n by omega] at this;exact this
end Go.Proofs.YtaadjlpfdajggaaGreatDoor

set_option maxRecDepth 100000
set_option linter.unusedVariables false
set_option linter.unusedSimpArgs false
namespace Go.Proofs.YtaadjlpfdajggaaGreatDoor
open Go Go.AM
abbrev e0:ByteArray:=⟨#[]⟩
def WS (s:S_g):Prop:=∀ x∈s.f_W.l,InK .u64 x
def nothingK:S_a:=⟨⟨S_g.zero,true,false,e0⟩,true,true⟩
theorem nothing_ok {n:Nat} (h:1<=n):m_bm n = some nothingK:=by
 obtain ⟨n,rfl⟩:∃ m,n = m+1:=⟨n - 1,by omega⟩
 rfl
def bytK (s:S_g):S_a:=(m_V 30 s).getD nothingK
theorem bytes_all (s:S_g) (h:WS s):∃ k,(∀ n,30<=n->m_V n s = some k)/\k.f_Facts.f_First = s/\k.f_Facts.f_Open = false/\k.f_Facts.f_Fast = false/\k.f_none = false /\
  (k.f_Facts.f_Prefix = e0/\k.f_whole = false \/ k.f_whole = true/\∃ c:Int,0<=c/\c < 256/\B k.f_Facts.f_Prefix = [c]/\∃ P,s = W P/\P c.toNat = true):=by
 obtain ⟨P,rfl⟩:=W_of s h;obtain ⟨v,h1,z1⟩:=len_ok P;obtain ⟨c,b,h2,c0,c1,z2⟩:=min_ok P
 by_cases hv:v = 1
 ·have hP:P c.toNat = true:=by
   rcases z2 with z | z
   ·have:=z1 z;omega
   ·exact z
  refine ⟨⟨⟨W P,false,false,strOf (some [c])⟩,true,false⟩,fun n hn=>?_,rfl,rfl,rfl,rfl,.inr ⟨rfl,c,c0,c1,B_strOf (by simpa using ⟨c0,c1⟩),P,rfl,hP⟩⟩
  ·obtain ⟨n,rfl⟩:∃ m,n = m+1:=⟨n - 1,by omega⟩
   simp only [m_V,b_b9,b_bp,h1 n (by omega),h2 n (by omega),oBs,hv,decide_true,cond_true];rfl
 ·refine ⟨⟨⟨W P,false,false,e0⟩,false,false⟩,fun n hn=>?_,rfl,rfl,rfl,rfl,.inl ⟨rfl,rfl⟩⟩
  obtain ⟨n,rfl⟩:∃ m,n = m+1:=⟨n - 1,by omega⟩
  simp only [m_V,b_b9,b_bp,h1 n (by omega),h2 n (by omega),oBs,decide_eq_false hv,cond_false];rfl
theorem bytes_eq {s:S_g} {k:S_a} (h:∀ n,30<=n->m_V n s = some k):bytK s = k:=by rw [bytK,h 30 (by omega)];rfl
def cutK (k:S_a):S_a:=if 100 < k.f_Facts.f_Prefix.size then { k with f_Facts:={ k.f_Facts with f_Prefix:=k.f_Facts.f_Prefix.extract 0 100 },f_whole:=false } else k
theorem cut_ok {n:Nat} (k:S_a) (h:1<=n):m_cc n k = some (cutK k):=by
 obtain ⟨n,rfl⟩:∃ m,n = m+1:=⟨n - 1,by omega⟩
 simp only [m_cc,b_cT,b_bS,cutK]
 by_cases hs:100 < k.f_Facts.f_Prefix.size
 ·rw [ct (dt (by omega)),if_pos hs,sub,if_pos ⟨by omega,by omega,by omega⟩];rfl
 ·rw [cfl (df (by omega)),if_neg hs]
def catK (a b:S_a):S_a :=
 cutK ⟨⟨if a.f_Facts.f_Open then orS a.f_Facts.f_First b.f_Facts.f_First else a.f_Facts.f_First,a.f_Facts.f_Open&&b.f_Facts.f_Open,a.f_Facts.f_Fast||(b.f_Facts.f_Fast&&a.f_none),if a.f_whole then a.f_Facts.f_Prefix ++ b.f_Facts.f_Prefix else a.f_Facts.f_Prefix⟩,a.f_whole&&b.f_whole,a.f_none&&b.f_none⟩
theorem cat_ok {n:Nat} (a b:S_a) (h:20<=n) (ha:a.f_Facts.f_Prefix.size<=100) (hb:b.f_Facts.f_Prefix.size<=100):m_cl n a b = some (catK a b):=by
 obtain ⟨n,rfl⟩:∃ m,n = m+1:=⟨n - 1,by omega⟩
 simp only [m_cl,b_e9,b_dd,b_df,catK]
 cases ho:a.f_Facts.f_Open <;> cases hw:a.f_whole
 ·simp only [cond_false,cut_ok _ (show 1<=n by omega),oBs];rfl
 ·simp only [cond_false,cond_true,sadd_eq (show a.f_Facts.f_Prefix.size+b.f_Facts.f_Prefix.size < 9000000000000000000 by omega),cut_ok _ (show 1<=n by omega),oBs];rfl
 ·simp only [cond_false,cond_true,or_ok _ _ (show 10<=n by omega),cut_ok _ (show 1<=n by omega),oBs];rfl
 ·simp only [cond_false,cond_true,or_ok _ _ (show 10<=n by omega),sadd_eq (show a.f_Facts.f_Prefix.size+b.f_Facts.f_Prefix.size < 9000000000000000000 by omega),cut_ok _ (show 1<=n by omega),oBs];rfl
def altK (a b:S_a):S_a:=⟨⟨orS a.f_Facts.f_First b.f_Facts.f_First,a.f_Facts.f_Open||b.f_Facts.f_Open,a.f_Facts.f_Fast&&b.f_Facts.f_Fast,e0⟩,false,a.f_none&&b.f_none⟩
theorem alt_ok {n:Nat} (a b:S_a) (h:20<=n):m_cn n a b = some (altK a b):=by
 obtain ⟨n,rfl⟩:∃ m,n = m+1:=⟨n - 1,by omega⟩
 simp only [m_cn,b_eZ,or_ok _ _ (show 10<=n by omega),oBs];rfl
def repK (x:S_c) (a:S_a):S_a :=
 if x.f_Max = 0 then nothingK else ⟨⟨a.f_Facts.f_First,a.f_Facts.f_Open||decide (x.f_Min = 0),a.f_Facts.f_Fast&&decide (0 < x.f_Min),if 0 < x.f_Min then a.f_Facts.f_Prefix else e0⟩,(a.f_whole&&decide (x.f_Min = 1))&&decide (x.f_Max = 1),a.f_none⟩
theorem rep_ok {n:Nat} (x:S_c) (a:S_a) (h:2<=n):m_bE n x a = some (repK x a):=by
 obtain ⟨n,rfl⟩:∃ m,n = m+1:=⟨n - 1,by omega⟩
 simp only [m_bE,b_dN,b_c6,b_cv,nothing_ok (show 1<=n by omega),oBs,repK]
 by_cases h0:x.f_Max = 0
 ·rw [ct (dt h0),if_pos h0]
 ·rw [cfl (df h0),if_neg h0]
  by_cases h1:0 < x.f_Min
  ·rw [ct (dt h1),if_pos h1]
  ·rw [cfl (df h1),if_neg h1]
def facA (x:S_c) (v w:S_a):S_a :=
 if x.f_Kind = 1 then bytK x.f_Set else if x.f_Kind = 2 then ⟨⟨S_g.zero,true,true,e0⟩,true,true⟩ else if x.f_Kind = 12 then ⟨⟨allS,true,false,e0⟩,false,false⟩
 else if x.f_Kind = 8 then catK v w else if x.f_Kind = 9 then altK v w else if x.f_Kind = 10 then repK x v else if x.f_Kind = 11 \/ x.f_Kind = 17 then v else nothingK
abbrev Tm.facs (t:Tm):List S_a:=t.vals nothingK facA
abbrev Tm.fac (t:Tm):S_a:=t.val nothingK facA
theorem Tm.vals_all {β:Type} {d:β} {alg:S_c->β->β->β} {Q:β->Prop} {R:S_c->Prop} (h0:∀ x,R x->kd x.f_Kind = 0->Q (alg x d d)) (h1:∀ x v,R x->kd x.f_Kind = 1->Q v->Q (alg x v d)) (h2:∀ x v w,R x->kd x.f_Kind = 2->Q v->Q w->Q (alg x v w)) :
  ∀ {t:Tm} {k:Nat},t.At k->(∀ x∈t.flat,R x)->Q (t.val d alg)/\∀ v∈t.vals d alg,Q v
 | .leaf n,k,h,hr=>by
  have:=h0 n (hr n (by simp [Tm.flat])) h.2.1
  exact ⟨this,fun v hv=>by simp [Tm.vals] at hv;rw [hv];exact this⟩
 | .one n t,k,h,hr=>by
  obtain ⟨g1,g2⟩:=Tm.vals_all (Q:=Q) h0 h1 h2 h.1 fun x hx=>hr x (by simp [Tm.flat,hx])
  have:=h1 n _ (hr n (by simp [Tm.flat])) h.2.2.1 g1
  refine ⟨this,fun v hv=>?_⟩;simp only [Tm.vals,List.mem_append,List.mem_singleton] at hv
  rcases hv with hv | rfl
  ·exact g2 v hv
  ·exact this
 | .two n a b,k,h,hr=>by
  obtain ⟨g1,g2⟩:=Tm.vals_all (Q:=Q) h0 h1 h2 h.1 fun x hx=>hr x (by simp [Tm.flat,hx]);obtain ⟨g3,g4⟩:=Tm.vals_all (Q:=Q) h0 h1 h2 h.2.1 fun x hx=>hr x (by simp [Tm.flat,hx])
  have:=h2 n _ _ (hr n (by simp [Tm.flat])) h.2.2.2.1 g1 g3
  refine ⟨this,fun v hv=>?_⟩;simp only [Tm.vals,List.mem_append,List.mem_singleton] at hv
  rcases hv with (hv | hv) | rfl
  ·exact g2 v hv
  ·exact g4 v hv
  ·exact this
def SetIn (x:S_c):Prop:=WS x.f_Set
theorem cutK_size (k:S_a):(cutK k).f_Facts.f_Prefix.size<=100:=by
 unfold cutK
 split
 ·simp [ByteArray.size_extract];omega
 ·omega
theorem fac_size {x:S_c} {v w:S_a} (hx:SetIn x) (hv:v.f_Facts.f_Prefix.size<=100):(facA x v w).f_Facts.f_Prefix.size<=100:=by
 unfold facA
 split
 ·obtain ⟨k,h1,h2,h3,h4,h5,h6⟩:=bytes_all x.f_Set hx;rw [bytes_eq h1]
  rcases h6 with ⟨h6,_⟩ | ⟨_,c,_,_,h6,_⟩
  ·rw [h6];exact Nat.zero_le 100
  ·rw [<- B_len,h6];simp
 split
 ·exact Nat.zero_le 100
 split
 ·exact Nat.zero_le 100
 split
 ·exact cutK_size _
 split
 ·exact Nat.zero_le 100
 split
 ·unfold repK
  split
  ·exact Nat.zero_le 100
  ·simp only;split
   ·exact hv
   ·exact Nat.zero_le 100
 split
 ·exact hv
 ·exact Nat.zero_le 100
theorem facs_size {t:Tm} {k:Nat} (h:t.At k) (hs:∀ x∈t.flat,SetIn x):∀ v∈t.facs,v.f_Facts.f_Prefix.size<=100 :=
 (Tm.vals_all (Q:=fun v:S_a=>v.f_Facts.f_Prefix.size<=100) (R:=SetIn) (fun x hx _=>fac_size (v:=nothingK) hx (Nat.zero_le 100)) (fun x v hx _ hv=>fac_size hx hv) (fun x v w hx _ hv _=>fac_size hx hv) h hs).2
section
variable {n:Nat} {x0:Sl S_c} {t:Tm}
theorem all_loop (hn:100<=n) (hN:(Sl.l x0).length<=500) (hl:Sl.l x0 = t.flat) (ht:t.At 0) (hS:∀ x∈t.flat,SetIn x):∀ (d fuel i:Nat),i+d = t.size->d < fuel ->
  b_D (m_V n) (m_bm n) (m_cm n) (m_cl n) (m_cn n) (m_bE n) n x0 fuel (pf t.facs S_a.zero i) (Sl.len x0) (i:Int) = some (some t.facs):=by
 have hlen:Sl.len x0 = (t.size:Int):=by simp [Sl.len,hl,Tm.flat_len]
 have hs:t.size<=500:=by rw [hl,Tm.flat_len] at hN;exact hN
 have hvl:t.facs.length = t.size:=t.vals_len _ _;have hsz:=facs_size ht hS;intro d
 induction d with
 | zero =>
  intro fuel i hi hf
  obtain ⟨fuel,rfl⟩:∃ m,fuel = m+1:=⟨fuel - 1,by omega⟩
  obtain rfl:i = t.size:=by omega
  rw [b_D,cfl (df (by omega)),<- hvl,pf_end]
 | succ d ih =>
  intro fuel i hi hf
  obtain ⟨fuel,rfl⟩:∃ m,fuel = m+1:=⟨fuel - 1,by omega⟩
  have hif:i < t.flat.length:=by rw [Tm.flat_len];omega
  have hx:=List.getElem?_eq_getElem hif;have hx0:Sl.nth x0 i = t.flat[i]:=nth_l (by rw [hl];exact hx);have hSx:SetIn t.flat[i]:=hS _ (List.getElem_mem hif);have K:=Tm.kid (d:=nothingK) (alg:=facA) ht hx;rw [b_D,ct (dt (by omega)),ck_ok (by rw [hl];exact hif),oBs,hx0]
  have hck:∀ {j:Nat} {v:S_a},t.facs[j]? = some v->ck (Sl.l (pf t.facs S_a.zero i)).length ((0+j:Nat):Int) = some j:=fun {j v} hv=>by
   rw [pf_len (by omega),Nat.zero_add];exact ck_ok (lGs.1 hv).1
  have hci:ck (Sl.l (pf t.facs S_a.zero i)).length (i:Int) = some i:=by rw [pf_len (by omega)];exact ck_ok (by omega)
  have go:=ih fuel (i+1) (by omega) (by omega);have sz:∀ {j:Nat} {v:S_a},t.facs[j]? = some v->v.f_Facts.f_Prefix.size<=100:=fun {j v} hv=>hsz v (List.mem_iff_getElem?.2 ⟨j,hv⟩)
  generalize t.flat[i] = x at *
  by_cases k1:x.f_Kind = 1
  ·obtain ⟨k,hk,_⟩:=bytes_all x.f_Set hSx
   have hv:t.facs[i]? = some k:=by
    have e:∀ v w,facA x v w = k:=fun v w=>by simp only [facA,if_pos k1,bytes_eq hk]
    rcases K.at_ with ⟨h1,h2,h3,h4⟩ | ⟨h1,j,v,h2,h3,h4,h5,h6⟩ | ⟨h1,j,m,v,w,h2,h3,h4,h5,h6,h7,h8⟩
    ·rw [h4,e]
    ·rw [h6,e]
    ·rw [h8,e]
   rw [ct (dt k1),hk n (by omega),oBs,hci,oBs,b_C,wp1 (by omega),pf_put hv];exact go
  rw [cfl (df k1)]
  by_cases k2:x.f_Kind = 2
  ·have hv:t.facs[i]? = some ⟨⟨S_g.zero,true,true,e0⟩,true,true⟩:=by
    have e:∀ v w,facA x v w = ⟨⟨S_g.zero,true,true,e0⟩,true,true⟩:=fun v w=>by simp only [facA,if_neg k1,if_pos k2]
    rcases K.at_ with ⟨h1,h2,h3,h4⟩ | ⟨h1,j,v,h2,h3,h4,h5,h6⟩ | ⟨h1,j,m,v,w,h2,h3,h4,h5,h6,h7,h8⟩
    ·rw [h4,e]
    ·rw [h6,e]
    ·rw [h8,e]
   rw [ct (dt k2),nothing_ok (by omega),oBs,hci,oBs,b_C,wp1 (by omega),put_put,nth_put_eq (by rw [pf_len (by omega)];omega)];have e2:S_a.w0 nothingK (S_e.w2 nothingK.f_Facts true) = ⟨⟨S_g.zero,true,true,e0⟩,true,true⟩:=rfl;rw [e2,pf_put hv];rw [nothing_ok (by omega)] at go;exact go
  rw [cfl (df k2)]
  by_cases k3:x.f_Kind = 12
  ·have hv:t.facs[i]? = some ⟨⟨allS,true,false,e0⟩,false,false⟩:=by
    have e:∀ v w,facA x v w = ⟨⟨allS,true,false,e0⟩,false,false⟩:=fun v w=>by simp only [facA,if_neg k1,if_neg k2,if_pos k3]
    rcases K.at_ with ⟨h1,h2,h3,h4⟩ | ⟨h1,j,v,h2,h3,h4,h5,h6⟩ | ⟨h1,j,m,v,w,h2,h3,h4,h5,h6,h7,h8⟩
    ·rw [h4,e]
    ·rw [h6,e]
    ·rw [h8,e]
   rw [ct (dt k3),all_ok (by omega),oBs,hci,oBs,b_C,wp1 (by omega)];have e2:({ S_a.zero with f_Facts:=({ S_e.zero with f_First:=allS,f_Open:=true }:S_e) }:S_a) = ⟨⟨allS,true,false,e0⟩,false,false⟩:=rfl;rw [e2,pf_put hv];rw [all_ok (by omega)] at go;exact go
  rw [cfl (df k3)]
  by_cases k4:x.f_Kind = 8
  ·rcases K.at_ with ⟨h1,_⟩ | ⟨h1,_⟩ | ⟨h1,j,m,v,w,h2,h3,h4,h5,h6,h7,h8⟩
   ·simp [kd,k4] at h1
   ·simp [kd,k4] at h1
   have hv:t.facs[i]? = some (catK v w):=by rw [h8];simp [facA,k4]
   rw [ct (dt k4),h4,hck h6,oBs,h5,hck h7,oBs,pf_nth h2 h6,pf_nth h3 h7,cat_ok _ _ (by omega) (sz h6) (sz h7),oBs,hci,oBs,b_C,wp1 (by omega),pf_put hv];exact go
  rw [cfl (df k4)]
  by_cases k5:x.f_Kind = 9
  ·rcases K.at_ with ⟨h1,_⟩ | ⟨h1,_⟩ | ⟨h1,j,m,v,w,h2,h3,h4,h5,h6,h7,h8⟩
   ·simp [kd,k5] at h1
   ·simp [kd,k5] at h1
   have hv:t.facs[i]? = some (altK v w):=by rw [h8];simp [facA,k5]
   rw [ct (dt k5),h4,hck h6,oBs,h5,hck h7,oBs,pf_nth h2 h6,pf_nth h3 h7,alt_ok _ _ (by omega),oBs,hci,oBs,b_C,wp1 (by omega),pf_put hv];exact go
  rw [cfl (df k5)]
  by_cases k6:x.f_Kind = 10
  ·rcases K.at_ with ⟨h1,_⟩ | ⟨h1,j,v,h2,h3,h4,h5,h6⟩ | ⟨h1,_⟩
   ·simp [kd,k6] at h1
   case inr.inr=>simp [kd,k6] at h1
   have hv:t.facs[i]? = some (repK x v):=by rw [h6];simp [facA,k6]
   rw [ct (dt k6),h3,hck h5,oBs,pf_nth h2 h5,rep_ok _ _ (by omega),oBs,hci,oBs,b_C,wp1 (by omega),pf_put hv];exact go
  rw [cfl (df k6)]
  by_cases k7:x.f_Kind = 11 \/ x.f_Kind = 17
  ·rcases K.at_ with ⟨h1,_⟩ | ⟨h1,j,v,h2,h3,h4,h5,h6⟩ | ⟨h1,_⟩
   ·rcases k7 with k7 | k7 <;> simp [kd,k7] at h1
   case inr.inr=>rcases k7 with k7 | k7 <;> simp [kd,k7] at h1
   have hv:t.facs[i]? = some v:=by rw [h6];rcases k7 with k7 | k7 <;> simp [facA,k7]
   have fin:b_ca (m_V n) (m_bm n) (m_cm n) (m_cl n) (m_cn n) (m_bE n) n (b_D (m_V n) (m_bm n) (m_cm n) (m_cl n) (m_cn n) (m_bE n) n x0 fuel) x0 (pf t.facs S_a.zero i) i x (Sl.len x0) i true = some (some t.facs):=by
    rw [b_ca,cond_true,h3,hck h5,oBs,hci,oBs,b_C,wp1 (by omega),pf_nth h2 h5,pf_put hv];exact go
   by_cases k8:x.f_Kind = 11
   ·rw [ct (dt k8),dt k8];exact fin
   ·rw [cfl (df k8),dt (k7.resolve_left k8)];exact fin
  rw [cfl (df fun h=>k7 (.inl h)),df fun h=>k7 (.inr h),b_ca,cond_false,nothing_ok (by omega),oBs,hci,oBs,b_C,wp1 (by omega)]
  have hv:t.facs[i]? = some nothingK:=by
   have e:∀ v w,facA x v w = nothingK:=fun v w=>by simp only [facA,if_neg k1,if_neg k2,if_neg k3,if_neg k4,if_neg k5,if_neg k6,if_neg k7]
   rcases K.at_ with ⟨h1,h2,h3,h4⟩ | ⟨h1,j,v,h2,h3,h4,h5,h6⟩ | ⟨h1,j,m,v,w,h2,h3,h4,h5,h6,h7,h8⟩
   ·rw [h4,e]
   ·rw [h6,e]
   ·rw [h8,e]
  rw [pf_put hv];rw [nothing_ok (by omega)] at go;exact go
theorem facall_ok (hn:600<=n) (hN:(Sl.l x0).length<=500) (ht:tree (Sl.l x0) = some t) (hS:∀ x∈Sl.l x0,SetIn x):m_dj n x0 = some (some t.facs):=by
 obtain ⟨n,rfl⟩:∃ m,n = m+1:=⟨n - 1,by omega⟩
 obtain ⟨hl,hA⟩:=tree_some ht
 have hs:t.size<=500:=by rw [hl,Tm.flat_len] at hN;exact hN
 simp only [m_dj,b_e1]
 have:=all_loop (n:=n) (by omega) hN hl hA (hl ▸ hS) t.size n 0 (by omega) (by omega)
 rw [show Sl.len x0 = ((t.size:Nat):Int) by simp [Sl.len,hl,Tm.flat_len]] at this ⊢;rw [make_ok (Nat.le_refl _) (by omega) (by omega),oBs];rw [pf_0,Tm.vals_len] at this;exact this
end
end Go.Proofs.YtaadjlpfdajggaaGreatDoor

set_option maxRecDepth 100000
set_option linter.unusedVariables false
set_option linter.unusedSimpArgs false
namespace Go.Proofs.YtaadjlpfdajggaaGreatDoor
open Go Go.AM
def RS (P:Nat->Bool) (i:Nat):S_f:=⟨⟨(List.range 256).map fun j=>decide (j < i)&&P j,by simp⟩⟩
theorem RS_zero0:S_f.zero = RS (fun _=>false) 0:=by kernel_rfl
theorem RS_zero (P:Nat->Bool):S_f.zero = RS P 0:=RS_zero0.trans (by simp [RS])
theorem RS_put (P:Nat->Bool) {i:Nat} (h:i < 256) {b:Bool} (hb:b = P i):({ RS P i with f_In:=(RS P i).f_In.put i b }:S_f) = RS P (i+1):=by
 subst hb;simp only [RS,Arr.put,S_f.mk.injEq,Arr.mk.injEq];apply List.ext_getElem?;intro j;rw [List.getElem?_set];simp only [List.length_map,List.length_range,List.getElem?_map]
 by_cases hj:i = j
 ·subst hj;simp [h]
 ·rw [if_neg hj]
  by_cases hj2:j < 256
  ·simp only [List.getElem?_range hj2,oMs]
   congr 1
   have:decide (j < i) = decide (j < i+1):=by
    by_cases h1:j < i
    ·simp [h1];omega
    ·have:¬ j < i+1:=by omega
     simp [h1,this]
   rw [this]
  ·simp [List.getElem?_eq_none (show (List.range 256).length<=j by simp;omega)]
theorem half {v:Nat} (h:v < 2 ^ 64):quoO .u64 (v:Int) 2 = some ((v / 2:Nat):Int):=by
 simp only [quoO,show ¬ ((2:Int) = 0) by decide,if_false];rw [Int.tdiv_eq_ediv_of_nonneg (by omega),show ((v:Int) / 2) = ((v / 2:Nat):Int) by omega,u64_nat (by omega)]
theorem odd2 {v:Nat}:remO (v:Int) 2 = some ((v % 2:Nat):Int):=by
 simp only [remO,show ¬ ((2:Int) = 0) by decide,if_false];rw [Int.tmod_eq_emod_of_nonneg (by omega)]
 simp
theorem quoI {i:Nat} (h:i < 256):quoO .i64 (i:Int) 64 = some ((i / 64:Nat):Int):=by
 simp only [quoO,show ¬ ((64:Int) = 0) by decide,if_false];rw [Int.tdiv_eq_ediv_of_nonneg (by omega),w64 (by omega) (by omega)]
 simp
theorem of_2 {n:Nat} (q:Arr Int 4->S_f->S_f->Int->Option S_f) (a:Arr Int 4) (z s:S_f) {i:Nat} (hi:i < 256):∀ (d k j v:Nat),j+d = i % 64->d < k->v < 2 ^ 64 ->
  b_cu n q k a z s (i:Int) (v:Int) (j:Int) = q a z { s with f_In:=s.f_In.put i ((v / 2 ^ d).testBit 0) } ((i+1:Nat):Int)
 | 0,k+1,j,v,hj,hk,hv=>by
  rw [b_cu.eq_2,rem64,oBs]
  have hc:decide ((j:Int) < ((i % 64:Nat):Int)) = false:=by simp;omega
  rw [hc,cond_false,odd2,oBs,ck_ok hi,oBs,wp1 (by omega)]
  have:decide (((v % 2:Nat):Int) = 1) = (v / 2 ^ 0).testBit 0:=by
   rw [Nat.testBit_zero];simp only [Nat.pow_zero,Nat.div_one]
   by_cases h:v % 2 = 1
   ·simp [h]
   ·have h0:v % 2 = 0:=by omega
    simp [h0]
  rw [this]
 | d+1,k+1,j,v,hj,hk,hv=>by
  rw [b_cu.eq_2,rem64,oBs]
  have hc:decide ((j:Int) < ((i % 64:Nat):Int)) = true:=by simp;omega
  rw [hc,cond_true,half hv,oBs,wp1 (by omega),of_2 q a z s hi d k (j+1) (v / 2) (by omega) (by omega) (by omega),Nat.div_div_eq_div_mul,Nat.pow_succ,Nat.mul_comm 2]
theorem of_1 {n:Nat} (P:Nat->Bool) (z:S_f) (hn:70<=n):∀ (d k i:Nat),i+d = 256->d < k->b_bZ n k (W P).f_W z (RS P i) (i:Int) = some (RS P 256)
 | 0,k+1,i,hi,hk=>by
  rw [b_bZ.eq_2]
  have hc:decide ((i:Int) < 256) = false:=by simp;omega
  rw [hc,cond_false]
  have:i = 256:=by omega
  rw [this]
 | d+1,k+1,i,hi,hk=>by
  rw [b_bZ.eq_2]
  have hc:decide ((i:Int) < 256) = true:=by simp;omega
  have hq:i / 64 < 4:=by omega
  rw [hc,cond_true,quoI (by omega),oBs,ck_ok hq,oBs,nth_W P hq];have hm:i % 64 < 64:=Nat.mod_lt _ (by decide);rw [wd,show (0:Int) = ((0:Nat):Int) from rfl,of_2 _ _ _ _ (by omega) (i % 64) n 0 _ (by omega) (by omega) (bin_lt _ _)];rw [RS_put P (by omega)]
  ·exact of_1 P z hn d k (i+1) (by omega) (by omega)
  ·rw [Nat.testBit_div_two_pow,Nat.zero_add,bin_bit];simp [hm,show 64*(i / 64)+i % 64 = i by omega]
theorem of_W {n:Nat} (P:Nat->Bool) (hn:300<=n):m_c2 n (W P).f_W = some (RS P 256):=by
 obtain ⟨n,rfl⟩:∃ m,n = m+1:=⟨n - 1,by omega⟩
 show b_et n _ = _;rw [b_et,RS_zero P];exact of_1 P _ (by omega) 256 n 0 (by omega) (by omega)
end Go.Proofs.YtaadjlpfdajggaaGreatDoor

set_option maxRecDepth 100000
set_option linter.unusedVariables false
set_option linter.unusedSimpArgs false
namespace Go.Proofs.YtaadjlpfdajggaaGreatDoor
open Go Go.AM
def cnt (P:Nat->Bool) (a:Nat):Nat->Nat
 | 0=>0
 | n+1=>cnt P a n+(P (a+n)).toNat
theorem cnt_add (P:Nat->Bool) (a m:Nat):∀ n,cnt P a (m+n) = cnt P a m+cnt P (a+m) n
 | 0=>rfl
 | n+1=>by rw [<- Nat.add_assoc,cnt,cnt_add P a m n,cnt,Nat.add_assoc,Nat.add_assoc]
theorem cnt_congr {P Q:Nat->Bool} {a b:Nat}:∀ {n},(∀ i,i < n->P (a+i) = Q (b+i))->cnt P a n = cnt Q b n
 | 0,_=>rfl
 | n+1,h=>by rw [cnt,cnt,cnt_congr fun i hi=>h i (by omega),h n (by omega)]
def V8:List Nat->Nat
 | []=>0
 | a :: r=>256*V8 r+a
theorem and_split {i x y m M:Nat} (hx:x < 2 ^ i) (hm:m < 2 ^ i):(2 ^ i*y+x) &&& (2 ^ i*M+m) = 2 ^ i*(y &&& M)+(x &&& m):=by
 have hxm:x &&& m < 2 ^ i:=Nat.lt_of_le_of_lt Nat.and_le_left hx;refine Nat.eq_of_testBit_eq fun j=>?_;rw [Nat.testBit_and,Nat.testBit_two_pow_mul_add _ hx,Nat.testBit_two_pow_mul_add _ hm,Nat.testBit_two_pow_mul_add _ hxm]
 split <;> rw [Nat.testBit_and]
theorem and_low {i x c m:Nat} (hx:x < 2 ^ i) (hm:m < 2 ^ i):(2 ^ i*c+x) &&& m = x &&& m:=by
 have:=and_split (y:=c) (M:=0) hx hm
 simpa using this
theorem v8_and {m:Nat} (hm:m < 256):∀ {l:List Nat},(∀ a∈l,a < 256)->V8 l &&& V8 (List.replicate l.length m) = V8 (l.map (· &&& m))
 | [],_=>by simp [V8]
 | a :: r,h=>by
  have ih:=v8_and hm (l:=r) fun x hx=>h x (by simp [hx])
  have:=and_split (i:=8) (x:=a) (m:=m) (y:=V8 r) (M:=V8 (List.replicate r.length m)) (h a (by simp)) hm
  rw [ih] at this;exact this
theorem v8_shift {s m:Nat} (hs:s = 1 \/ s = 2) (hm:m < 2 ^ (8 - s)):∀ {l:List Nat},(∀ a∈l,a < 256)->(V8 l / 2 ^ s) &&& V8 (List.replicate l.length m) = V8 (l.map fun a=>(a / 2 ^ s) &&& m)
 | [],_=>by simp [V8]
 | a :: r,h=>by
  have ih:=v8_shift hs hm (l:=r) fun x hx=>h x (by simp [hx]);have ha:=h a (by simp);have hm8:m < 2 ^ 8:=Nat.lt_of_lt_of_le hm (Nat.pow_le_pow_right (by omega) (by omega))
  have e:V8 (a :: r) / 2 ^ s = 2 ^ 8*(V8 r / 2 ^ s)+(2 ^ (8 - s)*(V8 r % 2 ^ s)+a / 2 ^ s):=by
   rcases hs with rfl | rfl
   ·simp only [V8,show (2:Nat) ^ (8 - 1) = 128 from rfl,show (2:Nat) ^ 1 = 2 from rfl,show (2:Nat) ^ 8 = 256 from rfl];omega
   ·simp only [V8,show (2:Nat) ^ (8 - 2) = 64 from rfl,show (2:Nat) ^ 2 = 4 from rfl,show (2:Nat) ^ 8 = 256 from rfl];omega
  have hlo:2 ^ (8 - s)*(V8 r % 2 ^ s)+a / 2 ^ s < 2 ^ 8:=by
   rcases hs with rfl | rfl
   ·simp only [show (2:Nat) ^ (8 - 1) = 128 from rfl,show (2:Nat) ^ (8 - 2) = 64 from rfl,show (2:Nat) ^ 1 = 2 from rfl,show (2:Nat) ^ 2 = 4 from rfl,show (2:Nat) ^ 8 = 256 from rfl];omega
   ·simp only [show (2:Nat) ^ (8 - 1) = 128 from rfl,show (2:Nat) ^ (8 - 2) = 64 from rfl,show (2:Nat) ^ 1 = 2 from rfl,show (2:Nat) ^ 2 = 4 from rfl,show (2:Nat) ^ 8 = 256 from rfl];omega
  have hlo2:a / 2 ^ s < 2 ^ (8 - s):=by
   rcases hs with rfl | rfl
   ·simp only [show (2:Nat) ^ (8 - 1) = 128 from rfl,show (2:Nat) ^ (8 - 2) = 64 from rfl,show (2:Nat) ^ 1 = 2 from rfl,show (2:Nat) ^ 2 = 4 from rfl,show (2:Nat) ^ 8 = 256 from rfl];omega
   ·simp only [show (2:Nat) ^ (8 - 1) = 128 from rfl,show (2:Nat) ^ (8 - 2) = 64 from rfl,show (2:Nat) ^ 1 = 2 from rfl,show (2:Nat) ^ 2 = 4 from rfl,show (2:Nat) ^ 8 = 256 from rfl];omega
  rw [e]
  have:=and_split (i:=8) (m:=m) (y:=V8 r / 2 ^ s) (M:=V8 (List.replicate r.length m)) hlo hm8
  rw [ih,and_low hlo2 hm] at this;exact this
theorem v8_add {f g:Nat->Nat}:∀ l:List Nat,V8 (l.map f)+V8 (l.map g) = V8 (l.map fun a=>f a+g a)
 | []=>rfl
 | a :: r=>by have:=v8_add (f:=f) (g:=g) r;simp only [List.map_cons,V8] at this ⊢;omega
theorem v8_fold:∀ {l:List Nat},(∀ a∈l,a / 16<=4/\a % 16<=4)->(V8 l / 16+V8 l) &&& V8 (List.replicate l.length 15) = V8 (l.map fun a=>a / 16+a % 16)
 | [],_=>rfl
 | a :: r,h=>by
  have ih:=v8_fold (l:=r) fun x hx=>h x (by simp [hx]);have ha:=h a (by simp)
  have hr:V8 r % 16<=4:=by
   cases r with
   | nil=>simp [V8]
   | cons b q=>have:=h b (by simp);simp only [V8];omega
  have e:V8 (a :: r) / 16+V8 (a :: r) = 2 ^ 8*(V8 r / 16+V8 r)+(2 ^ 4*(V8 r % 16+a / 16)+(a / 16+a % 16)):=by simp only [V8];omega
  rw [e]
  have hlo:2 ^ 4*(V8 r % 16+a / 16)+(a / 16+a % 16) < 2 ^ 8:=by omega
  have:=and_split (i:=8) (m:=15) (y:=V8 r / 16+V8 r) (M:=V8 (List.replicate r.length 15)) hlo (by decide)
  rw [ih,and_low (i:=4) (by omega) (by decide)] at this
  rw [show (a / 16+a % 16) &&& 15 = a / 16+a % 16 by
   have:=Nat.and_two_pow_sub_one_eq_mod (a / 16+a % 16) 4
   rw [show (2:Nat) ^ 4 - 1 = 15 from rfl] at this
   rw [this];omega] at this
  exact this
def p1 (a:Nat):Nat:=((a / 2) &&& 85)+(a &&& 85)
def p2 (a:Nat):Nat:=((a / 4) &&& 51)+(a &&& 51)
def pc8 (a:Nat):Nat:=p2 (p1 a) / 16+p2 (p1 a) % 16
theorem pc_tab:(List.range 256).all (fun a=>decide (p1 a < 256/\p2 (p1 a) / 16<=4/\p2 (p1 a) % 16<=4/\pc8 a<=8/\pc8 a = cnt a.testBit 0 8)) = true:=by kernel_rfl
theorem pc_of {a:Nat} (h:a < 256):p1 a < 256/\p2 (p1 a) / 16<=4/\p2 (p1 a) % 16<=4/\pc8 a<=8/\pc8 a = cnt a.testBit 0 8 :=
 of_decide_eq_true (List.all_eq_true.1 pc_tab a (List.mem_range.2 h))
theorem v8_lt:∀ {l:List Nat},(∀ a∈l,a < 256)->V8 l < 256 ^ l.length
 | [],_=>by simp [V8]
 | a :: r,h=>by
  have ih:=v8_lt (l:=r) fun x hx=>h x (by simp [hx])
  have:=h a (by simp)
  simp only [V8,List.length_cons,Nat.pow_succ];omega
theorem v8_cnt:∀ {l:List Nat},(∀ a∈l,a < 256)->cnt (V8 l).testBit 0 (8*l.length) = (l.map pc8).sum
 | [],_=>rfl
 | a :: r,h=>by
  have ih:=v8_cnt (l:=r) fun x hx=>h x (by simp [hx]);have ha:=h a (by simp);rw [List.length_cons,Nat.mul_add,Nat.add_comm,cnt_add,List.map_cons,List.sum_cons,(pc_of ha).2.2.2.2,<- ih];have tb:∀ i,(V8 (a :: r)).testBit i = if i < 8 then a.testBit i else (V8 r).testBit (i - 8):=fun i=>Nat.testBit_two_pow_mul_add (V8 r) (i:=8) (b:=a) ha i
  congr 1
  ·exact cnt_congr fun i hi=>by rw [tb,if_pos (by omega)]
  ·exact cnt_congr fun i hi=>by rw [tb,if_neg (by omega)];congr 1;omega
theorem bytes_v {v:Nat} (h:v < 2 ^ 64):V8 [v % 256,v / 256 % 256,v / 65536 % 256,v / 16777216 % 256,v / 4294967296 % 256,v / 1099511627776 % 256,v / 281474976710656 % 256,v / 72057594037927936 % 256] = v:=by
 simp only [V8];omega
theorem shr_nat {v s:Nat} (hs:s < 64):shrO .u64 (v:Int) (s:Int) = some ((v / 2 ^ s:Nat):Int):=by
 rw [shr_W hs]
 congr 1
 rw [Int.fdiv_eq_ediv_of_nonneg _ (Int.pow_nonneg (by decide))]
 simp
theorem tail_sum {x0 x1 x2 x3 x4 x5 x6 x7:Nat} (g0:x0<=8) (g1:x1<=8) (g2:x2<=8) (g3:x3<=8) (g4:x4<=8) (g5:x5<=8) (g6:x6<=8) (g7:x7<=8) :
  let Y:=V8 [x0,x1,x2,x3,x4,x5,x6,x7];let Y4:=Y+Y / 256;let Y5:=Y4+Y4 / 65536;let Z:=Y5+Y5 / 4294967296
  Y4 < 2 ^ 64/\Y5 < 2 ^ 64/\Z < 2 ^ 63/\Z % 128 = x0+x1+x2+x3+x4+x5+x6+x7/\True/\True:=by
 intro Y Y4 Y5 Z
 have e1:Y / 256 = V8 [x1,x2,x3,x4,x5,x6,x7]:=by
  show (256*V8 [x1,x2,x3,x4,x5,x6,x7]+x0) / 256 = _;generalize V8 [x1,x2,x3,x4,x5,x6,x7] = T;omega
 have e4:Y4 = V8 [x0+x1,x1+x2,x2+x3,x3+x4,x4+x5,x5+x6,x6+x7,x7]:=by
  show Y+Y / 256 = _;rw [e1];show V8 [x0,x1,x2,x3,x4,x5,x6,x7]+_ = _;simp only [V8];omega
 have e2:Y4 / 65536 = V8 [x2+x3,x3+x4,x4+x5,x5+x6,x6+x7,x7]:=by
  rw [e4];show (256*(256*V8 [x2+x3,x3+x4,x4+x5,x5+x6,x6+x7,x7]+(x1+x2))+(x0+x1)) / 65536 = _;generalize V8 [x2+x3,x3+x4,x4+x5,x5+x6,x6+x7,x7] = T;omega
 have e5:Y5 = V8 [x0+x1+x2+x3,x1+x2+x3+x4,x2+x3+x4+x5,x3+x4+x5+x6,x4+x5+x6+x7,x5+x6+x7,x6+x7,x7]:=by
  show Y4+Y4 / 65536 = _;rw [e2,e4];simp only [V8];omega
 have e3:Y5 / 4294967296 = V8 [x4+x5+x6+x7,x5+x6+x7,x6+x7,x7]:=by
  rw [e5];show (256*(256*(256*(256*V8 [x4+x5+x6+x7,x5+x6+x7,x6+x7,x7]+(x3+x4+x5+x6))+(x2+x3+x4+x5))+(x1+x2+x3+x4))+(x0+x1+x2+x3)) / 4294967296 = _;generalize V8 [x4+x5+x6+x7,x5+x6+x7,x6+x7,x7] = T;omega
 have e6:Z = V8 [x0+x1+x2+x3+(x4+x5+x6+x7),x1+x2+x3+x4+(x5+x6+x7),x2+x3+x4+x5+(x6+x7),x3+x4+x5+x6+x7,x4+x5+x6+x7,x5+x6+x7,x6+x7,x7]:=by
  show Y5+Y5 / 4294967296 = _;rw [e3,e5];simp only [V8];omega
 refine ⟨?_,?_,?_,?_,trivial,trivial⟩
 ·rw [e4];simp only [V8];omega
 ·rw [e5];simp only [V8];omega
 ·rw [e6];simp only [V8];omega
 ·rw [e6];show (256*V8 [x1+x2+x3+x4+(x5+x6+x7),x2+x3+x4+x5+(x6+x7),x3+x4+x5+x6+x7,x4+x5+x6+x7,x5+x6+x7,x6+x7,x7]+(x0+x1+x2+x3+(x4+x5+x6+x7))) % 128 = _;generalize V8 [x1+x2+x3+x4+(x5+x6+x7),x2+x3+x4+x5+(x6+x7),x3+x4+x5+x6+x7,x4+x5+x6+x7,x5+x6+x7,x6+x7,x7] = T;omega
theorem ones_cnt {v:Nat} (hv:v < 2 ^ 64):b_4 0 (v:Int) = some ((cnt v.testBit 0 64:Nat):Int):=by
 obtain ⟨l,hl,hb,rfl⟩:∃ l:List Nat,l.length = 8/\(∀ a∈l,a < 256)/\V8 l = v:=⟨_,rfl,by
  intro a ha;simp only [List.mem_cons,List.not_mem_nil,or_false] at ha
  rcases ha with rfl | rfl | rfl | rfl | rfl | rfl | rfl | rfl <;> exact Nat.mod_lt _ (by decide),bytes_v hv⟩
 have m0:(6148914691236517205:Nat) = V8 (List.replicate 8 85):=by decide
 have m1:(3689348814741910323:Nat) = V8 (List.replicate 8 51):=by decide
 have m2:(1085102592571150095:Nat) = V8 (List.replicate 8 15):=by decide
 have a1:(V8 l / 2 &&& 6148914691236517205)+(V8 l &&& 6148914691236517205) = V8 (l.map p1):=by
  have h1:=v8_shift (s:=1) (m:=85) (.inl rfl) (by decide) hb;have h2:=v8_and (m:=85) (by decide) hb;rw [hl] at h1 h2;rw [m0];rw [show V8 l / 2 = V8 l / 2 ^ 1 from rfl,h1,h2,v8_add];rfl
 have b1:∀ a∈l.map p1,a < 256:=fun a ha=>by
  obtain ⟨x,hx,rfl⟩:=List.mem_map.1 ha;exact (pc_of (hb x hx)).1
 have a2:(V8 (l.map p1) / 4 &&& 3689348814741910323)+(V8 (l.map p1) &&& 3689348814741910323) = V8 ((l.map p1).map p2):=by
  have h1:=v8_shift (s:=2) (m:=51) (.inr rfl) (by decide) b1;have h2:=v8_and (m:=51) (by decide) b1;rw [List.length_map,hl] at h1 h2;rw [m1];rw [show V8 (l.map p1) / 4 = V8 (l.map p1) / 2 ^ 2 from rfl,h1,h2,v8_add];rfl
 have b2:∀ a∈(l.map p1).map p2,a / 16<=4/\a % 16<=4:=fun a ha=>by
  obtain ⟨y,hy,rfl⟩:=List.mem_map.1 ha;obtain ⟨x,hx,rfl⟩:=List.mem_map.1 hy
  have:=pc_of (hb x hx)
  exact ⟨this.2.1,this.2.2.1⟩
 have a3:(V8 ((l.map p1).map p2) / 16+V8 ((l.map p1).map p2)) &&& 1085102592571150095 = V8 (l.map pc8):=by
  have h1:=v8_fold b2;rw [List.length_map,List.length_map,hl] at h1;rw [m2,h1,List.map_map,List.map_map];rfl
 have hc:=v8_cnt hb;rw [hl] at hc;rw [show 64 = 8*8 from rfl,hc]
 have lt1:V8 (l.map p1) < 2 ^ 64:=by have:=v8_lt b1;rw [List.length_map,hl] at this;exact this
 have lt2:V8 ((l.map p1).map p2) < 2 ^ 63:=by
  have key:∀ q:List Nat,(∀ a∈q,a / 16<=4/\a % 16<=4)->V8 q*3 < 256 ^ q.length:=fun q=>by
   induction q with
   | nil=>intro _;simp [V8]
   | cons a r ih =>
    intro h
    have:=ih fun x hx=>h x (by simp [hx])
    have:=h a (by simp)
    simp only [V8,List.length_cons,Nat.pow_succ];omega
  have:=key _ b2
  rw [List.length_map,List.length_map,hl] at this;omega
 have h8:∀ a∈l.map pc8,a<=8:=fun a ha=>by
  obtain ⟨x,hx,rfl⟩:=List.mem_map.1 ha;exact (pc_of (hb x hx)).2.2.2.1
 have hlen8:(l.map pc8).length = 8:=by rw [List.length_map,hl]
 simp only [b_4];generalize l.map pc8 = d at a3 h8 hlen8 ⊢;have s1:shrO .u64 ((V8 l:Nat):Int) 1 = some ((V8 l / 2:Nat):Int):=shr_nat (s:=1) (by omega);have hvl:V8 l < 2 ^ 64:=hv
 have d1:V8 l / 2 < 2 ^ 64:=by omega
 have c0:(6148914691236517205:Int) = ((6148914691236517205:Nat):Int):=rfl;have c1:(3689348814741910323:Int) = ((3689348814741910323:Nat):Int):=rfl;have c2:(1085102592571150095:Int) = ((1085102592571150095:Nat):Int):=rfl;rw [s1,oBs,c0,andI_nat d1 (by decide),andI_nat hvl (by decide),<- Int.natCast_add,a1,u64_nat lt1];have s2:shrO .u64 ((V8 (l.map p1):Nat):Int) 2 = some ((V8 (l.map p1) / 4:Nat):Int):=shr_nat (s:=2) (by omega)
 have d2:V8 (l.map p1) / 4 < 2 ^ 64:=by omega
 have lt2':V8 ((l.map p1).map p2) < 2 ^ 64:=by omega
 rw [s2,oBs,c1,andI_nat d2 (by decide),andI_nat lt1 (by decide),<- Int.natCast_add,a2,u64_nat lt2'];have s3:shrO .u64 ((V8 ((l.map p1).map p2):Nat):Int) 4 = some ((V8 ((l.map p1).map p2) / 16:Nat):Int):=shr_nat (s:=4) (by omega)
 have d3:V8 ((l.map p1).map p2) / 16+V8 ((l.map p1).map p2) < 2 ^ 64:=by omega
 rw [s3,oBs,<- Int.natCast_add,u64_nat d3,c2,andI_nat d3 (by decide),a3]
 obtain ⟨x0,x1,x2,x3,x4,x5,x6,x7,rfl⟩:∃ x0 x1 x2 x3 x4 x5 x6 x7,d = [x0,x1,x2,x3,x4,x5,x6,x7]:=by
  match d,hlen8 with
  | [x0,x1,x2,x3,x4,x5,x6,x7],_=>exact ⟨_,_,_,_,_,_,_,_,rfl⟩
 have g0:=h8 x0 (by simp);have g1:=h8 x1 (by simp);have g2:=h8 x2 (by simp);have g3:=h8 x3 (by simp);have g4:=h8 x4 (by simp);have g5:=h8 x5 (by simp);have g6:=h8 x6 (by simp);have g7:=h8 x7 (by simp);obtain ⟨t1,t2,t3,t4,t5,t6⟩:=tail_sum g0 g1 g2 g3 g4 g5 g6 g7
 generalize V8 [x0,x1,x2,x3,x4,x5,x6,x7] = Y at *
 clear a3
 have s4:shrO .u64 ((Y:Nat):Int) 8 = some ((Y / 256:Nat):Int):=shr_nat (s:=8) (by omega);rw [s4,oBs,<- Int.natCast_add]
 generalize Y+Y / 256 = Y4 at *
 rw [u64_nat t1];have s5:shrO .u64 ((Y4:Nat):Int) 16 = some ((Y4 / 65536:Nat):Int):=shr_nat (s:=16) (by omega);rw [s5,oBs,<- Int.natCast_add]
 generalize Y4+Y4 / 65536 = Y5 at *
 rw [u64_nat t2];have s6:shrO .u64 ((Y5:Nat):Int) 32 = some ((Y5 / 4294967296:Nat):Int):=shr_nat (s:=32) (by omega);rw [s6,oBs,<- Int.natCast_add]
 generalize hZ:Y5+Y5 / 4294967296 = Z at *
 have hZ2:=t4;have hZ3:=t3;rw [u64_nat (by omega),w64 (by omega) (by omega)]
 have hand:andI .i64 (Z:Int) 127 = ((Z &&& 127:Nat):Int):=by
  have e:andI .i64 (Z:Int) 127 = IntKind.i64.wrap (((Z % 2 ^ 64) &&& 127:Nat):Int):=by
   simp only [andI,show IntKind.i64.bits = 64 from rfl,BitVec.toNat_and,ofInt_nat];rfl
  have hle:Z &&& 127<=127:=Nat.and_le_right;rw [e,Nat.mod_eq_of_lt (by omega),w64 (by omega) (by omega)]
 rw [hand];have h127:=Nat.and_two_pow_sub_one_eq_mod Z 7;rw [show (2:Nat) ^ 7 - 1 = 127 from rfl] at h127;rw [h127,hZ2];simp only [List.sum_cons,List.sum_nil]
 congr 2
 omega
theorem ones_ok' {v n:Nat} (hv:v < 2 ^ 64) (hn:1<=n):m_b0 n (v:Int) = some ((cnt v.testBit 0 64:Nat):Int):=by
 obtain ⟨n,rfl⟩:∃ m,n = m+1:=⟨n - 1,by omega⟩
 exact ones_cnt hv
end Go.Proofs.YtaadjlpfdajggaaGreatDoor

set_option maxRecDepth 100000
set_option linter.unusedVariables false
set_option linter.unusedSimpArgs false
namespace Go.Proofs.YtaadjlpfdajggaaGreatDoor
open Go Go.AM
def FS (f:Nat->Bool):S_f:=⟨⟨(List.range 256).map f,by simp⟩⟩
theorem FS_congr {f g:Nat->Bool} (h:∀ j,j < 256->f j = g j):FS f = FS g:=by
 unfold FS
 congr 2
 exact List.map_congr_left fun j hj=>h j (List.mem_range.1 hj)
theorem FS_nth (f:Nat->Bool) {j:Nat} (h:j < 256):(FS f).f_In.nth j = f j:=by
 simp [FS,Arr.nth,List.getD,h]
theorem FS_put (f:Nat->Bool) {j:Nat} (h:j < 256) {b:Bool}:({ FS f with f_In:=(FS f).f_In.put j b }:S_f) = FS fun k=>if k = j then b else f k:=by
 unfold FS Arr.put
 congr 2
 refine List.ext_getElem? fun k=>?_;rw [List.getElem?_set]
 by_cases hk:k < 256
 ·by_cases hj:j = k
  ·subst hj;simp [h]
  ·simp [hk,hj];exact fun e=>(hj e.symm).elim
 ·have:¬ j = k:=by omega
  simp [hk,this]
theorem FS_zero:S_f.zero = FS fun _=>false:=by kernel_rfl
theorem RS_FS (P:Nat->Bool):RS P 256 = FS P:=FS_congr (f:=fun j=>decide (j < 256)&&P j) fun j hj=>by simp [hj]
theorem of_FS {n:Nat} (P:Nat->Bool) (hn:300<=n):m_c2 n (W P).f_W = some (FS P):=by rw [of_W P hn,RS_FS]
theorem rlen_loop {n:Nat} (P:Nat->Bool):∀ (d fuel i c:Nat),i+d = 256->d < fuel->c<=i->b_bu n fuel (FS P) (c:Int) (i:Int) = some ((c+cnt P i d:Nat):Int):=by
 intro d
 induction d with
 | zero =>
  intro fuel i c hi hf hc
  obtain ⟨fuel,rfl⟩:∃ m,fuel = m+1:=⟨fuel - 1,by omega⟩
  rw [b_bu,show decide ((i:Int) < 256) = false from decide_eq_false (by omega),cond_false];rfl
 | succ d ih =>
  intro fuel i c hi hf hc
  obtain ⟨fuel,rfl⟩:∃ m,fuel = m+1:=⟨fuel - 1,by omega⟩
  have e:cnt P i (d+1) = (P i).toNat+cnt P (i+1) d:=by
   rw [Nat.add_comm d 1,cnt_add];simp [cnt]
  rw [b_bu,show decide ((i:Int) < 256) = true from decide_eq_true (by omega),cond_true,ck_ok (by omega),oBs,FS_nth _ (by omega),e]
  cases hP:P i with
  | true =>
   rw [cond_true,b_cF,wp1 (by omega),wp1 (by omega),ih fuel (i+1) (c+1) (by omega) (by omega) (by omega)]
   congr 2;simp;omega
  | false =>
   rw [cond_false,b_cF,wp1 (by omega),ih fuel (i+1) c (by omega) (by omega) (by omega)]
   congr 2;simp
theorem rlen_ok {n:Nat} (P:Nat->Bool) (hn:300<=n):m_dZ n (FS P) = some ((cnt P 0 256:Nat):Int):=by
 obtain ⟨n,rfl⟩:∃ m,n = m+1:=⟨n - 1,by omega⟩
 have:=rlen_loop (n:=n) P 256 n 0 0 (by omega) (by omega) (by omega)
 simp only [m_dZ,b_e6]
 simpa using this
theorem rmin_loop {n:Nat} (P:Nat->Bool):∀ (d fuel i:Nat),i+d = 256->d < fuel->∃ c b,b_b5 n fuel (FS P) (i:Int) = some (c,b)/\0<=c/\c < 256/\((∀ j,i<=j->j < 256->P j = false) \/ P c.toNat = true):=by
 intro d
 induction d with
 | zero =>
  intro fuel i hi hf
  obtain ⟨fuel,rfl⟩:∃ m,fuel = m+1:=⟨fuel - 1,by omega⟩
  rw [b_b5,show decide ((i:Int) < 256) = false from decide_eq_false (by omega),cond_false];exact ⟨0,false,rfl,by omega,by omega,.inl fun j h1 h2=>by omega⟩
 | succ d ih =>
  intro fuel i hi hf
  obtain ⟨fuel,rfl⟩:∃ m,fuel = m+1:=⟨fuel - 1,by omega⟩
  rw [b_b5,show decide ((i:Int) < 256) = true from decide_eq_true (by omega),cond_true,ck_ok (by omega),oBs,FS_nth _ (by omega)]
  cases hP:P i with
  | true=>exact ⟨_,true,rfl,by rw [wrap_u8 (by omega) (by omega)];omega,by rw [wrap_u8 (by omega) (by omega)];omega,.inr (by rw [wrap_u8 (by omega) (by omega),Int.toNat_natCast];exact hP)⟩
  | false =>
   obtain ⟨c,b,h1,h2,h3,h4⟩:=ih fuel (i+1) (by omega) (by omega);rw [cond_false,wp1 (by omega)];refine ⟨c,b,h1,h2,h3,h4.imp (fun h j hj hj2=>?_) id⟩
   rcases Nat.lt_or_ge i j with h' | h'
   ·exact h j (by omega) hj2
   ·obtain rfl:j = i:=by omega
    exact hP
theorem rmin_ok {n:Nat} (P:Nat->Bool) (hn:300<=n):∃ c b,m_d5 n (FS P) = some (c,b)/\0<=c/\c < 256/\((∀ j,j < 256->P j = false) \/ P c.toNat = true):=by
 obtain ⟨n,rfl⟩:∃ m,n = m+1:=⟨n - 1,by omega⟩
 obtain ⟨c,b,h1,h2,h3,h4⟩:=rmin_loop (n:=n) P 256 n 0 (by omega) (by omega);exact ⟨c,b,by simpa [m_d5,b_e7] using h1,h2,h3,h4.imp (fun h j=>h j (by omega)) id⟩
theorem ror_loop {n:Nat} (P Q:Nat->Bool) (z:S_f):∀ (d fuel i:Nat),i+d = 256->d < fuel->b_cr n fuel (FS fun j=>if j < i then P j||Q j else P j) (FS Q) z (i:Int) = some (FS fun j=>P j||Q j):=by
 intro d
 induction d with
 | zero =>
  intro fuel i hi hf
  obtain ⟨fuel,rfl⟩:∃ m,fuel = m+1:=⟨fuel - 1,by omega⟩
  rw [b_cr,show decide ((i:Int) < 256) = false from decide_eq_false (by omega),cond_false]
  congr 1
  exact FS_congr fun j hj=>by rw [if_pos (by omega)]
 | succ d ih =>
  intro fuel i hi hf
  obtain ⟨fuel,rfl⟩:∃ m,fuel = m+1:=⟨fuel - 1,by omega⟩
  rw [b_cr,show decide ((i:Int) < 256) = true from decide_eq_true (by omega),cond_true,ck_ok (by omega),oBs,FS_nth _ (by omega),FS_nth _ (by omega),FS_put _ (by omega),wp1 (by omega),if_neg (by omega)];rw [<- ih fuel (i+1) (by omega) (by omega)]
  congr 1
  refine FS_congr fun j hj=>?_
  by_cases h:j = i
  ·subst h;rw [if_pos rfl,if_pos (by omega)]
  ·rw [if_neg h]
   by_cases h':j < i
   ·rw [if_pos h',if_pos (by omega)]
   ·rw [if_neg h',if_neg (by omega)]
theorem ror_ok {n:Nat} (P Q:Nat->Bool) (hn:300<=n):m_dH n (FS P) (FS Q) = some (FS fun j=>P j||Q j):=by
 obtain ⟨n,rfl⟩:∃ m,n = m+1:=⟨n - 1,by omega⟩
 have:=ror_loop (n:=n) P Q S_f.zero 256 n 0 (by omega) (by omega)
 simp only [m_dH,b_fC]
 simpa using this
theorem rrange_loop {n:Nat} (z:S_f):∀ (d fuel i:Nat),i+d = 256->d < fuel->b_bL n fuel 0 255 z (FS fun j=>decide (j < i)) (i:Int) = some (FS fun _=>true):=by
 intro d
 induction d with
 | zero =>
  intro fuel i hi hf
  obtain ⟨fuel,rfl⟩:∃ m,fuel = m+1:=⟨fuel - 1,by omega⟩
  rw [b_bL,show decide ((i:Int) < 256) = false from decide_eq_false (by omega),cond_false]
  congr 1
  exact FS_congr fun j hj=>decide_eq_true (by omega)
 | succ d ih =>
  intro fuel i hi hf
  obtain ⟨fuel,rfl⟩:∃ m,fuel = m+1:=⟨fuel - 1,by omega⟩
  rw [b_bL,show decide ((i:Int) < 256) = true from decide_eq_true (by omega),cond_true,ck_ok (by omega),oBs,FS_put _ (by omega),wp1 (by omega),show IntKind.i64.wrap 0 = 0 from rfl,show IntKind.i64.wrap 255 = 255 from rfl];rw [<- ih fuel (i+1) (by omega) (by omega)]
  congr 1
  refine FS_congr fun j hj=>?_
  by_cases h:j = i
  ·subst h;rw [if_pos rfl,decide_eq_true (by omega),decide_eq_true (by omega),decide_eq_true (by omega)];rfl
  ·rw [if_neg h];rw [decide_eq_decide];omega
theorem rrange_ok {n:Nat} (hn:300<=n):m_dh n 0 255 = some (FS fun _=>true):=by
 obtain ⟨n,rfl⟩:∃ m,n = m+1:=⟨n - 1,by omega⟩
 have:=rrange_loop (n:=n) S_f.zero 256 n 0 (by omega) (by omega)
 have e:(FS fun j=>decide (j < 0)) = S_f.zero:=by rw [FS_zero];exact FS_congr fun j _=>decide_eq_false (by omega)
 rw [e] at this;simp only [m_dh,b_d7];exact this
theorem cnt_ge {P:Nat->Bool} {i j:Nat} (hi:P i = true) (hj:P j = true) (hij:i < j) (h:j < 256):2<=cnt P 0 256:=by
 have e:(256:Nat) = i+(1+((j - i - 1)+(1+(256 - j - 1)))):=by omega
 rw [e,cnt_add,cnt_add,cnt_add,cnt_add]
 have h1:cnt P (0+i) 1 = 1:=by simp [cnt,hi]
 have h2:cnt P (0+i+1+(j - i - 1)) 1 = 1:=by
  rw [show 0+i+1+(j - i - 1) = j by omega];simp [cnt,hj]
 omega
theorem cnt_one {P:Nat->Bool} {i j:Nat} (h:cnt P 0 256 = 1) (hi:P i = true) (hj:P j = true) (hi':i < 256) (hj':j < 256):i = j:=by
 rcases Nat.lt_trichotomy i j with h' | h' | h'
 ·have:=cnt_ge hi hj h' hj';omega
 ·exact h'
 ·have:=cnt_ge hj hi h' hi';omega
theorem cnt_zero {P:Nat->Bool}:∀ {n a:Nat},(∀ j,a<=j->j < a+n->P j = false)->cnt P a n = 0
 | 0,a,_=>rfl
 | n+1,a,h=>by rw [cnt,cnt_zero fun j h1 h2=>h j h1 (by omega),h (a+n) (by omega) (by omega)];rfl
theorem cnt_le (P:Nat->Bool) (a:Nat):∀ n,cnt P a n<=n
 | 0=>Nat.le_refl 0
 | n+1=>by have:=cnt_le P a n;rw [cnt];cases P (a+n) <;> simp <;> omega
theorem wd_cnt (P:Nat->Bool) (j:Nat):∃ v:Nat,wd P j = (v:Int)/\v < 2 ^ 64/\cnt v.testBit 0 64 = cnt P (64*j) 64:=by
 obtain ⟨v,h1,h2,h3⟩:=wd_nat P j;exact ⟨v,h1,h2,cnt_congr fun i hi=>by rw [Nat.zero_add];exact h3 i hi⟩
theorem len_cnt {n:Nat} (P:Nat->Bool) (hn:10<=n):m_bk n (W P) = some ((cnt P 0 256:Nat):Int):=by
 obtain ⟨n,rfl⟩:∃ m,n = m+10:=⟨n - 10,by omega⟩
 obtain ⟨v0,a0,b0,k0⟩:=wd_cnt P 0;obtain ⟨v1,a1,b1,k1⟩:=wd_cnt P 1;obtain ⟨v2,a2,b2,k2⟩:=wd_cnt P 2;obtain ⟨v3,a3,b3,k3⟩:=wd_cnt P 3;have c0:ck 4 0 = some 0:=rfl;have c1:ck 4 (IntKind.i64.wrap (0+1)) = some 1:=rfl;have c2:ck 4 (IntKind.i64.wrap (IntKind.i64.wrap (0+1)+1)) = some 2:=rfl;have c3:ck 4 (IntKind.i64.wrap (IntKind.i64.wrap (IntKind.i64.wrap (0+1)+1)+1)) = some 3:=rfl;have d0:decide ((0:Int) < 4) = true:=rfl;have d1:decide (IntKind.i64.wrap (0+1) < 4) = true:=rfl;have d2:decide (IntKind.i64.wrap (IntKind.i64.wrap (0+1)+1) < 4) = true:=rfl;have d3:decide (IntKind.i64.wrap (IntKind.i64.wrap (IntKind.i64.wrap (0+1)+1)+1) < 4) = true:=rfl;have d4:decide (IntKind.i64.wrap (IntKind.i64.wrap (IntKind.i64.wrap (IntKind.i64.wrap (0+1)+1)+1)+1) < 4) = false:=rfl;have n0:(W P).f_W.nth 0 = v0:=a0;have n1:(W P).f_W.nth 1 = v1:=a1;have n2:(W P).f_W.nth 2 = v2:=a2;have n3:(W P).f_W.nth 3 = v3:=a3;simp only [m_bk,b_cL,b_bM,d0,d1,d2,d3,d4,c0,c1,c2,c3,n0,n1,n2,n3,cond_true,cond_false,oBs,ones_ok' b0 (show 1<=n+9 by omega),ones_ok' b1 (show 1<=n+9 by omega),ones_ok' b2 (show 1<=n+9 by omega),ones_ok' b3 (show 1<=n+9 by omega)];rw [k0,k1,k2,k3];have l0:=cnt_le P (64*0) 64;have l1:=cnt_le P (64*1) 64;have l2:=cnt_le P (64*2) 64;have l3:=cnt_le P (64*3) 64
 have e:cnt P 0 256 = cnt P (64*0) 64+cnt P (64*1) 64+cnt P (64*2) 64+cnt P (64*3) 64:=by
  rw [show (256:Nat) = 64+(64+(64+64)) from rfl,cnt_add,cnt_add,cnt_add,show 64*0 = 0 from rfl,show 64*1 = 0+64 from rfl,show 64*2 = 0+64+64 from rfl,show 64*3 = 0+64+64+64 from rfl];omega
 rw [w64 (n:=0+_) (by omega) (by omega),w64 (n:=0+_+_) (by omega) (by omega),w64 (n:=0+_+_+_) (by omega) (by omega),w64 (by omega) (by omega)]
 congr 1
 omega
end Go.Proofs.YtaadjlpfdajggaaGreatDoor

set_option maxRecDepth 100000
set_option linter.unusedVariables false
set_option linter.unusedSimpArgs false
namespace Go.Proofs.YtaadjlpfdajggaaGreatDoor
open Go Go.AM
def refN (x:S_c):S_d:=⟨x.f_Kind,x.f_A,x.f_B,x.f_Set.f_W,x.f_Min,x.f_Max,x.f_Mode,x.f_N,x.f_Fold⟩
theorem one_ok {n:Nat} (x:S_c) (h:1<=n):m_d3 n x = some (refN x):=by
 obtain ⟨n,rfl⟩:∃ m,n = m+1:=⟨n - 1,by omega⟩
 rfl
theorem ref_loop {n:Nat} {x0:Sl S_c} (hn:1<=n) (hN:(Sl.l x0).length<=500):∀ (d fuel i:Nat),i+d = (Sl.l x0).length->d < fuel ->
  b_cb (m_d3 n) n x0 fuel (some (((Sl.l x0).take i).map refN)) (i:Int) = some (some ((Sl.l x0).map refN)):=by
 intro d
 induction d with
 | zero =>
  intro fuel i hi hf
  obtain ⟨fuel,rfl⟩:∃ m,fuel = m+1:=⟨fuel - 1,by omega⟩
  rw [b_cb,cfl (df (by simp only [Sl.len];omega)),List.take_of_length_le (by omega)]
 | succ d ih =>
  intro fuel i hi hf
  obtain ⟨fuel,rfl⟩:∃ m,fuel = m+1:=⟨fuel - 1,by omega⟩
  have hil:i < (Sl.l x0).length:=by omega
  rw [b_cb,ct (dt (by simp only [Sl.len];omega)),ck_ok hil,oBs,nth_l (List.getElem?_eq_getElem hil),one_ok _ hn,oBs,app1 (by simp;omega),oBs,wp1 (by omega)]
  have:=ih fuel (i+1) (by omega) (by omega)
  rw [List.take_succ_eq_append_getElem hil,List.map_append] at this;exact this
theorem ref_ok {n:Nat} {x0:Sl S_c} (hn:600<=n) (hN:(Sl.l x0).length<=500):m_d4 n x0 = some (some ((Sl.l x0).map refN)):=by
 obtain ⟨n,rfl⟩:∃ m,n = m+1:=⟨n - 1,by omega⟩
 simp only [m_d4,b_fc];exact ref_loop (by omega) hN (Sl.l x0).length n 0 (by omega) (by omega)
theorem rkids_ok {n:Nat} (k:Int) (h:1<=n):m_bY n k = some ((kd k:Nat):Int):=by
 obtain ⟨n,rfl⟩:∃ m,n = m+1:=⟨n - 1,by omega⟩
 simp only [m_bY,b_eo,kd]
 by_cases h2:k = 8 \/ k = 9
 ·rw [ct (by simpa using h2),if_pos h2];rfl
 ·rw [cfl (by simpa using h2),if_neg h2]
  by_cases h1:k = 10 \/ k = 11 \/ k = 13 \/ k = 14 \/ k = 15 \/ k = 16 \/ k = 17
  ·rw [ct (by simp only [Bool.or_eq_true,Bool.and_eq_true,decide_eq_true_eq];omega),if_pos h1];rfl
  ·rw [cfl (by rw [<- Bool.not_eq_true];simp only [Bool.or_eq_true,Bool.and_eq_true,decide_eq_true_eq];omega),if_neg h1];rfl
theorem bare_iff (x:S_c):bareS x = bareS (ownS x) ↔ ((x.f_Kind ≠ 1->x.f_Set = S_g.zero)/\(x.f_Kind ≠ 10->x.f_Min = 0/\x.f_Max = 0/\x.f_Mode = 0)/\(x.f_Kind ≠ 11/\x.f_Kind ≠ 12->x.f_N = 0)/\(x.f_Kind ≠ 12->x.f_Fold = false)):=by
 obtain ⟨k,a,b,s,m,M,mo,N,f⟩:=x
 by_cases h1:k = 1
 ·subst h1;simp [bareS,ownS,S_c.zero,and_assoc]
 by_cases h2:k = 10
 ·subst h2;simp [bareS,ownS,S_c.zero,and_assoc]
 by_cases h3:k = 11
 ·subst h3;simp [bareS,ownS,S_c.zero,and_assoc]
 by_cases h4:k = 12
 ·subst h4;simp [bareS,ownS,S_c.zero,and_assoc]
 simp [bareS,ownS,S_c.zero,h1,h2,h3,h4,and_assoc]
theorem set_zero (s:S_g):s.f_W = Arr.rep 4 0 ↔ s = S_g.zero:=by
 obtain ⟨w⟩:=s
 constructor
 ·intro h;simp only at h;subst h;rfl
 ·intro h;injection h
theorem rfits_ok {n:Nat} (x:S_c) (h:1<=n):m_dF n (refN x) = some (fitsB x):=by
 obtain ⟨n,rfl⟩:∃ m,n = m+1:=⟨n - 1,by omega⟩
 simp only [m_dF,b_em,fitsB];show (bif (decide (x.f_Kind < 0))||(decide (17 < x.f_Kind)) then some false else (bif ((((!decide (x.f_Kind = 1))&&(!decide (x.f_Set.f_W = ((Arr.rep 4 0)))))||((!decide (x.f_Kind = 10))&&(((!decide (x.f_Min = 0))||(!decide (x.f_Max = 0)))||(!decide (x.f_Mode = 0)))))||(((!decide (x.f_Kind = 11))&&(!decide (x.f_Kind = 12)))&&(!decide (x.f_N = 0)))||((!decide (x.f_Kind = 12))&&x.f_Fold)) then some false else some ((!decide (x.f_Kind = 10))||((((((decide (0<=x.f_Min))&&(decide (x.f_Min<=100)))&&(decide (x.f_Max<=100)))&&((decide (x.f_Max = ((-1))))||(decide (x.f_Min<=x.f_Max))))&&(decide (0<=x.f_Mode)))&&(decide (x.f_Mode<=2)))))) = some (decide (0<=x.f_Kind)&&decide (x.f_Kind < 18)&&decide (bareS x = bareS (ownS x))&&(!decide (x.f_Kind = 10)||(decide (0<=x.f_Min)&&decide (x.f_Min<=100)&&(decide (x.f_Max = -1)||(decide (x.f_Min<=x.f_Max)&&decide (x.f_Max<=100)))&&decide (0<=x.f_Mode)&&decide (x.f_Mode<=2))))
 by_cases h0:x.f_Kind < 0 \/ 17 < x.f_Kind
 ·rw [ct (by rw [Bool.or_eq_true,decide_eq_true_eq,decide_eq_true_eq];exact h0)]
  rcases Decidable.em (0<=x.f_Kind) with g | g
  ·rw [dt g,df (show ¬ x.f_Kind < 18 by omega)];rfl
  ·rw [df g];rfl
 ·rw [cfl (by rw [df (show ¬ x.f_Kind < 0 by omega),df (show ¬ 17 < x.f_Kind by omega)];rfl),dt (show 0<=x.f_Kind by omega),dt (show x.f_Kind < 18 by omega),Bool.true_and,Bool.true_and];have e:=bare_iff x;rw [<- set_zero] at e
  have key:decide (bareS x = bareS (ownS x)) = !((((!decide (x.f_Kind = 1))&&(!decide (x.f_Set.f_W = ((Arr.rep 4 0)))))||((!decide (x.f_Kind = 10))&&(((!decide (x.f_Min = 0))||(!decide (x.f_Max = 0)))||(!decide (x.f_Mode = 0)))))||(((!decide (x.f_Kind = 11))&&(!decide (x.f_Kind = 12)))&&(!decide (x.f_N = 0)))||((!decide (x.f_Kind = 12))&&x.f_Fold)):=by
   rw [Bool.eq_iff_iff,decide_eq_true_iff,e];simp only [Bool.not_eq_true',Bool.or_eq_false_iff,Bool.and_eq_false_iff,Bool.not_eq_false',decide_eq_true_eq,Bool.not_eq_eq_eq_not,Bool.not_true,Bool.not_false];generalize x.f_Set.f_W = w;generalize x.f_Kind = k;generalize x.f_Min = a;generalize x.f_Max = b;generalize x.f_Mode = c;generalize x.f_N = d;generalize x.f_Fold = f
   constructor
   ·rintro ⟨h1,h2,h3,h4⟩;refine ⟨⟨⟨?_,?_⟩,?_⟩,?_⟩
    ·rcases Decidable.em (k = 1) with h | h
     ·exact .inl h
     ·exact .inr (h1 h)
    ·rcases Decidable.em (k = 10) with h | h
     ·exact .inl h
     ·exact .inr ⟨⟨(h2 h).1,(h2 h).2.1⟩,(h2 h).2.2⟩
    ·rcases Decidable.em (k = 11 \/ k = 12) with h | h
     ·exact .inl h
     ·exact .inr (h3 ⟨fun g=>h (.inl g),fun g=>h (.inr g)⟩)
    ·rcases Decidable.em (k = 12) with h | h
     ·exact .inl h
     ·exact .inr (h4 h)
   ·rintro ⟨⟨⟨h1,h2⟩,h3⟩,h4⟩;exact ⟨fun h=>h1.resolve_left h,fun h=>⟨(h2.resolve_left h).1.1,(h2.resolve_left h).1.2,(h2.resolve_left h).2⟩,fun h=>h3.resolve_left fun g=>g.elim h.1 h.2,fun h=>h4.resolve_left h⟩
  rw [key];generalize ((((!decide (x.f_Kind = 1))&&(!decide (x.f_Set.f_W = ((Arr.rep 4 0)))))||((!decide (x.f_Kind = 10))&&(((!decide (x.f_Min = 0))||(!decide (x.f_Max = 0)))||(!decide (x.f_Mode = 0)))))||(((!decide (x.f_Kind = 11))&&(!decide (x.f_Kind = 12)))&&(!decide (x.f_N = 0)))||((!decide (x.f_Kind = 12))&&x.f_Fold)) = b
  cases b with
  | true=>rfl
  | false =>
   rw [cond_false,Bool.not_false,Bool.true_and]
   congr 1
   congr 1
   rw [Bool.eq_iff_iff];simp only [Bool.and_eq_true,Bool.or_eq_true,decide_eq_true_eq];omega
def Sub (l:List S_c) (i:Nat) (t:Tm):Prop:=i < l.length/\∃ p,l.take (i+1) = p ++ t.flat/\t.At p.length
theorem sub_at' {l:List S_c} {i:Nat} {q:List S_c} {x:S_c} (hi:i < l.length) (h:l.take (i+1) = q ++ [x]):l.take i = q/\l[i]? = some x:=by
 rw [List.take_succ_eq_append_getElem hi] at h;have h1:=List.append_inj' h rfl;exact ⟨h1.1,by rw [List.getElem?_eq_getElem hi];have:=h1.2;injection this with this _;rw [this]⟩
theorem sub_leaf {l:List S_c} {i:Nat} {x:S_c} (h:Sub l i (.leaf x)):l[i]? = some x/\fitsB x = true/\kd x.f_Kind = 0/\x.f_A = 0/\x.f_B = 0:=by
 obtain ⟨hi,p,h1,h2,h3,h4,h5⟩:=h;exact ⟨(sub_at' hi h1).2,h2,h3,h4,h5⟩
theorem sub_one {l:List S_c} {i:Nat} {x:S_c} {t:Tm} (h:Sub l i (.one x t)):l[i]? = some x/\fitsB x = true/\kd x.f_Kind = 1/\x.f_B = 0/\∃ j,i = j+1/\x.f_A = (j:Int)/\Sub l j t:=by
 obtain ⟨hi,p,h1,h2,h3,h4,h5,h6⟩:=h;rw [Tm.flat,<- lAs] at h1;obtain ⟨g1,g2⟩:=sub_at' hi h1;have hl:=congrArg List.length g1;simp [Tm.flat_len] at hl;have hp:=t.pos;refine ⟨g2,h3,h4,h6,p.length+t.size - 1,by omega,by omega,by omega,p,?_,h2⟩;rw [show p.length+t.size - 1+1 = i by omega];exact g1
theorem sub_two {l:List S_c} {i:Nat} {x:S_c} {a b:Tm} (h:Sub l i (.two x a b)):l[i]? = some x/\fitsB x = true/\kd x.f_Kind = 2/\∃ j m,i = j+1/\x.f_B = (j:Int)/\Sub l j b/\j = m+b.size/\x.f_A = (m:Int)/\Sub l m a:=by
 obtain ⟨hi,p,h1,h2,h3,h4,h5,h6,h7⟩:=h;rw [Tm.flat,<- lAs] at h1;obtain ⟨g1,g2⟩:=sub_at' hi h1;have hl:=congrArg List.length g1;simp [Tm.flat_len] at hl;have hpa:=a.pos;have hpb:=b.pos;refine ⟨g2,h4,h5,p.length+a.size+b.size - 1,p.length+a.size - 1,by omega,by omega,⟨by omega,p ++ a.flat,?_,by simpa [Tm.flat_len] using h3⟩,by omega,by omega,by omega,p,?_,h2⟩
 ·rw [show p.length+a.size+b.size - 1+1 = i by omega,g1,lAs]
 ·have:=congrArg (List.take (p.length+a.size)) g1
  rw [List.take_take,show min (p.length+a.size) i = p.length+a.size by omega] at this;rw [show p.length+a.size - 1+1 = p.length+a.size by omega,this,<- lAs,List.take_append_of_le_length (by simp [Tm.flat_len]),List.take_of_length_le (by simp [Tm.flat_len])]
theorem sub_leaf' {l:List S_c} {i:Nat} {x:S_c} (hx:l[i]? = some x) (h1:fitsB x = true) (h2:kd x.f_Kind = 0) (h3:x.f_A = 0) (h4:x.f_B = 0):Sub l i (.leaf x):=by
 obtain ⟨hi,rfl⟩:=lGs.1 hx;exact ⟨hi,l.take i,by rw [List.take_succ_eq_append_getElem hi];rfl,h1,h2,h3,h4⟩
theorem sub_one' {l:List S_c} {j:Nat} {x:S_c} {t:Tm} (hx:l[j+1]? = some x) (h1:fitsB x = true) (h2:kd x.f_Kind = 1) (h3:x.f_A = (j:Int)) (h4:x.f_B = 0) (ht:Sub l j t):Sub l (j+1) (.one x t):=by
 obtain ⟨hi,rfl⟩:=lGs.1 hx;obtain ⟨hj,p,g1,g2⟩:=ht;have hl:=congrArg List.length g1;simp [Tm.flat_len] at hl;exact ⟨hi,p,by rw [List.take_succ_eq_append_getElem hi,g1,Tm.flat,lAs],g2,h1,h2,by omega,h4⟩
theorem sub_two' {l:List S_c} {m:Nat} {x:S_c} {a b:Tm} (hx:l[m+b.size+1]? = some x) (h1:fitsB x = true) (h2:kd x.f_Kind = 2) (h3:x.f_A = (m:Int)) (h4:x.f_B = ((m+b.size:Nat):Int)) (ha:Sub l m a) (hb:Sub l (m+b.size) b):Sub l (m+b.size+1) (.two x a b):=by
 obtain ⟨hi,rfl⟩:=lGs.1 hx;obtain ⟨hj,p,g1,g2⟩:=ha;obtain ⟨hk,q,g3,g4⟩:=hb;have hl:=congrArg List.length g1;simp [Tm.flat_len] at hl;have hl2:=congrArg List.length g3;simp [Tm.flat_len] at hl2
 have e:q = l.take (m+1):=by
  have:=congrArg (List.take (m+1)) g3
  rw [List.take_take,show min (m+1) (m+b.size+1) = m+1 by omega,List.take_append_of_le_length (by omega),List.take_of_length_le (show q.length<=m+1 by omega)] at this;exact this.symm
 refine ⟨hi,p,by rw [List.take_succ_eq_append_getElem hi,g3,e,g1,Tm.flat];simp,g2,?_,h1,h2,by omega,by omega⟩;rw [show p.length+a.size = q.length by omega];exact g4
theorem sub_uniq {l:List S_c}:∀ {t t':Tm} {i:Nat},Sub l i t->Sub l i t'->t = t'
 | .leaf x,t',i,h,h'=>by
  obtain ⟨h1,_,h2,_⟩:=sub_leaf h
  cases t' with
  | leaf y=>have:=(sub_leaf h').1;rw [h1] at this;injection this with this;rw [this]
  | one y t=>obtain ⟨g1,_,g2,_⟩:=sub_one h';rw [h1] at g1;injection g1 with g1;subst g1;omega
  | two y a b=>obtain ⟨g1,_,g2,_⟩:=sub_two h';rw [h1] at g1;injection g1 with g1;subst g1;omega
 | .one x t,t',i,h,h'=>by
  obtain ⟨h1,_,h2,_,j,hj,_,hs⟩:=sub_one h
  cases t' with
  | leaf y=>obtain ⟨g1,_,g2,_⟩:=sub_leaf h';rw [h1] at g1;injection g1 with g1;subst g1;omega
  | one y t2 =>
   obtain ⟨g1,_,g2,_,j',hj',_,hs'⟩:=sub_one h'
   rw [h1] at g1;injection g1 with g1
   obtain rfl:j = j':=by omega
   rw [g1,sub_uniq hs hs']
  | two y a b=>obtain ⟨g1,_,g2,_⟩:=sub_two h';rw [h1] at g1;injection g1 with g1;subst g1;omega
 | .two x a b,t',i,h,h'=>by
  obtain ⟨h1,_,h2,j,m,hj,_,hb,hm,_,ha⟩:=sub_two h
  cases t' with
  | leaf y=>obtain ⟨g1,_,g2,_⟩:=sub_leaf h';rw [h1] at g1;injection g1 with g1;subst g1;omega
  | one y t=>obtain ⟨g1,_,g2,_⟩:=sub_one h';rw [h1] at g1;injection g1 with g1;subst g1;omega
  | two y a2 b2 =>
   obtain ⟨g1,_,g2,j',m',hj',_,hb',hm',_,ha'⟩:=sub_two h'
   rw [h1] at g1;injection g1 with g1
   obtain rfl:j = j':=by omega
   have eb:=sub_uniq hb hb';subst eb
   obtain rfl:m = m':=by omega
   rw [g1,sub_uniq ha ha']
theorem sub_size {l:List S_c} {i:Nat} {t:Tm} (h:Sub l i t):t.size<=i+1:=by
 obtain ⟨hi,p,g1,_⟩:=h;have hl:=congrArg List.length g1;simp [Tm.flat_len] at hl;omega
theorem tree_sub {l:List S_c} {t:Tm}:tree l = some t ↔ l.length = t.size/\Sub l (l.length - 1) t:=by
 have hp:=t.pos
 constructor
 ·intro h;obtain ⟨h1,h2⟩:=tree_some h
  have hl:l.length = t.size:=by rw [h1,Tm.flat_len]
  exact ⟨hl,by omega,[],by rw [List.take_of_length_le (by omega),h1];rfl,h2⟩
 ·rintro ⟨hl,hi,p,g1,g2⟩;rw [List.take_of_length_le (by omega)] at g1;have hq:=congrArg List.length g1;simp [Tm.flat_len] at hq;obtain rfl:p = []:=List.length_eq_zero_iff.1 (by omega);rw [g1];exact tree_flat g2
theorem sub_vals {β:Type} {d:β} {alg:S_c->β->β->β} {l:List S_c}:∀ {t:Tm} {i:Nat},Sub l i t->∀ j,j < t.size->∃ s,Sub l (i+1 - t.size+j) s/\(t.vals d alg)[j]? = some (s.val d alg)/\s.size<=t.size
 | .leaf x,i,h,j,hj=>by
  simp [Tm.size] at hj;subst hj;exact ⟨.leaf x,by simpa [Tm.size] using h,rfl,Nat.le_refl _⟩
 | .one x t,i,h,j,hj=>by
  obtain ⟨_,_,_,_,i',rfl,_,hs⟩:=sub_one h;have hz:=sub_size hs
  by_cases hjt:j < t.size
  ·obtain ⟨s,g1,g2,g3⟩:=sub_vals (d:=d) (alg:=alg) hs j hjt;refine ⟨s,?_,by rw [Tm.vals,lGl (by rw [Tm.vals_len];exact hjt)];exact g2,by simp [Tm.size];omega⟩;rw [show i'+1+1 - (Tm.one x t).size+j = i'+1 - t.size+j by simp [Tm.size]];exact g1
  ·simp [Tm.size] at hj
   obtain rfl:j = t.size:=by omega
   refine ⟨.one x t,?_,Tm.vals_last d alg (.one x t),Nat.le_refl _⟩;rw [show i'+1+1 - (Tm.one x t).size+t.size = i'+1 by simp [Tm.size];omega];exact h
 | .two x a b,i,h,j,hj=>by
  obtain ⟨_,_,_,i',m,rfl,_,hb,hm,_,ha⟩:=sub_two h;have hza:=sub_size ha;have hzb:=sub_size hb
  by_cases hja:j < a.size
  ·obtain ⟨s,g1,g2,g3⟩:=sub_vals (d:=d) (alg:=alg) ha j hja;refine ⟨s,?_,by rw [Tm.vals,lAs,lGl (by rw [Tm.vals_len];exact hja)];exact g2,by simp [Tm.size];omega⟩;rw [show i'+1+1 - (Tm.two x a b).size+j = m+1 - a.size+j by simp [Tm.size];omega];exact g1
  ·by_cases hjb:j < a.size+b.size
   ·obtain ⟨s,g1,g2,g3⟩:=sub_vals (d:=d) (alg:=alg) hb (j - a.size) (by omega);refine ⟨s,?_,by rw [Tm.vals,lGl (by simp [Tm.vals_len];omega),lGr (by rw [Tm.vals_len];omega),Tm.vals_len];exact g2,by simp [Tm.size];omega⟩;rw [show i'+1+1 - (Tm.two x a b).size+j = i'+1 - b.size+(j - a.size) by simp [Tm.size];omega];exact g1
   ·simp [Tm.size] at hj
    obtain rfl:j = a.size+b.size:=by omega
    refine ⟨.two x a b,?_,Tm.vals_last d alg (.two x a b),Nat.le_refl _⟩;rw [show i'+1+1 - (Tm.two x a b).size+(a.size+b.size) = i'+1 by simp [Tm.size];omega];exact h
section
variable {l:List S_c}
theorem rnth {i:Nat} {x:S_c} (h:l[i]? = some x):Sl.nth (some (l.map refN)) i = refN x:=nth_l (by simp [Sl.l,h])
theorem rck {i:Nat} (h:i < l.length):ck (Sl.l (some (l.map refN))).length (i:Int) = some i:=ck_ok (by simpa [Sl.l] using h)
theorem size_neg {n:Nat} {y:Sl S_d} (h:1<=n):m_cs n y (-1) = some 0:=by
 obtain ⟨n,rfl⟩:∃ m,n = m+1:=⟨n - 1,by omega⟩
 rfl
theorem rsize_ok (hl:l.length<=500):∀ (i n:Nat),i < l.length->i+4<=n->∃ s:Nat,m_cs n (some (l.map refN)) (i:Int) = some (s:Int)/\((∃ t,Sub l i t/\s = t.size) \/ (s = 0/\∀ t,¬ Sub l i t)):=by
 intro i
 induction i using Nat.strongRecOn with
 | _ i ih =>
  intro n hi hn
  obtain ⟨n,rfl⟩:∃ m,n = m+1:=⟨n - 1,by omega⟩
  have hx:=List.getElem?_eq_getElem hi;generalize l[i] = x at hx
  have root:∀ t,Sub l i t->(∃ y,t = .leaf y/\y = x) \/ (∃ y s,t = .one y s/\y = x) \/ (∃ y a b,t = .two y a b/\y = x):=fun t ht=>by
   cases t with
   | leaf y=>have:=(sub_leaf ht).1;rw [hx] at this;injection this with this;exact .inl ⟨y,rfl,this.symm⟩
   | one y s=>have:=(sub_one ht).1;rw [hx] at this;injection this with this;exact .inr (.inl ⟨y,s,rfl,this.symm⟩)
   | two y a b=>have:=(sub_two ht).1;rw [hx] at this;injection this with this;exact .inr (.inr ⟨y,a,b,rfl,this.symm⟩)
  simp only [m_cs,b_eG];rw [cfl (df (by omega)),rck hi,oBs,rnth hx,rfits_ok x (by omega),oBs,oBs]
  cases hf:fitsB x with
  | false =>
   refine ⟨0,rfl,.inr ⟨rfl,fun t ht=>?_⟩⟩
   rcases root t ht with ⟨y,rfl,rfl⟩ | ⟨y,s,rfl,rfl⟩ | ⟨y,a,b,rfl,rfl⟩
   ·have:=(sub_leaf ht).2.1;rw [hf] at this;cases this
   ·have:=(sub_one ht).2.1;rw [hf] at this;cases this
   ·have:=(sub_two ht).2.1;rw [hf] at this;cases this
  | true =>
   rw [Bool.not_true,cond_false,oBs,rnth hx,rkids_ok _ (by omega),oBs];have rA:(refN x).f_A = x.f_A:=rfl;have rB:(refN x).f_B = x.f_B:=rfl;have rK:(refN x).f_Kind = x.f_Kind:=rfl;rw [rA,rB,rK]
   rcases kd_le x.f_Kind with h0 | h1 | h2
   ·rw [h0,ct (dt (by omega))]
    by_cases hc:x.f_A = 0/\x.f_B = 0
    ·rw [cfl (by rw [dt hc.1,dt hc.2];rfl)];exact ⟨1,rfl,.inl ⟨.leaf x,sub_leaf' hx hf h0 hc.1 hc.2,rfl⟩⟩
    ·rw [ct (by simp only [Bool.or_eq_true,Bool.not_eq_true',decide_eq_false_iff_not];omega)];refine ⟨0,rfl,.inr ⟨rfl,fun t ht=>?_⟩⟩
     rcases root t ht with ⟨y,rfl,rfl⟩ | ⟨y,s,rfl,rfl⟩ | ⟨y,a,b,rfl,rfl⟩
     ·exact hc (sub_leaf ht).2.2.2
     ·have:=(sub_one ht).2.2.1;omega
     ·have:=(sub_two ht).2.2.1;omega
   ·rw [h1,cfl (df (by omega)),w64 (by omega) (by omega)]
    cases i with
    | zero =>
     rw [show ((0:Nat):Int) - 1 = -1 from rfl,size_neg (by omega),oBs,ct (dt (by omega))];refine ⟨0,rfl,.inr ⟨rfl,fun t ht=>?_⟩⟩
     rcases root t ht with ⟨y,rfl,rfl⟩ | ⟨y,s,rfl,rfl⟩ | ⟨y,a,b,rfl,rfl⟩
     ·have:=(sub_leaf ht).2.2.1;omega
     ·obtain ⟨_,_,_,_,j,hj,_⟩:=sub_one ht;omega
     ·have:=(sub_two ht).2.2.1;omega
    | succ i =>
     obtain ⟨s,g1,g2⟩:=ih i (by omega) n (by omega) (by omega);rw [show ((i+1:Nat):Int) - 1 = (i:Int) by omega,g1,oBs]
     rcases g2 with ⟨t,ht,rfl⟩ | ⟨rfl,hno⟩
     ·have hp:=t.pos;have hz:=sub_size ht;rw [cfl (df (by omega)),ct (dt (by omega))]
      by_cases hc:x.f_A = (i:Int)/\x.f_B = 0
      ·rw [cfl (by rw [dt hc.1,dt hc.2];rfl),w64 (by omega) (by omega)];exact ⟨t.size+1,rfl,.inl ⟨.one x t,sub_one' hx hf h1 hc.1 hc.2 ht,rfl⟩⟩
      ·rw [ct (by simp only [Bool.or_eq_true,Bool.not_eq_true',decide_eq_false_iff_not];omega)];refine ⟨0,rfl,.inr ⟨rfl,fun t' ht'=>?_⟩⟩
       rcases root t' ht' with ⟨y,rfl,rfl⟩ | ⟨y,s,rfl,rfl⟩ | ⟨y,a,b,rfl,rfl⟩
       ·have:=(sub_leaf ht').2.2.1;omega
       ·obtain ⟨_,_,_,hB,j,hj,hA,_⟩:=sub_one ht';exact hc ⟨by rw [hA];omega,hB⟩
       ·have:=(sub_two ht').2.2.1;omega
     ·rw [ct (dt (by omega))];refine ⟨0,rfl,.inr ⟨rfl,fun t' ht'=>?_⟩⟩
      rcases root t' ht' with ⟨y,rfl,rfl⟩ | ⟨y,s,rfl,rfl⟩ | ⟨y,a,b,rfl,rfl⟩
      ·have:=(sub_leaf ht').2.2.1;omega
      ·obtain ⟨_,_,_,hB,j,hj,hA,hs⟩:=sub_one ht'
       obtain rfl:j = i:=by omega
       exact hno s hs
      ·have:=(sub_two ht').2.2.1;omega
   ·rw [h2,cfl (df (by omega)),w64 (by omega) (by omega)]
    cases i with
    | zero =>
     rw [show ((0:Nat):Int) - 1 = -1 from rfl,size_neg (by omega),oBs,ct (dt (by omega))];refine ⟨0,rfl,.inr ⟨rfl,fun t ht=>?_⟩⟩
     rcases root t ht with ⟨y,rfl,rfl⟩ | ⟨y,s,rfl,rfl⟩ | ⟨y,a,b,rfl,rfl⟩
     ·have:=(sub_leaf ht).2.2.1;omega
     ·have:=(sub_one ht).2.2.1;omega
     ·obtain ⟨_,_,_,j,m,hj,_⟩:=sub_two ht;omega
    | succ i =>
     obtain ⟨s,g1,g2⟩:=ih i (by omega) n (by omega) (by omega);rw [show ((i+1:Nat):Int) - 1 = (i:Int) by omega,g1,oBs]
     rcases g2 with ⟨t,ht,rfl⟩ | ⟨rfl,hno⟩
     ·have hp:=t.pos;have hz:=sub_size ht;rw [cfl (df (by omega)),cfl (df (by omega)),w64 (n:=(i:Int) - t.size) (by omega) (by omega)]
      have two:∀ t',Sub l (i+1) t'->∃ m a,t' = .two x a t/\i = m+t.size/\x.f_A = (m:Int)/\x.f_B = (i:Int)/\Sub l m a:=fun t' ht'=>by
       rcases root t' ht' with ⟨y,rfl,rfl⟩ | ⟨y,s,rfl,rfl⟩ | ⟨y,a,b,rfl,rfl⟩
       ·have:=(sub_leaf ht').2.2.1;omega
       ·have:=(sub_one ht').2.2.1;omega
       ·obtain ⟨_,_,_,j,m,hj,hB,hb,hm,hA,ha⟩:=sub_two ht'
        obtain rfl:j = i:=by omega
        have:=sub_uniq hb ht
        subst this;exact ⟨m,a,rfl,hm,hA,hB,ha⟩
      by_cases hm:i < t.size
      ·have e:(i:Int) - t.size = -1:=by omega
       rw [e,size_neg (by omega),oBs,ct (by rw [dt (by omega)];rfl)];refine ⟨0,rfl,.inr ⟨rfl,fun t' ht'=>?_⟩⟩;obtain ⟨m,a,_,hm',_⟩:=two t' ht';omega
      ·obtain ⟨m,rfl⟩:∃ m,i = m+t.size:=⟨i - t.size,by omega⟩
       obtain ⟨s,k1,k2⟩:=ih m (by omega) n (by omega) (by omega);rw [show ((m+t.size:Nat):Int) - t.size = (m:Int) by omega,k1,oBs]
       rcases k2 with ⟨a,ha,rfl⟩ | ⟨rfl,hno⟩
       ·have hpa:=a.pos;have hza:=sub_size ha
        by_cases hc:x.f_A = (m:Int)/\x.f_B = ((m+t.size:Nat):Int)
        ·rw [cfl (by rw [df (show ¬ ((a.size:Nat):Int) = 0 by omega),dt hc.1,dt hc.2];rfl),w64 (n:=(a.size:Int)+t.size) (by omega) (by omega),w64 (by omega) (by omega)];exact ⟨a.size+t.size+1,rfl,.inl ⟨.two x a t,sub_two' hx hf h2 hc.1 hc.2 ha ht,rfl⟩⟩
        ·rw [ct (by simp only [Bool.or_eq_true,Bool.not_eq_true',decide_eq_false_iff_not];omega)];refine ⟨0,rfl,.inr ⟨rfl,fun t' ht'=>?_⟩⟩;obtain ⟨m',a',_,hm',hA,hB,_⟩:=two t' ht';exact hc ⟨by rw [hA];omega,hB⟩
       ·rw [ct (by rw [dt (by omega)];rfl)];refine ⟨0,rfl,.inr ⟨rfl,fun t' ht'=>?_⟩⟩;obtain ⟨m',a',_,hm',hA,hB,ha'⟩:=two t' ht'
        obtain rfl:m' = m:=by omega
        exact hno a' ha'
     ·rw [ct (dt (by omega))];refine ⟨0,rfl,.inr ⟨rfl,fun t' ht'=>?_⟩⟩
      rcases root t' ht' with ⟨y,rfl,rfl⟩ | ⟨y,s,rfl,rfl⟩ | ⟨y,a,b,rfl,rfl⟩
      ·have:=(sub_leaf ht').2.2.1;omega
      ·have:=(sub_one ht').2.2.1;omega
      ·obtain ⟨_,_,_,j,m,hj,hB,hb,hm,hA,ha⟩:=sub_two ht'
       obtain rfl:j = i:=by omega
       exact hno b hb
theorem rdeep_ok (hl:l.length<=500):∀ (t:Tm) (i n:Nat),Sub l i t->t.size+2<=n->m_b1 n (some (l.map refN)) (i:Int) = some t.dep
 | .leaf x,i,n,h,hn=>by
  obtain ⟨n,rfl⟩:∃ m,n = m+1:=⟨n - 1,by omega⟩
  obtain ⟨hx,_,h0,_⟩:=sub_leaf h;obtain ⟨_,p,_,hA⟩:=h;have rK:(refN x).f_Kind = x.f_Kind:=rfl;simp only [m_b1,b_c0];rw [rck (lGs.1 hx).1,oBs,rnth hx,rkids_ok _ (by simp [Tm.size] at hn;omega),oBs,rK,h0,ct (dt (by omega)),dep_leaf hA]
 | .one x t,i,n,h,hn=>by
  obtain ⟨n,rfl⟩:∃ m,n = m+1:=⟨n - 1,by omega⟩
  obtain ⟨hx,_,h0,_,j,hj,hxA,hs⟩:=sub_one h;have hz:=sub_size h;have hil:=h.1;obtain ⟨_,p,_,hA⟩:=h;obtain ⟨r1,r2,_⟩:=dep_rng hA.1;have rK:(refN x).f_Kind = x.f_Kind:=rfl;have rA:(refN x).f_A = x.f_A:=rfl;simp only [Tm.size] at hn hz;simp only [m_b1,b_c0];rw [rck (lGs.1 hx).1,oBs,rnth hx,rkids_ok _ (by omega),oBs,rK,rA,h0,cfl (df (by omega)),ct (dt (by omega)),hxA,rdeep_ok hl t j n hs (by omega),oBs,w64 (by omega) (by omega),dep_one hA]
 | .two x a b,i,n,h,hn=>by
  obtain ⟨n,rfl⟩:∃ m,n = m+1:=⟨n - 1,by omega⟩
  obtain ⟨hx,_,h0,j,m,hj,hxB,hb,hm,hxA,ha⟩:=sub_two h;have hz:=sub_size h;have hil:=h.1;obtain ⟨_,p,_,hA⟩:=h;obtain ⟨r1,r2,_⟩:=dep_rng hA.1;obtain ⟨q1,q2,_⟩:=dep_rng hA.2.1;have rK:(refN x).f_Kind = x.f_Kind:=rfl;have rA:(refN x).f_A = x.f_A:=rfl;have rB:(refN x).f_B = x.f_B:=rfl;simp only [Tm.size] at hn hz;simp only [m_b1,b_c0];rw [rck (lGs.1 hx).1,oBs,rnth hx,rkids_ok _ (by omega),oBs,rK,rA,rB,h0,cfl (df (by omega)),cfl (df (by omega)),hxA,rdeep_ok hl a m n ha (by omega),oBs,hxB,rdeep_ok hl b j n hb (by omega),oBs,w64 (by omega) (by omega),dep_two hA]
theorem rDeep_ok {n:Nat} (hn:700<=n):m_dC n (some (l.map refN)) = some (deepR l):=by
 obtain ⟨n,rfl⟩:∃ m,n = m+1:=⟨n - 1,by omega⟩
 have hlen:Sl.len (some (l.map refN)) = (l.length:Int):=by simp [Sl.len,Sl.l]
 simp only [m_dC,b_ev,deepR,hlen]
 by_cases h0:l.length = 0
 ·obtain rfl:=List.length_eq_zero_iff.1 h0;rfl
 by_cases h1:500 < l.length
 ·rw [ct (by rw [Bool.or_eq_true];exact .inr (dt (by omega))),oBs,cond_true,if_pos h1]
 rw [cfl (by rw [df (show ¬ (l.length:Int) = 0 by omega),df (show ¬ (500:Int) < l.length by omega)];rfl),if_neg h1,w64 (by omega) (by omega),show (l.length:Int) - 1 = ((l.length - 1:Nat):Int) by omega];obtain ⟨s,g1,g2⟩:=rsize_ok (l:=l) (by omega) (l.length - 1) n (by omega) (by omega);rw [g1,oBs,oBs]
 rcases g2 with ⟨t,ht,rfl⟩ | ⟨rfl,hno⟩
 ·by_cases he:t.size = l.length
  ·rw [cfl (by rw [dt (by omega)];rfl),(tree_sub (t:=t)).2 ⟨he.symm,ht⟩,rdeep_ok (by omega) t _ n ht (by omega)];rfl
  ·rw [ct (by rw [df (by omega)];rfl)]
   cases htr:tree l with
   | none=>rfl
   | some t' =>
    obtain ⟨k1,k2⟩:=tree_sub.1 htr
    have:=sub_uniq k2 ht
    subst this;omega
 ·rw [ct (by rw [df (by omega)];rfl)]
  cases htr:tree l with
  | none=>rfl
  | some t'=>exact (hno t' (tree_sub.1 htr).2).elim
theorem rformed_ok {n:Nat} (hn:800<=n):m_bz n (some (l.map refN)) = some (formedR l):=by
 obtain ⟨n,rfl⟩:∃ m,n = m+1:=⟨n - 1,by omega⟩
 have hlen:Sl.len (some (l.map refN)) = (l.length:Int):=by simp [Sl.len,Sl.l]
 simp only [m_bz,b_dJ,formedR,hlen]
 by_cases h1:500 < l.length
 ·rw [ct (dt (by omega)),if_pos h1]
 ·rw [cfl (df (by omega)),if_neg h1,rDeep_ok (by omega),oBs,deepR,if_neg h1]
  cases htr:tree l with
  | none=>rfl
  | some t =>
   obtain ⟨r1,r2,_⟩:=dep_rng (tree_some htr).2;simp only;rw [cfl (df (by omega))]
   by_cases h4:40 < t.dep
   ·rw [ct (dt h4),if_pos h4]
   ·rw [cfl (df h4),if_neg h4]
end
end Go.Proofs.YtaadjlpfdajggaaGreatDoor

set_option maxRecDepth 100000
set_option linter.unusedVariables false
set_option linter.unusedSimpArgs false
namespace Go.Proofs.YtaadjlpfdajggaaGreatDoor
open Go Go.AM
theorem fits_rep {x:S_c} (h:fitsB x = true) (hk:x.f_Kind = 10):0<=x.f_Min/\x.f_Min<=100/\(x.f_Max = -1 \/ (x.f_Min<=x.f_Max/\x.f_Max<=100)):=by
 simp [fitsB,hk] at h;obtain ⟨_,h⟩:=h;omega
structure LR (v:Int × Int):Prop where
 l0:0<=v.1
 l1:v.1<=1048576
 h0:-1<=v.2
 h1:v.2<=1048576
theorem mul_rng {a b:Int} (ha:-1<=a) (ha':a<=1048576) (hb:-1<=b) (hb':b<=100):-104857600<=a*b/\a*b<=104857600:=by
 rcases Int.lt_or_le a 0 with h | h
 ·obtain rfl:a = -1:=by omega
  omega
 ·rcases Int.lt_or_le b 0 with h' | h'
  ·obtain rfl:b = -1:=by omega
   omega
  ·have:=Int.mul_le_mul ha' hb' h' (by omega)
   have:=Int.mul_nonneg h h'
   omega
theorem times_rng {a b:Int} (ha:-1<=a) (ha':a<=1048576) (hb:-1<=b) (hb':b<=100):timesI a b = if a = 0 \/ b = 0 then 0 else if a = -1 \/ b = -1 then -1 else min (a*b) 1048576:=by
 have:=mul_rng ha ha' hb hb'
 rw [timesI,w64 (by omega) (by omega)]
theorem plus_rng {a b:Int} (ha:-1<=a) (ha':a<=1048576) (hb:-1<=b) (hb':b<=1048576):plusI a b = if a = -1 \/ b = -1 then -1 else min (a+b) 1048576:=by
 rw [plusI,w64 (by omega) (by omega)]
theorem lr_zero:LR (0,0):=⟨by omega,by omega,by omega,by omega⟩
theorem plus_lr {a b:Int} (ha:-1<=a) (ha':a<=1048576) (hb:-1<=b) (hb':b<=1048576):-1<=plusI a b/\plusI a b<=1048576/\(0<=a->0<=b->0<=plusI a b):=by
 rw [plus_rng ha ha' hb hb']
 split <;> omega
theorem times_lr {a b:Int} (ha:-1<=a) (ha':a<=1048576) (hb:-1<=b) (hb':b<=100):-1<=timesI a b/\timesI a b<=1048576/\(0<=a->0<=b->0<=timesI a b):=by
 rw [times_rng ha ha' hb hb'];have p2:¬ (a = 0 \/ b = 0)->¬ (a = -1 \/ b = -1)->0<=a*b:=fun h h'=>Int.mul_nonneg (by omega) (by omega);generalize a*b = c at p2
 split
 ·omega
 ·rename_i g
  split
  ·omega
  ·rename_i g'
   have:=p2 g g'
   omega
theorem alt_lr {a b:Int} (ha:-1<=a) (ha':a<=1048576) (hb:-1<=b) (hb':b<=1048576):-1<=(if min a b = -1 then -1 else max a b)/\(if min a b = -1 then -1 else max a b)<=1048576:=by
 split <;> omega
theorem lr_step {x:S_c} {v w:Int × Int} (hf:fitsB x = true) (hv:LR v) (hw:LR w):LR (lenA x v w):=by
 obtain ⟨a1,a2,a3,a4⟩:=hv;obtain ⟨b1,b2,b3,b4⟩:=hw;unfold lenA
 split
 ·exact ⟨by omega,by omega,by omega,by omega⟩
 split
 ·exact ⟨by omega,by omega,by omega,by omega⟩
 split
 ·have h1:=plus_lr (a:=v.1) (b:=w.1) (by omega) a2 (by omega) b2;have h2:=plus_lr a3 a4 b3 b4;exact ⟨h1.2.2 a1 b1,h1.2.1,h2.1,h2.2.1⟩
 split
 ·have h2:=alt_lr a3 a4 b3 b4;exact ⟨by show 0<=min _ _;omega,by show min _ _<=_;omega,h2.1,h2.2⟩
 split
 ·rename_i hk
  obtain ⟨m0,m1,m2⟩:=fits_rep hf hk;have h1:=times_lr (a:=v.1) (b:=x.f_Min) (by omega) a2 (by omega) m1;have h2:=times_lr (b:=x.f_Max) a3 a4 (by omega) (by omega);exact ⟨h1.2.2 a1 m0,h1.2.1,h2.1,h2.2.1⟩
 split
 ·exact ⟨a1,a2,a3,a4⟩
 ·exact ⟨by omega,by omega,by omega,by omega⟩
theorem lr_tree:∀ {t:Tm} {k:Nat},t.At k->LR (t.val (0,0) lenA)
 | .leaf n,k,h=>lr_step h.1 lr_zero lr_zero
 | .one n t,k,h=>lr_step h.2.1 (lr_tree h.1) lr_zero
 | .two n a b,k,h=>lr_step h.2.2.1 (lr_tree h.1) (lr_tree h.2.1)
theorem rplus_ok {n:Nat} {a b:Int} (hn:1<=n) (ha:-1<=a) (hb:-1<=b):m_cY n a b = some (plusI a b):=by
 obtain ⟨n,rfl⟩:∃ m,n = m+1:=⟨n - 1,by omega⟩
 simp only [m_cY,b_ep,plusI]
 by_cases h:a = -1 \/ b = -1
 ·rw [ct (by simp only [Bool.or_eq_true,decide_eq_true_eq];omega),if_pos h]
 ·rw [cfl (by simp only [Bool.or_eq_false_iff,decide_eq_false_iff_not];omega),if_neg h]
theorem rtimes_ok {n:Nat} {a b:Int} (hn:1<=n) (ha:-1<=a) (hb:-1<=b):m_cG n a b = some (timesI a b):=by
 obtain ⟨n,rfl⟩:∃ m,n = m+1:=⟨n - 1,by omega⟩
 simp only [m_cG,b_d9,timesI]
 by_cases h0:a = 0 \/ b = 0
 ·rw [ct (by simp only [Bool.or_eq_true,decide_eq_true_eq];omega),if_pos h0]
 ·rw [cfl (by simp only [Bool.or_eq_false_iff,decide_eq_false_iff_not];omega),if_neg h0]
  by_cases h:a = -1 \/ b = -1
  ·rw [ct (by simp only [Bool.or_eq_true,decide_eq_true_eq];omega),if_pos h]
  ·rw [cfl (by simp only [Bool.or_eq_false_iff,decide_eq_false_iff_not];omega),if_neg h]
theorem sub_at {l:List S_c} {i:Nat} {t:Tm} (h:Sub l i t):∃ k,t.At k:=by obtain ⟨_,p,_,h⟩:=h;exact ⟨_,h⟩
section
variable {l:List S_c}
theorem rlens_ok (hl:l.length<=500):∀ (t:Tm) (i n:Nat),Sub l i t->t.size+2<=n->m_K n (some (l.map refN)) (i:Int) = some (t.val (0,0) lenA)
 | .leaf x,i,n,h,hn=>by
  obtain ⟨n,rfl⟩:∃ m,n = m+1:=⟨n - 1,by omega⟩
  obtain ⟨hx,_,h0,_⟩:=sub_leaf h;have rK:(refN x).f_Kind = x.f_Kind:=rfl;simp only [m_K,b_cZ];rw [rck (lGs.1 hx).1,oBs,rnth hx,rK];simp only [Tm.val,lenA]
  by_cases k1:x.f_Kind = 1
  ·rw [ct (dt k1),if_pos k1]
  rw [cfl (df k1),if_neg k1]
  by_cases k2:x.f_Kind = 12
  ·rw [ct (dt k2),if_pos k2]
  have k3:x.f_Kind ≠ 8:=fun k=>by simp [kd,k] at h0
  have k4:x.f_Kind ≠ 9:=fun k=>by simp [kd,k] at h0
  have k5:x.f_Kind ≠ 10:=fun k=>by simp [kd,k] at h0
  have k6:x.f_Kind ≠ 11:=fun k=>by simp [kd,k] at h0
  have k7:x.f_Kind ≠ 17:=fun k=>by simp [kd,k] at h0
  rw [cfl (df k2),if_neg k2,cfl (df k3),df k4,if_neg k3,if_neg k4,if_neg k5,if_neg (by omega),b_bC,cond_false,cfl (df k5),cfl (df k6),df k7,b_bB,cond_false]
 | .one x t,i,n,h,hn=>by
  obtain ⟨n,rfl⟩:∃ m,n = m+1:=⟨n - 1,by omega⟩
  obtain ⟨hx,hf,h0,_,j,hj,hxA,hs⟩:=sub_one h;have rK:(refN x).f_Kind = x.f_Kind:=rfl;have rA:(refN x).f_A = x.f_A:=rfl;have rm:(refN x).f_Min = x.f_Min:=rfl;have rM:(refN x).f_Max = x.f_Max:=rfl;simp only [Tm.size] at hn;have ih:=rlens_ok hl t j n hs (by omega);obtain ⟨k,hat⟩:=sub_at hs;have R:=lr_tree hat;simp only [m_K,b_cZ];rw [rck (lGs.1 hx).1,oBs,rnth hx,rK];simp only [Tm.val,lenA]
  have k1:x.f_Kind ≠ 1:=fun k=>by simp [kd,k] at h0
  have k2:x.f_Kind ≠ 12:=fun k=>by simp [kd,k] at h0
  have k3:x.f_Kind ≠ 8:=fun k=>by simp [kd,k] at h0
  have k4:x.f_Kind ≠ 9:=fun k=>by simp [kd,k] at h0
  rw [cfl (df k1),if_neg k1,cfl (df k2),if_neg k2,cfl (df k3),df k4,if_neg k3,if_neg k4,b_bC,cond_false]
  by_cases k5:x.f_Kind = 10
  ·obtain ⟨m0,m1,m2⟩:=fits_rep hf k5;have g1:=R.l0;have g2:=R.h0;rw [ct (dt k5),if_pos k5,rA,hxA,ih,oBs,rm,rtimes_ok (by omega) (by omega) (by omega),oBs,rM,rtimes_ok (by omega) g2 (by omega),oBs]
  rw [cfl (df k5),if_neg k5]
  by_cases k6:x.f_Kind = 11 \/ x.f_Kind = 17
  ·rw [if_pos k6]
   by_cases k7:x.f_Kind = 11
   ·rw [ct (dt k7),dt k7,b_bB,cond_true,rA,hxA,ih,oBs]
   ·rw [cfl (df k7),dt (k6.resolve_left k7),b_bB,cond_true,rA,hxA,ih,oBs]
  ·rw [if_neg k6,cfl (df fun k=>k6 (.inl k)),df fun k=>k6 (.inr k),b_bB,cond_false]
 | .two x a b,i,n,h,hn=>by
  obtain ⟨n,rfl⟩:∃ m,n = m+1:=⟨n - 1,by omega⟩
  obtain ⟨hx,_,h0,j,m,hj,hxB,hb,hm,hxA,ha⟩:=sub_two h;have rK:(refN x).f_Kind = x.f_Kind:=rfl;have rA:(refN x).f_A = x.f_A:=rfl;have rB:(refN x).f_B = x.f_B:=rfl;simp only [Tm.size] at hn;have ih1:=rlens_ok hl a m n ha (by omega);have ih2:=rlens_ok hl b j n hb (by omega);obtain ⟨k,hat⟩:=sub_at ha;obtain ⟨k',hbt⟩:=sub_at hb;have R:=lr_tree hat;have R':=lr_tree hbt;have g1:=R.l0;have g2:=R.h0;have g3:=R'.l0;have g4:=R'.h0;simp only [m_K,b_cZ];rw [rck (lGs.1 hx).1,oBs,rnth hx,rK];simp only [Tm.val,lenA]
  have k1:x.f_Kind ≠ 1:=fun k=>by simp [kd,k] at h0
  have k2:x.f_Kind ≠ 12:=fun k=>by simp [kd,k] at h0
  have k89:x.f_Kind = 8 \/ x.f_Kind = 9:=by
   unfold kd at h0
   split at h0
   ·assumption
   ·split at h0 <;> omega
  have fin:b_bC (m_K n) (m_cY n) (m_cG n) n (some (l.map refN)) (refN x) x.f_Kind true = some (if x.f_Kind = 8 then (plusI (a.val (0,0) lenA).1 (b.val (0,0) lenA).1,plusI (a.val (0,0) lenA).2 (b.val (0,0) lenA).2) else (min (a.val (0,0) lenA).1 (b.val (0,0) lenA).1,if min (a.val (0,0) lenA).2 (b.val (0,0) lenA).2 = -1 then -1 else max (a.val (0,0) lenA).2 (b.val (0,0) lenA).2)):=by
   rw [b_bC,cond_true,rA,hxA,ih1,oBs,rB,hxB,ih2,oBs,rK]
   by_cases k3:x.f_Kind = 8
   ·rw [ct (dt k3),if_pos k3,rplus_ok (by omega) (by omega) (by omega),oBs,rplus_ok (by omega) g2 g4,oBs]
   ·rw [cfl (df k3),if_neg k3]
    by_cases hm:min (a.val (0,0) lenA).2 (b.val (0,0) lenA).2 = -1
    ·rw [ct (by simp only [Bool.or_eq_true,decide_eq_true_eq];omega),if_pos hm]
    ·rw [cfl (by simp only [Bool.or_eq_false_iff,decide_eq_false_iff_not];omega),if_neg hm]
  rw [cfl (df k1),if_neg k1,cfl (df k2),if_neg k2]
  by_cases k3:x.f_Kind = 8
  ·rw [ct (dt k3),dt k3,fin,if_pos k3,if_pos k3]
  ·have k4:=k89.resolve_left k3;rw [cfl (df k3),dt k4,fin,if_neg k3,if_neg k3,if_pos k4]
end
def grp1 (x:S_c) (n:List Int):List Int:=if x.f_Kind = 11 then n else []
def numT:Tm->List Int
 | .leaf x=>grp1 x [x.f_N]
 | .one x t=>grp1 x [x.f_N] ++ numT t
 | .two x a b=>grp1 x [x.f_N] ++ numT a ++ numT b
theorem grp1_len (x:S_c) (n:Int):(grp1 x [n]).length<=1:=by unfold grp1;split <;> simp
theorem numT_len:∀ t:Tm,(numT t).length<=t.size
 | .leaf x=>by have:=grp1_len x x.f_N;simp [numT,Tm.size];omega
 | .one x t=>by have:=grp1_len x x.f_N;have:=numT_len t;simp [numT,Tm.size];omega
 | .two x a b=>by have:=grp1_len x x.f_N;have:=numT_len a;have:=numT_len b;simp [numT,Tm.size];omega
theorem app_some {a b:List Int} (h:a.length+b.length<=2000):Sl.app 8 (some a) (some b) = some (some (a ++ b)):=by
 have hr2:(8000000:Nat)<=roomMost:=nLb rfl;unfold Sl.app;show (if b.length = 0 then some (some a) else if (a.length+b.length)*8<=roomMost then some (some (a ++ b)) else none) = _
 by_cases h0:b.length = 0
 ·rw [if_pos h0,List.length_eq_zero_iff.1 h0,List.append_nil]
 ·rw [if_neg h0,if_pos (by omega)]
section
variable {l:List S_c}
theorem rnum_ok (hl:l.length<=500):∀ (t:Tm) (i n:Nat),Sub l i t->t.size+2<=n->m_P n (some (l.map refN)) (i:Int) = some (some (numT t)):=by
 intro t
 induction t with
 | leaf x =>
  intro i n h hn
  obtain ⟨n,rfl⟩:∃ m,n = m+1:=⟨n - 1,by omega⟩
  obtain ⟨hx,_,h0,_⟩:=sub_leaf h;have rK:(refN x).f_Kind = x.f_Kind:=rfl;have hi:=(lGs.1 hx).1;simp only [Tm.size] at hn
  have k6:x.f_Kind ≠ 11:=fun k=>by simp [kd,k] at h0
  simp only [m_P,b_b2];rw [rck hi,oBs,rnth hx,rK,cfl (df k6),b_ba,rck hi,oBs,rnth hx,rK,rkids_ok _ (by omega),oBs,h0,cfl (df (by omega)),b_bi,cfl (df (by omega)),b_bj];simp [numT,grp1,k6]
 | one x t ih =>
  intro i n h hn
  obtain ⟨n,rfl⟩:∃ m,n = m+1:=⟨n - 1,by omega⟩
  obtain ⟨hx,_,h0,_,j,hj,hxA,hs⟩:=sub_one h;have rK:(refN x).f_Kind = x.f_Kind:=rfl;have rA:(refN x).f_A = x.f_A:=rfl;have rN:(refN x).f_N = x.f_N:=rfl;have hi:=(lGs.1 hx).1;have hz:=sub_size h;simp only [Tm.size] at hn hz;have ih':=ih j n hs (by omega);have hle:=numT_len t
  have fin:∀ g:List Int,g.length<=1->b_ba (m_P n) (m_bY n) n (some (l.map refN)) (i:Int) (some g) = some (some (g ++ numT t)):=fun g hg=>by
   rw [b_ba,rck hi,oBs,rnth hx,rK,rkids_ok _ (by omega),oBs,h0,ct (dt (by omega)),rA,hxA,ih',oBs,app_some (by omega),oBs,b_bi,cfl (df (by omega)),b_bj]
  simp only [m_P,b_b2];rw [rck hi,oBs,rnth hx,rK]
  by_cases k6:x.f_Kind = 11
  ·rw [ct (dt k6),rN,app_some (by simp),oBs,List.nil_append,fin _ (by simp)];simp [numT,grp1,k6]
  ·rw [cfl (df k6),fin _ (by simp)];simp [numT,grp1,k6]
 | two x a b iha ihb =>
  intro i n h hn
  obtain ⟨n,rfl⟩:∃ m,n = m+1:=⟨n - 1,by omega⟩
  obtain ⟨hx,_,h0,j,m,hj,hxB,hb,hm,hxA,ha⟩:=sub_two h;have rK:(refN x).f_Kind = x.f_Kind:=rfl;have rA:(refN x).f_A = x.f_A:=rfl;have rB:(refN x).f_B = x.f_B:=rfl;have hi:=(lGs.1 hx).1;have hz:=sub_size h;simp only [Tm.size] at hn hz;have ih1:=iha m n ha (by omega);have ih2:=ihb j n hb (by omega);have hle:=numT_len a;have hle2:=numT_len b
  have k6:x.f_Kind ≠ 11:=fun k=>by simp [kd,k] at h0
  simp only [m_P,b_b2];rw [rck hi,oBs,rnth hx,rK,cfl (df k6),b_ba,rck hi,oBs,rnth hx,rK,rkids_ok _ (by omega),oBs,h0,ct (dt (by omega)),rA,hxA,ih1,oBs,app_some (by simp;omega),oBs,List.nil_append,b_bi,ct (dt (by omega)),rck hi,oBs,rnth hx,rB,hxB,ih2,oBs,app_some (by omega),oBs,b_bj];simp [numT,grp1,k6]
end
def preI (k:Nat):Tm->List Int
 | .leaf x=>grp1 x [(k:Int)]
 | .one x t=>grp1 x [((k+t.size:Nat):Int)] ++ preI k t
 | .two x a b=>grp1 x [((k+a.size+b.size:Nat):Int)] ++ preI k a ++ preI (k+a.size) b
theorem grp1_map (x:S_c) (a:Int) (f:Int->Int):(grp1 x [a]).map f = grp1 x [f a]:=by unfold grp1;split <;> rfl
theorem mem_grp1 {x:S_c} {a y:Int} (h:y∈grp1 x [a]):y = a:=by unfold grp1 at h;split at h <;> simp at h;exact h
theorem gix_app2 {l1 l2:List S_c}:∀ {i:Nat},gix i (l1 ++ l2) = gix i l1 ++ gix (i+l1.length) l2:=by
 induction l1 with
 | nil=>intro i;simp [gix]
 | cons y l ih =>
  intro i;rw [List.cons_append,gix,gix,ih]
  have e:i+1+l.length = i+(y :: l).length:=by simp;omega
  split <;> simp [e]
theorem gix_one {i:Nat} {x:S_c}:gix i [x] = grp1 x [(i:Int)]:=by simp [gix,grp1]
theorem pre_perm:∀ (t:Tm) (k:Nat),(gix k t.flat).Perm (preI k t)
 | .leaf x,k=>by rw [Tm.flat,gix_one];exact .refl _
 | .one x t,k=>by
  rw [Tm.flat,gix_app2,gix_one,Tm.flat_len];exact List.perm_append_comm.trans ((pre_perm t k).append_left _)
 | .two x a b,k=>by
  rw [Tm.flat,gix_app2,gix_app2,gix_one,lLa,Tm.flat_len,Tm.flat_len,<- Nat.add_assoc];refine List.perm_append_comm.trans ?_;rw [preI,lAs];exact (((pre_perm a k).append (pre_perm b (k+a.size)))).append_left _
theorem pre_rng:∀ {t:Tm} {k:Nat},∀ y∈preI k t,(k:Int)<=y/\y < k+t.size
 | .leaf x,k=>fun y hy=>by have:=mem_grp1 hy;simp [Tm.size];omega
 | .one x t,k=>fun y hy=>by
  rcases List.mem_append.1 hy with hy | hy
  ·have:=mem_grp1 hy;simp [Tm.size];omega
  ·have:=pre_rng y hy;simp [Tm.size];omega
 | .two x a b,k=>fun y hy=>by
  rcases List.mem_append.1 hy with hy | hy
  ·rcases List.mem_append.1 hy with hy | hy
   ·have:=mem_grp1 hy;simp [Tm.size];omega
   ·have:=pre_rng y hy;simp [Tm.size];omega
  ·have:=pre_rng y hy;simp [Tm.size];omega
def SegS (sz:List Int) (k:Nat) (t:Tm):Prop:=∀ j,j < t.size->(t.szs)[j]? = some (szAt sz ((k+j:Nat):Int))
theorem seg_one {sz:List Int} {k:Nat} {x:S_c} {t:Tm} (h:SegS sz k (.one x t)):SegS sz k t/\szAt sz ((k+t.size:Nat):Int) = t.size+1:=by
 constructor
 ·intro j hj
  have:=h j (by simp [Tm.size];omega)
  change (t.szs ++ [_])[j]? = _ at this;rw [lGl (by rw [Tm.vals_len];exact hj)] at this;exact this
 ·have:=h t.size (by simp [Tm.size])
  have e:=Tm.vals_last 0 szA (.one x t);simp only [Tm.size,Nat.add_sub_cancel] at e;change (Tm.one x t).szs[t.size]? = _ at e;rw [this,Tm.sz_val] at e;injection e
theorem seg_two {sz:List Int} {k:Nat} {x:S_c} {a b:Tm} (h:SegS sz k (.two x a b)):SegS sz k a/\SegS sz (k+a.size) b/\szAt sz ((k+a.size+b.size:Nat):Int) = a.size+b.size+1:=by
 refine ⟨fun j hj=>?_,fun j hj=>?_,?_⟩
 ·have:=h j (by simp [Tm.size];omega)
  change (a.szs ++ b.szs ++ [_])[j]? = _ at this;rw [lAs,lGl (by rw [Tm.vals_len];exact hj)] at this;exact this
 ·have:=h (a.size+j) (by simp [Tm.size];omega)
  change (a.szs ++ b.szs ++ [_])[a.size+j]? = _ at this;rw [lGl (by simp [Tm.vals_len];omega),lGr (by rw [Tm.vals_len];omega),Tm.vals_len,Nat.add_sub_cancel_left,<- Nat.add_assoc] at this;exact this
 ·have:=h (a.size+b.size) (by simp [Tm.size])
  have e:=Tm.vals_last 0 szA (.two x a b);simp only [Tm.size,Nat.add_sub_cancel] at e;change (Tm.two x a b).szs[a.size+b.size]? = _ at e;rw [this,Tm.sz_val] at e
  injection e with e
  rw [<- Nat.add_assoc] at e;exact e
def ltS (sz:List Int) (x y:Int):Prop:=x - szAt sz x < y - szAt sz y \/ (x - szAt sz x = y - szAt sz y/\szAt sz y < szAt sz x)
theorem pre_in {sz:List Int}:∀ {t:Tm} {k:Nat},SegS sz k t->∀ y∈preI k t,(k:Int)<=y - szAt sz y+1/\1<=szAt sz y/\szAt sz y<=t.size
 | .leaf x,k,h=>fun y hy=>by
  have:=mem_grp1 hy
  have e:=h 0 (by simp [Tm.size]);simp [Tm.vals,szA] at e;subst this;rw [<- e];simp [Tm.size]
 | .one x t,k,h=>fun y hy=>by
  obtain ⟨h1,h2⟩:=seg_one h
  rcases List.mem_append.1 hy with hy | hy
  ·have:=mem_grp1 hy;subst this;rw [h2];simp [Tm.size];omega
  ·have:=pre_in h1 y hy;simp [Tm.size];omega
 | .two x a b,k,h=>fun y hy=>by
  obtain ⟨h1,h2,h3⟩:=seg_two h
  rcases List.mem_append.1 hy with hy | hy
  ·rcases List.mem_append.1 hy with hy | hy
   ·have:=mem_grp1 hy;subst this;rw [h3];simp [Tm.size];omega
   ·have:=pre_in h1 y hy;simp [Tm.size];omega
  ·have:=pre_in h2 y hy;simp [Tm.size];omega
theorem pre_sorted {sz:List Int}:∀ {t:Tm} {k:Nat},SegS sz k t->(preI k t).Pairwise (ltS sz)
 | .leaf x,k,h=>by unfold preI grp1;split <;> simp
 | .one x t,k,h=>by
  obtain ⟨h1,h2⟩:=seg_one h;rw [preI,List.pairwise_append];refine ⟨by unfold grp1;split <;> simp,pre_sorted h1,fun r hr y hy=>?_⟩
  have:=mem_grp1 hr
  have g:=pre_in h1 y hy;subst this;unfold ltS;rw [h2];omega
 | .two x a b,k,h=>by
  obtain ⟨h1,h2,h3⟩:=seg_two h;rw [preI,lAs,List.pairwise_append];refine ⟨by unfold grp1;split <;> simp,?_,fun r hr y hy=>?_⟩
  ·rw [List.pairwise_append];refine ⟨pre_sorted h1,pre_sorted h2,fun u hu y hy=>?_⟩;have g1:=pre_in h1 u hu;have g2:=pre_in h2 y hy;have g3:=pre_rng u hu;unfold ltS;omega
  ·have:=mem_grp1 hr
   subst this;unfold ltS;rw [h3]
   rcases List.mem_append.1 hy with hy | hy
   ·have g:=pre_in h1 y hy;omega
   ·have g:=pre_in h2 y hy;omega
theorem srt_pre (t:Tm):srt (cfG t.szs) (gix 0 t.flat) = preI 0 t:=by
 have hseg:SegS t.szs 0 t:=fun j hj=>by
  have hj':j < t.szs.length:=by rw [Tm.vals_len];exact hj
  simp [szAt,List.getD,hj']
 refine List.Perm.eq_of_pairwise (le:=fun x y=>(!ltC (cfG t.szs) y x) = true) (fun a b _ _ h1 h2=>?_) ?_ ?_ ((List.mergeSort_perm _ _).trans (pre_perm t 0))
 ·rw [Bool.not_eq_true',ltG'] at h1 h2;omega
 ·refine List.pairwise_mergeSort (fun a b c h1 h2=>?_) (fun a b=>?_) _
  ·rw [Bool.not_eq_true',ltG'] at *
   omega
  ·rw [Bool.or_eq_true,Bool.not_eq_true',Bool.not_eq_true',ltG',ltG'];omega
 ·refine (pre_sorted hseg).imp fun {a b} h=>?_;rw [Bool.not_eq_true',ltG'];unfold ltS at h;omega
theorem pre_num:∀ (t:Tm) (p q:List S_c),(preI p.length t).map (fun i=>((p ++ t.flat ++ q).getD i.toNat default).f_N) = numT t
 | .leaf x,p,q=>by
  rw [preI,numT,grp1_map]
  congr 2
  simp [Tm.flat,List.getD]
 | .one x t,p,q=>by
  have ih:=pre_num t p ([x] ++ q);rw [preI,numT,List.map_append,grp1_map]
  have e:p ++ (Tm.one x t).flat ++ q = p ++ t.flat ++ ([x] ++ q):=by simp [Tm.flat]
  rw [e,ih]
  congr 3
  simp only [List.getD];rw [Int.toNat_natCast,lGr (by simp [Tm.flat_len]),lLa,Tm.flat_len,Nat.sub_self];rfl
 | .two x a b,p,q=>by
  have ih1:=pre_num a p (b.flat ++ [x] ++ q);have ih2:=pre_num b (p ++ a.flat) ([x] ++ q);rw [preI,numT,List.map_append,List.map_append,grp1_map]
  have e:p ++ (Tm.two x a b).flat ++ q = p ++ a.flat ++ (b.flat ++ [x] ++ q):=by simp [Tm.flat]
  have e2:p ++ (Tm.two x a b).flat ++ q = p ++ a.flat ++ b.flat ++ ([x] ++ q):=by simp [Tm.flat]
  rw [lLa,Tm.flat_len] at ih2
  conv=>lhs;arg 2;rw [e2]
  rw [ih2]
  congr 1
  conv=>lhs;arg 2;rw [e]
  rw [ih1]
  congr 3
  rw [e2];simp only [List.getD];rw [Int.toNat_natCast,lGr (by simp [Tm.flat_len];omega)];simp [Tm.flat_len];rw [show p.length+a.size+b.size - (p.length+(a.size+b.size)) = 0 by omega];rfl
def numsOk:List Int->Int->Bool
 | [],_=>true
 | a :: S,k=>decide (a = k+1)&&numsOk S (k+1)
theorem numOk_map {l:List S_c}:∀ (S:List Int) (k:Int),numOk l S k = numsOk (S.map fun i=>(l.getD i.toNat default).f_N) k
 | [],k=>rfl
 | i :: S,k=>by rw [numOk,List.map_cons,numsOk,numOk_map S]
theorem grouped_num (t:Tm):groupedR t.flat t.szs = (numsOk (numT t) 0&&(decide ((numT t).length<=9)&&!t.flat.any (oddB (numT t).length))):=by
 have h:=pre_num t [] [];simp only [List.nil_append,List.append_nil,List.length_nil] at h
 have hl:(gix 0 t.flat).length = (numT t).length:=by rw [(pre_perm t 0).length_eq,<- h,List.length_map]
 rw [groupedR,srt_pre,numOk_map,h,hl]
end Go.Proofs.YtaadjlpfdajggaaGreatDoor

set_option maxRecDepth 100000
set_option linter.unusedVariables false
set_option linter.unusedSimpArgs false
namespace Go.Proofs.YtaadjlpfdajggaaGreatDoor
open Go Go.AM
open Classical in
noncomputable def rightR (l:List S_c):Int :=
 if formedR l = 0 then (match tree l with | none=>0 | some t=>if groupedR l t.szs = true then (if BehOk t then 0 else 7) else 6) else formedR l
theorem formed_tree {l:List S_c} (h:formedR l = 0):∃ t,tree l = some t/\t.size<=500/\t.dep<=40:=by
 unfold formedR at h
 split at h
 ·cases h
 rename_i hN
 cases ht:tree l with
 | none=>rw [ht] at h;cases h
 | some t =>
  rw [ht] at h;simp only at h;have hl:=(tree_some ht).1;refine ⟨t,rfl,by rw [hl,Tm.flat_len] at hN;omega,?_⟩
  by_cases h4:40 < t.dep
  ·rw [if_pos h4] at h;cases h
  ·omega
theorem right_eq {n:Nat} {x0:Sl S_c} (hn:1300<=n):m_cR n x0 = some (rightR (Sl.l x0)):=by
 obtain ⟨n,rfl⟩:∃ m,n = m+1:=⟨n - 1,by omega⟩
 simp only [m_cR,b_eX];rw [formed_ok (by omega),oBs];unfold rightR
 by_cases hf:formedR (Sl.l x0) = 0
 ·rw [cfl (by rw [dt hf];rfl),if_pos hf];obtain ⟨t,ht,hs,hd⟩:=formed_tree hf;obtain ⟨hl,hA⟩:=tree_some ht
  have hN:(Sl.l x0).length<=500:=by rw [hl,Tm.flat_len];exact hs
  rw [ht,grouped_ok (by omega) hN ht,oBs]
  cases hg:groupedR (Sl.l x0) t.szs with
  | false=>simp only [hg];rfl
  | true =>
   rw [Bool.not_true,cond_false,lens_ok (by omega) hN ht,oBs];obtain ⟨r,h1,h2,h3⟩:=right_loop (n:=n) (x0:=x0) (c1:=m_cW n) (c2:=m_dS n) (c3:=m_cI n) hl hA hs t.size n 0 (by omega) (by omega);have e:r = 0 ↔ BehOk t:=h3.trans ⟨fun h i x=>h i x (by omega),fun h i x _=>h i x⟩;refine h1.trans ?_;simp only [hg,if_true]
   by_cases hb:BehOk t
   ·rw [if_pos hb,e.2 hb]
   ·rw [if_neg hb]
    rcases h2 with h2 | h2
    ·exact (hb (e.1 h2)).elim
    ·rw [h2]
 ·rw [ct (by rw [df hf];rfl),if_neg hf]
section
variable {n:Nat} {l:List S_c} {c1:T_bx} {c2:T_J} {c3:T_M}
theorem r1_loop {g:List Int} (hg:g.length<=500):∀ (d fuel i:Nat),i+d = g.length->d < fuel ->
  b_bK c1 c2 c3 n (some (l.map refN)) fuel (some g) (i:Int) = if numsOk (g.drop i) i = true then b_bq c1 c2 c3 n (some (l.map refN)) n (some g) 0 else some 6:=by
 intro d
 induction d with
 | zero =>
  intro fuel i hi hf
  obtain ⟨fuel,rfl⟩:∃ m,fuel = m+1:=⟨fuel - 1,by omega⟩
  rw [b_bK,cfl (df (by simp [Sl.len,Sl.l];omega)),List.drop_eq_nil_of_le (by omega)];rfl
 | succ d ih =>
  intro fuel i hi hf
  obtain ⟨fuel,rfl⟩:∃ m,fuel = m+1:=⟨fuel - 1,by omega⟩
  have hil:i < g.length:=by omega
  rw [b_bK,ct (dt (by simp [Sl.len,Sl.l];omega)),ck_ok (by simpa [Sl.l] using hil),oBs,nth_l (v:=g[i]) (by simp [Sl.l]),wp1 (by omega),List.drop_eq_getElem_cons hil,numsOk]
  by_cases h:g[i] = ((i+1:Nat):Int)
  ·rw [cfl (by rw [dt h];rfl),ih fuel (i+1) (by omega) (by omega),dt (show g[i] = (i:Int)+1 by rw [h];omega),Bool.true_and];rfl
  ·rw [ct (by rw [df h];rfl),df (show ¬ g[i] = (i:Int)+1 by omega)];rfl
theorem r2_loop {g:List Int} (hl:l.length<=500):∀ (d fuel i:Nat),i+d = l.length->d < fuel ->
  b_bq c1 c2 c3 n (some (l.map refN)) fuel (some g) (i:Int) = if (l.drop i).any (oddB g.length) = true then some 6 else b_2 c1 c2 c3 n (some (l.map refN)) n 0:=by
 intro d
 induction d with
 | zero =>
  intro fuel i hi hf
  obtain ⟨fuel,rfl⟩:∃ m,fuel = m+1:=⟨fuel - 1,by omega⟩
  rw [b_bq,cfl (df (by simp [Sl.len,Sl.l];omega)),List.drop_eq_nil_of_le (by omega)];rfl
 | succ d ih =>
  intro fuel i hi hf
  obtain ⟨fuel,rfl⟩:∃ m,fuel = m+1:=⟨fuel - 1,by omega⟩
  have hil:i < l.length:=by omega
  rw [b_bq,ct (dt (by simp [Sl.len,Sl.l];omega)),rck hil,oBs,rnth (List.getElem?_eq_getElem hil),wp1 (by omega),List.drop_eq_getElem_cons hil,List.any_cons];have e:((decide ((refN l[i]).f_Kind = 12))&&((decide ((refN l[i]).f_N < 1))||(decide (Sl.len (some g) < (refN l[i]).f_N)))) = oddB g.length l[i]:=rfl;rw [e]
  cases oddB g.length l[i] with
  | true=>rfl
  | false=>rw [cond_false,Bool.false_or];exact ih fuel (i+1) (by omega) (by omega)
theorem r3_loop {t:Tm} (hl:l = t.flat) (ht:Sub l (l.length - 1) t) (hs:t.size<=500) (hn:600<=n):∀ (d fuel i:Nat),i+d = t.size->d < fuel ->
  ∃ r,b_2 c1 c2 (m_K n) n (some (l.map refN)) fuel (i:Int) = some r/\(r = 0 \/ r = 7)/\(r = 0 ↔ ∀ (i':Nat) x,i<=i'->t.flat[i']? = some x->(x.f_Kind = 15 \/ x.f_Kind = 16)->∀ (j:Nat) v,x.f_A = (j:Int)->t.lens[j]? = some v->v.1 = v.2/\v.1<=255):=by
 have hll:l.length = t.size:=by rw [hl,Tm.flat_len]
 have hp:=t.pos
 have hlen:Sl.len (some (l.map refN)) = (t.size:Int):=by simp [Sl.len,Sl.l,hll]
 have hA:t.At 0:=by
  obtain ⟨_,p,h1,h2⟩:=ht;rw [List.take_of_length_le (by omega)] at h1
  have:=congrArg List.length h1
  simp [Tm.flat_len] at this;obtain rfl:p = []:=List.length_eq_zero_iff.1 (by omega);exact h2
 intro d
 induction d with
 | zero =>
  intro fuel i hi hf
  obtain ⟨fuel,rfl⟩:∃ m,fuel = m+1:=⟨fuel - 1,by omega⟩
  rw [b_2,cfl (df (by omega))];refine ⟨0,rfl,.inl rfl,fun _ i' x hi' hx=>?_,fun _=>rfl⟩
  have:=(lGs.1 hx).1
  rw [Tm.flat_len] at this;omega
 | succ d ih =>
  intro fuel i hi hf
  obtain ⟨fuel,rfl⟩:∃ m,fuel = m+1:=⟨fuel - 1,by omega⟩
  have hif:i < t.flat.length:=by rw [Tm.flat_len];omega
  have hx:=List.getElem?_eq_getElem hif;have K:=Tm.kid (d:=((0:Int),(0:Int))) (alg:=lenA) hA hx;obtain ⟨r,hr1,hr2,hr3⟩:=ih fuel (i+1) (by omega) (by omega)
  have hxl:l[i]? = some t.flat[i]:=by rw [hl];exact hx
  rw [b_2,ct (dt (by omega)),rck (by omega),oBs,rnth hxl]
  generalize t.flat[i] = x at *
  have rK:(refN x).f_Kind = x.f_Kind:=rfl;have rA:(refN x).f_A = x.f_A:=rfl
  have step:(∀ (j:Nat) v,(x.f_Kind = 15 \/ x.f_Kind = 16)->x.f_A = (j:Int)->t.lens[j]? = some v->v.1 = v.2/\v.1<=255)->(r = 0 ↔ ∀ (i':Nat) x,i<=i'->t.flat[i']? = some x->(x.f_Kind = 15 \/ x.f_Kind = 16)->∀ (j:Nat) v,x.f_A = (j:Int)->t.lens[j]? = some v->v.1 = v.2/\v.1<=255):=fun hc=>by
   refine ⟨fun h i' y hi' hy hk j v hj hv=>?_,fun h=>hr3.2 fun i' y hi'=>h i' y (by omega)⟩
   rcases Nat.lt_or_ge i i' with h' | h'
   ·exact hr3.1 h i' y (by omega) hy hk j v hj hv
   ·obtain rfl:i' = i:=by omega
    rw [hx] at hy;injection hy with hy;subst hy
    exact hc j v hk hj hv
  by_cases k:x.f_Kind = 15 \/ x.f_Kind = 16
  ·rcases K.at_ with ⟨h1,_⟩ | ⟨h1,j,v,h2,h3,h4,h5,h6⟩ | ⟨h1,_⟩
   ·rcases k with k | k <;> simp [kd,k] at h1
   case inr.inr=>rcases k with k | k <;> simp [kd,k] at h1
   have hj:j < t.size:=by have:=(lGs.1 h5).1;rw [Tm.vals_len] at this;exact this
   obtain ⟨s,s1,s2,s3⟩:=sub_vals (d:=((0:Int),(0:Int))) (alg:=lenA) ht j hj;rw [show l.length - 1+1 - t.size+j = j by omega] at s1
   have hv:v = s.val (0,0) lenA:=by rw [h5] at s2;injection s2
   rw [ct (by rw [rK];simpa only [Bool.or_eq_true,decide_eq_true_eq] using k),rA,h3,Nat.zero_add,rlens_ok (by omega) s j n s1 (by omega),oBs,<- hv]
   by_cases hc:v.1 = v.2/\v.1<=255
   ·rw [cfl (by simp [hc.1];have:=hc.2;have:=hc.1;omega),b_b3,wp1 (by omega)];refine ⟨r,hr1,hr2,step fun j' v' _ hj' hv'=>?_⟩
    obtain rfl:j' = j:=by rw [h3] at hj';omega
    rw [h5] at hv';injection hv' with hv';subst hv';exact hc
   ·rw [ct (by
     simp only [Bool.or_eq_true,Bool.not_eq_true',decide_eq_false_iff_not,decide_eq_true_eq]
     by_cases h:v.1 = v.2
     ·exact .inr (by
      have:¬ (v.1<=255):=fun h'=>hc ⟨h,h'⟩
      omega)
     ·exact .inl h)]
    refine ⟨7,rfl,.inr rfl,fun h=>(by cases h),fun h=>(hc (h i x (Nat.le_refl _) hx k j v (by rw [h3,Nat.zero_add]) h5)).elim⟩
  ·rw [cfl (by rw [rK,df fun h=>k (.inl h),df fun h=>k (.inr h)];rfl),b_b3,wp1 (by omega)];exact ⟨r,hr1,hr2,step fun _ _ h=>(k h).elim⟩
end
theorem rright_eq {n:Nat} {l:List S_c} (hn:1300<=n):m_b8 n (some (l.map refN)) = some (rightR l):=by
 obtain ⟨n,rfl⟩:∃ m,n = m+1:=⟨n - 1,by omega⟩
 have hlen:Sl.len (some (l.map refN)) = (l.length:Int):=by simp [Sl.len,Sl.l]
 simp only [m_b8,b_ed];rw [rformed_ok (by omega),oBs];unfold rightR
 by_cases hf:formedR l = 0
 ·rw [cfl (by rw [dt hf];rfl),if_pos hf];obtain ⟨t,ht,hs,hd⟩:=formed_tree hf;obtain ⟨hl,hA⟩:=tree_some ht
  have hll:l.length = t.size:=by rw [hl,Tm.flat_len]
  have hp:=t.pos;obtain ⟨_,hsub⟩:=tree_sub.1 ht
  have hg0:groupedR l t.szs = (numsOk (numT t) 0&&(decide ((numT t).length<=9)&&!t.flat.any (oddB (numT t).length))):=by
   have:=grouped_num t
   rw [<- hl] at this ⊢;exact this
  have hle:=numT_len t;rw [ht,hlen,w64 (by omega) (by omega),show (l.length:Int) - 1 = ((l.length - 1:Nat):Int) by omega,rnum_ok (by omega) t _ n hsub (by omega),oBs];simp only;rw [hg0]
  by_cases h9:(numT t).length<=9
  ·rw [cfl (df (by show ¬ (9:Int) < ((numT t).length:Int);omega)),dt h9,Bool.true_and]
   have:=r1_loop (n:=n) (l:=l) (c1:=m_bz n) (c2:=m_P n) (c3:=m_K n) (g:=numT t) (by omega) (numT t).length n 0 (by omega) (by omega)
   rw [show ((0:Nat):Int) = 0 from rfl,List.drop_zero] at this;rw [this]
   cases hno:numsOk (numT t) 0 with
   | false=>rfl
   | true =>
    rw [if_pos rfl,Bool.true_and]
    have:=r2_loop (n:=n) (l:=l) (c1:=m_bz n) (c2:=m_P n) (c3:=m_K n) (g:=numT t) (by omega) l.length n 0 (by omega) (by omega)
    rw [show ((0:Nat):Int) = 0 from rfl,List.drop_zero] at this;rw [this,<- hl]
    cases l.any (oddB (numT t).length) with
    | true=>rfl
    | false =>
     rw [if_neg (by simp)];obtain ⟨r,h1,h2,h3⟩:=r3_loop (n:=n) (c1:=m_bz n) (c2:=m_P n) hl hsub hs (by omega) t.size n 0 (by omega) (by omega);have e:r = 0 ↔ BehOk t:=h3.trans ⟨fun h i x=>h i x (by omega),fun h i x _=>h i x⟩;refine h1.trans ?_;simp only [Bool.not_false,if_true]
     by_cases hb:BehOk t
     ·rw [if_pos hb,e.2 hb]
     ·rw [if_neg hb]
      rcases h2 with h2 | h2
      ·exact (hb (e.1 h2)).elim
      ·rw [h2]
  ·rw [ct (dt (by show (9:Int) < ((numT t).length:Int);omega)),df h9];simp
 ·rw [ct (by rw [df hf];rfl),if_neg hf]
end Go.Proofs.YtaadjlpfdajggaaGreatDoor

set_option maxRecDepth 100000
set_option linter.unusedVariables false
set_option linter.unusedSimpArgs false
namespace Go.Proofs.YtaadjlpfdajggaaGreatDoor.factsTell
open Go Go.AM
def refS (s:S_g):S_f:=(m_c2 400 s.f_W).getD S_f.zero
theorem refS_W (P:Nat->Bool):refS (W P) = FS P:=by rw [refS,of_FS P (by omega)];rfl
def refF (f:S_e):S_b:=⟨refS f.f_First,f.f_Open,f.f_Fast,f.f_Prefix⟩
theorem lref_ok {n:Nat} {f:S_e} (hn:400<=n) (h:∃ P,f.f_First = W P):m_dY n f = some (refF f):=by
 obtain ⟨n,rfl⟩:∃ m,n = m+1:=⟨n - 1,by omega⟩
 obtain ⟨P,hP⟩:=h;simp only [m_dY,b_e0,hP,of_FS P (show 300<=n by omega),oBs,refF,refS_W]
theorem zeroW:S_g.zero = W fun _=>false:=by kernel_rfl
theorem refS_zero:refS S_g.zero = S_f.zero:=by rw [zeroW,refS_W,FS_zero]
theorem bytes_cnt (P:Nat->Bool):∃ c:Int,0<=c/\c < 256/\(cnt P 0 256 = 1->P c.toNat = true)/\bytK (W P) = if cnt P 0 256 = 1 then ⟨⟨W P,false,false,strOf (some [c])⟩,true,false⟩ else ⟨⟨W P,false,false,e0⟩,false,false⟩:=by
 obtain ⟨c,b,h2,c0,c1,z2⟩:=min_ok P;have hl:∀ n,10<=n->m_bk n (W P) = some ((cnt P 0 256:Nat):Int):=fun n hn=>len_cnt P hn;refine ⟨c,c0,c1,fun h1=>?_,?_⟩
 ·rcases z2 with z | z
  ·have:cnt P 0 256 = 0:=cnt_zero fun j _ hj=>by
    obtain ⟨v,hv,_,hb⟩:=wd_nat P (j / 64);have hz:=z (j / 64) (by omega);rw [hv] at hz
    obtain rfl:v = 0:=by omega
    have:=hb (j % 64) (Nat.mod_lt _ (by omega))
    rw [show 64*(j / 64)+j % 64 = j by omega] at this;rw [<- this];simp
   omega
  ·exact z
 ·refine bytes_eq fun n hn=>?_
  obtain ⟨n,rfl⟩:∃ m,n = m+1:=⟨n - 1,by omega⟩
  by_cases hv:cnt P 0 256 = 1
  ·simp only [m_V,b_b9,b_bp,hl n (by omega),h2 n (by omega),oBs,hv,if_true];rfl
  ·have hv':¬ ((cnt P 0 256:Nat):Int) = 1:=by omega
   simp only [m_V,b_b9,b_bp,hl n (by omega),h2 n (by omega),oBs,decide_eq_false hv',cond_false,if_neg hv];rfl
structure TI (k:S_a) (v:Int × Int):Prop where
 first:∃ P,k.f_Facts.f_First = W P
 none:k.f_none = true ↔ v.2 = 0
 size:k.f_Facts.f_Prefix.size<=100
 len:LR v
theorem ti_nothing:TI nothingK (0,0):=⟨⟨_,zeroW⟩,⟨fun _=>rfl,fun _=>rfl⟩,Nat.zero_le 100,lr_zero⟩
theorem cut_eq (k:S_a):(cutK k).f_Facts.f_First = k.f_Facts.f_First/\(cutK k).f_Facts.f_Open = k.f_Facts.f_Open/\(cutK k).f_Facts.f_Fast = k.f_Facts.f_Fast/\(cutK k).f_none = k.f_none:=by
 unfold cutK;split <;> exact ⟨rfl,rfl,rfl,rfl⟩
theorem plus_zero {a b:Int} (ha:-1<=a) (ha':a<=1048576) (hb:-1<=b) (hb':b<=1048576):plusI a b = 0 ↔ (a = 0/\b = 0):=by
 rw [plus_rng ha ha' hb hb']
 split <;> omega
theorem alt_zero {a b:Int} (ha:-1<=a) (hb:-1<=b):(if min a b = -1 then (-1:Int) else max a b) = 0 ↔ (a = 0/\b = 0):=by
 split <;> omega
theorem times_zero {a b:Int} (ha:-1<=a) (ha':a<=1048576) (hb:-1<=b) (hb':b<=100) (h0:b ≠ 0):timesI a b = 0 ↔ a = 0:=by
 rw [times_rng ha ha' hb hb'];have hne:a ≠ 0->a*b ≠ 0:=fun h=>Int.mul_ne_zero h h0;generalize a*b = c at hne
 split
 ·omega
 ·split
  ·omega
  ·have:=hne (by omega);omega
theorem ti_step {x:S_c} {v w:S_a} {a b:Int × Int} (hS:SetIn x) (hf:fitsB x = true) (hv:TI v a) (hw:TI w b):TI (facA x v w) (lenA x a b):=by
 have hL:=lr_step hf hv.len hw.len;have hz:=fac_size (w:=w) hS hv.size
 suffices h:(∃ P,(facA x v w).f_Facts.f_First = W P)/\((facA x v w).f_none = true ↔ (lenA x a b).2 = 0) from ⟨h.1,h.2,hz,hL⟩
 obtain ⟨P,hP⟩:=hv.first
 obtain ⟨Q,hQ⟩:=hw.first
 have va:=hv.len.h0;have va1:=hv.len.h1;have wb:=hw.len.h0;have wb1:=hw.len.h1;have vn:=hv.none;have wn:=hw.none;unfold facA lenA
 by_cases k1:x.f_Kind = 1
 ·rw [if_pos k1,if_pos k1];obtain ⟨R,hR⟩:=W_of x.f_Set hS;obtain ⟨c,_,_,_,h4⟩:=bytes_cnt R;rw [hR,h4]
  split
  ·exact ⟨⟨R,rfl⟩,⟨fun h=>(by cases h),fun h=>(by cases h)⟩⟩
  ·exact ⟨⟨R,rfl⟩,⟨fun h=>(by cases h),fun h=>(by cases h)⟩⟩
 rw [if_neg k1,if_neg k1]
 by_cases k2:x.f_Kind = 2
 ·rw [if_pos k2,if_neg (by omega),if_neg (by omega),if_neg (by omega),if_neg (by omega),if_neg (by omega)];exact ⟨⟨_,zeroW⟩,⟨fun _=>rfl,fun _=>rfl⟩⟩
 rw [if_neg k2]
 by_cases k3:x.f_Kind = 12
 ·rw [if_pos k3,if_pos k3];exact ⟨⟨_,rfl⟩,⟨fun h=>(by cases h),fun h=>(by cases h)⟩⟩
 rw [if_neg k3,if_neg k3]
 by_cases k4:x.f_Kind = 8
 ·rw [if_pos k4,if_pos k4];obtain ⟨c1,c2,c3,c4⟩:=cut_eq ⟨⟨if v.f_Facts.f_Open then orS v.f_Facts.f_First w.f_Facts.f_First else v.f_Facts.f_First,v.f_Facts.f_Open&&w.f_Facts.f_Open,v.f_Facts.f_Fast||(w.f_Facts.f_Fast&&v.f_none),if v.f_whole then v.f_Facts.f_Prefix ++ w.f_Facts.f_Prefix else v.f_Facts.f_Prefix⟩,v.f_whole&&w.f_whole,v.f_none&&w.f_none⟩;change (catK v w).f_Facts.f_First = _ at c1;change (catK v w).f_none = _ at c4;rw [c1,c4];refine ⟨?_,?_⟩
  ·cases v.f_Facts.f_Open
   ·exact ⟨P,hP⟩
   ·exact ⟨_,by rw [if_pos rfl,hP,hQ,or_W]⟩
  ·show (v.f_none&&w.f_none) = true ↔ plusI a.2 b.2 = 0;rw [plus_zero va va1 wb wb1,Bool.and_eq_true,vn,wn]
 rw [if_neg k4,if_neg k4]
 by_cases k5:x.f_Kind = 9
 ·rw [if_pos k5,if_pos k5];refine ⟨⟨_,by show orS _ _ = _;rw [hP,hQ,or_W]⟩,?_⟩;show (v.f_none&&w.f_none) = true ↔ (if min a.2 b.2 = -1 then (-1:Int) else max a.2 b.2) = 0;rw [alt_zero va wb,Bool.and_eq_true,vn,wn]
 rw [if_neg k5,if_neg k5]
 by_cases k6:x.f_Kind = 10
 ·rw [if_pos k6,if_pos k6];obtain ⟨m0,m1,m2⟩:=fits_rep hf k6;unfold repK
  by_cases hm:x.f_Max = 0
  ·rw [if_pos hm];refine ⟨⟨_,zeroW⟩,⟨fun _=>?_,fun _=>rfl⟩⟩;show timesI a.2 x.f_Max = 0;rw [timesI,if_pos (.inr hm)]
  ·rw [if_neg hm];refine ⟨⟨P,hP⟩,?_⟩;show v.f_none = true ↔ timesI a.2 x.f_Max = 0;rw [times_zero va va1 (by omega) (by omega) hm,vn]
 rw [if_neg k6,if_neg k6]
 by_cases k7:x.f_Kind = 11 \/ x.f_Kind = 17
 ·rw [if_pos k7,if_pos k7];exact ⟨⟨P,hP⟩,vn⟩
 ·rw [if_neg k7,if_neg k7];exact ⟨⟨_,zeroW⟩,⟨fun _=>rfl,fun _=>rfl⟩⟩
theorem rcut_ok {n:Nat} {p:ByteArray} {w:Bool} (hn:1<=n):m_dp n p w = some (if 100 < p.size then (p.extract 0 100,false) else (p,w)):=by
 obtain ⟨n,rfl⟩:∃ m,n = m+1:=⟨n - 1,by omega⟩
 simp only [m_dp,b_eW]
 by_cases h:100 < p.size
 ·rw [ct (dt (by omega)),if_pos h,sub,if_pos ⟨by omega,by omega,by omega⟩];rfl
 ·rw [cfl (df (by omega)),if_neg h]
section
variable {l:List S_c}
theorem node_dflt (x:S_c) (v w:S_a) (k1:x.f_Kind ≠ 1) (k2:x.f_Kind ≠ 12) (k3:x.f_Kind ≠ 8) (k4:x.f_Kind ≠ 9) (k5:x.f_Kind ≠ 10) (k6:¬ (x.f_Kind = 11 \/ x.f_Kind = 17)) :
  some (({ S_b.zero with f_First:=S_f.zero,f_Open:=true,f_Fast:=decide (x.f_Kind = 2),f_Prefix:=(⟨#[]⟩:ByteArray) }:S_b),true) = some (refF (facA x v w).f_Facts,(facA x v w).f_whole):=by
 unfold facA;rw [if_neg k1]
 by_cases h2:x.f_Kind = 2
 ·rw [if_pos h2,dt h2,refF,refS_zero]
 ·rw [if_neg h2,if_neg k2,if_neg k3,if_neg k4,if_neg k5,if_neg k6,df h2,refF];show _ = some ((⟨refS S_g.zero,true,false,e0⟩:S_b),true);rw [refS_zero]
theorem node_leaf (hl:l.length<=500) (hS:∀ x∈l,SetIn x) {x:S_c} {i n:Nat} (h:Sub l i (.leaf x)) (hn:700<=n) :
  TI (Tm.leaf x).fac ((Tm.leaf x).val (0,0) lenA)/\m_L n (some (l.map refN)) (i:Int) = some (refF (Tm.leaf x).fac.f_Facts,(Tm.leaf x).fac.f_whole):=by
 have mem:∀ {i:Nat} {x:S_c},l[i]? = some x->SetIn x:=fun h=>hS _ (List.mem_iff_getElem?.2 ⟨_,h⟩)
 obtain ⟨n,rfl⟩:∃ m,n = m+1:=⟨n - 1,by omega⟩
 obtain ⟨hx,hf,h0,_⟩:=sub_leaf h;have hi:=(lGs.1 hx).1;refine ⟨ti_step (mem hx) hf ti_nothing ti_nothing,?_⟩;have rK:(refN x).f_Kind = x.f_Kind:=rfl;simp only [m_L,b_c1];rw [rck hi,oBs,rnth hx,rK]
 have k3:x.f_Kind ≠ 8:=fun k=>by simp [kd,k] at h0
 have k4:x.f_Kind ≠ 9:=fun k=>by simp [kd,k] at h0
 have k5:x.f_Kind ≠ 10:=fun k=>by simp [kd,k] at h0
 have k6:x.f_Kind ≠ 11:=fun k=>by simp [kd,k] at h0
 have k7:x.f_Kind ≠ 17:=fun k=>by simp [kd,k] at h0
 by_cases k1:x.f_Kind = 1
 ·obtain ⟨P,hP⟩:=W_of x.f_Set (mem hx);obtain ⟨c,c0,c1,c2,c3⟩:=bytes_cnt P;obtain ⟨c',b',d0,d1,d2,d3⟩:=rmin_ok (n:=n) P (by omega)
  have rS:(refN x).f_Set = (W P).f_W:=by rw [<- hP];rfl
  have ef:facA x nothingK nothingK = bytK (W P):=by unfold facA;rw [if_pos k1,hP]
  rw [ct (dt k1),rS,of_FS P (by omega),oBs,d0,oBs,rlen_ok P (by omega),oBs];show _ = some (refF (facA x nothingK nothingK).f_Facts,(facA x nothingK nothingK).f_whole);rw [ef,c3]
  by_cases h1:cnt P 0 256 = 1
  ·rw [ct (dt (by omega)),if_pos h1,refF,refS_W]
   have e:c' = c:=by
    have p1:=c2 h1
    have p2:P c'.toNat = true:=by
     rcases d3 with z | z
     ·have:=cnt_zero (P:=P) (a:=0) (n:=256) fun j _ hj=>z j (by omega)
      omega
     ·exact z
    have:=cnt_one h1 p1 p2 (by omega) (by omega)
    omega
   rw [e]
  ·rw [cfl (df (by omega)),if_neg h1,refF,refS_W]
 rw [cfl (df k1)]
 by_cases k2:x.f_Kind = 12
 ·have ef:facA x nothingK nothingK = ⟨⟨allS,true,false,e0⟩,false,false⟩:=by unfold facA;rw [if_neg k1,if_neg (by omega),if_pos k2]
  rw [ct (dt k2),rrange_ok (by omega),oBs];show _ = some (refF (facA x nothingK nothingK).f_Facts,(facA x nothingK nothingK).f_whole);rw [ef,refF,show allS = W fun _=>true from rfl,refS_W]
 rw [cfl (df k2),cfl (df k3),df k4,b_bA,cond_false,cfl (df k6),df k7,b_by,cond_false,cfl (df k5)];exact node_dflt x nothingK nothingK k1 k2 k3 k4 k5 (by omega)
theorem node_one (hl:l.length<=500) (hS:∀ x∈l,SetIn x) {x:S_c} {t:Tm} {i j n:Nat} (hx:l[i]? = some x) (hf:fitsB x = true) (h0:kd x.f_Kind = 1) (hxA:x.f_A = (j:Int)) (hn:1<=n) (I1:TI t.fac (t.val (0,0) lenA)) (I2:m_L n (some (l.map refN)) (j:Int) = some (refF t.fac.f_Facts,t.fac.f_whole)) :
  TI (Tm.one x t).fac ((Tm.one x t).val (0,0) lenA)/\m_L (n+1) (some (l.map refN)) (i:Int) = some (refF (Tm.one x t).fac.f_Facts,(Tm.one x t).fac.f_whole):=by
 have mem:∀ {i:Nat} {x:S_c},l[i]? = some x->SetIn x:=fun h=>hS _ (List.mem_iff_getElem?.2 ⟨_,h⟩);have hi:=(lGs.1 hx).1;refine ⟨ti_step (mem hx) hf I1 ti_nothing,?_⟩;have rK:(refN x).f_Kind = x.f_Kind:=rfl;have rA:(refN x).f_A = x.f_A:=rfl;have rm:(refN x).f_Min = x.f_Min:=rfl;have rM:(refN x).f_Max = x.f_Max:=rfl;simp only [m_L,b_c1];rw [rck hi,oBs,rnth hx,rK]
 have k1:x.f_Kind ≠ 1:=fun k=>by simp [kd,k] at h0
 have k2:x.f_Kind ≠ 12:=fun k=>by simp [kd,k] at h0
 have k3:x.f_Kind ≠ 8:=fun k=>by simp [kd,k] at h0
 have k4:x.f_Kind ≠ 9:=fun k=>by simp [kd,k] at h0
 have k22:x.f_Kind ≠ 2:=fun k=>by simp [kd,k] at h0
 rw [cfl (df k1),cfl (df k2),cfl (df k3),df k4,b_bA,cond_false];show _ = some (refF (facA x t.fac nothingK).f_Facts,(facA x t.fac nothingK).f_whole)
 by_cases k6:x.f_Kind = 11 \/ x.f_Kind = 17
 ·have ef:facA x t.fac nothingK = t.fac:=by unfold facA;rw [if_neg k1,if_neg k22,if_neg k2,if_neg k3,if_neg k4,if_neg (by omega),if_pos k6]
  rw [ef]
  by_cases k7:x.f_Kind = 11
  ·rw [ct (dt k7),dt k7,b_by,cond_true,rA,hxA,I2,oBs]
  ·rw [cfl (df k7),dt (k6.resolve_left k7),b_by,cond_true,rA,hxA,I2,oBs]
 rw [cfl (df fun k=>k6 (.inl k)),df fun k=>k6 (.inr k),b_by,cond_false]
 by_cases k5:x.f_Kind = 10
 ·have ef:facA x t.fac nothingK = repK x t.fac:=by unfold facA;rw [if_neg k1,if_neg k22,if_neg k2,if_neg k3,if_neg k4,if_pos k5]
  obtain ⟨m0,m1,m2⟩:=fits_rep hf k5;rw [ef,ct (dt k5),rA,hxA,I2,oBs,rM,rm];unfold repK
  by_cases hm:x.f_Max = 0
  ·rw [ct (dt hm),if_pos hm,refF];show _ = some ((⟨refS S_g.zero,true,false,e0⟩:S_b),true);rw [refS_zero]
  ·rw [cfl (df hm),if_neg hm]
   by_cases h1:x.f_Min = 0
   ·rw [ct (dt h1),b_cq,rm,rM,h1];rfl
   ·rw [cfl (df h1),b_cq,rm,rM];simp only [refF];rw [if_pos (show 0 < x.f_Min by omega)]
 ·rw [cfl (df k5)];exact node_dflt x t.fac nothingK k1 k2 k3 k4 k5 k6
theorem two_fin {F G':S_a} {va:Int × Int} {x:S_c} {m n:Nat} (hn:1<=n) (hxA:x.f_A = (m:Int)) (hlen:m_K n (some (l.map refN)) (m:Int) = some va) (hno:decide (va.2 = 0) = F.f_none) (hs1:F.f_Facts.f_Prefix.size<=100) (hs2:G'.f_Facts.f_Prefix.size<=100) (R:Nat->Bool) (hR:(if F.f_Facts.f_Open = true then orS F.f_Facts.f_First G'.f_Facts.f_First else F.f_Facts.f_First) = W R) :
  b_cB (m_L n) (m_K n) (m_dH n) (m_dp n) n (some (l.map refN)) (refN x) S_b.zero (refF F.f_Facts) F.f_whole (refF G'.f_Facts) G'.f_whole (FS R) = some (refF (catK F G').f_Facts,(catK F G').f_whole):=by
 have rA:(refN x).f_A = x.f_A:=rfl;rw [b_cB,rA,hxA,hlen,oBs];unfold catK;rw [hR]
 cases hw:F.f_whole with
 | true =>
  rw [cond_true]
  have hz:F.f_Facts.f_Prefix.size+G'.f_Facts.f_Prefix.size < 9000000000000000000:=by omega
  have e:=sadd_eq hz;have r1:(refF F.f_Facts).f_Prefix = F.f_Facts.f_Prefix:=rfl;have r2:(refF G'.f_Facts).f_Prefix = G'.f_Facts.f_Prefix:=rfl;rw [r1,r2,e,oBs,rcut_ok (by omega),oBs,b_cH,hno];unfold cutK;simp only [if_true,Bool.true_and]
  by_cases hc:100 < (F.f_Facts.f_Prefix ++ G'.f_Facts.f_Prefix).size
  ·rw [if_pos hc,if_pos hc,<- refS_W R];rfl
  ·rw [if_neg hc,if_neg hc,<- refS_W R];rfl
 | false =>
  rw [cond_false,b_cH,hno];unfold cutK
  have hc:¬ 100 < F.f_Facts.f_Prefix.size:=by omega
  simp only [Bool.false_and,bFt,if_false];rw [if_neg hc,<- refS_W R];rfl
theorem two_ok {x:S_c} {F G':S_a} {va vb:Int × Int} {m j n:Nat} (hn:400<=n) (h0:kd x.f_Kind = 2) (hxA:x.f_A = (m:Int)) (hxB:x.f_B = (j:Int)) (I1:TI F va) (I2:m_L n (some (l.map refN)) (m:Int) = some (refF F.f_Facts,F.f_whole)) (J1:TI G' vb) (J2:m_L n (some (l.map refN)) (j:Int) = some (refF G'.f_Facts,G'.f_whole)) (hlen:m_K n (some (l.map refN)) (m:Int) = some va) :
  m_d1 (n+1) (some (l.map refN)) (refN x) = some (refF (facA x F G').f_Facts,(facA x F G').f_whole):=by
 have rK:(refN x).f_Kind = x.f_Kind:=rfl;have rA:(refN x).f_A = x.f_A:=rfl;have rB:(refN x).f_B = x.f_B:=rfl
 have k1:x.f_Kind ≠ 1:=fun k=>by simp [kd,k] at h0
 have k2:x.f_Kind ≠ 12:=fun k=>by simp [kd,k] at h0
 have k22:x.f_Kind ≠ 2:=fun k=>by simp [kd,k] at h0
 have k89:x.f_Kind = 8 \/ x.f_Kind = 9:=by
  unfold kd at h0
  split at h0
  ·assumption
  ·split at h0 <;> omega
 obtain ⟨P,hP⟩:=I1.first
 obtain ⟨Q,hQ⟩:=J1.first
 have rP:(refF F.f_Facts).f_First = FS P:=by simp only [refF];rw [hP,refS_W]
 have rQ:(refF G'.f_Facts).f_First = FS Q:=by simp only [refF];rw [hQ,refS_W]
 simp only [m_d1,b_e5];rw [rA,hxA,I2,oBs,rB,hxB,J2,oBs];simp only;rw [rP,rQ,ror_ok P Q (by omega),oBs,rK]
 by_cases k4:x.f_Kind = 9
 ·have ef:facA x F G' = altK F G':=by unfold facA;rw [if_neg k1,if_neg k22,if_neg k2,if_neg (by omega),if_pos k4]
  rw [ct (dt k4),ef];show _ = some ((⟨refS (orS F.f_Facts.f_First G'.f_Facts.f_First),_,_,e0⟩:S_b),false);rw [hP,hQ,or_W,refS_W];rfl
 ·have k3:=k89.resolve_right k4
  have ef:facA x F G' = catK F G':=by unfold facA;rw [if_neg k1,if_neg k22,if_neg k2,if_pos k3]
  have hs1:=I1.size;have hs2:=J1.size
  have hno:decide (va.2 = 0) = F.f_none:=by
   rw [Bool.eq_iff_iff,decide_eq_true_iff];exact I1.none.symm
  have fin:=fun R hR=>two_fin (l:=l) (F:=F) (G':=G') (x:=x) (m:=m) (n:=n) (by omega) hxA hlen hno hs1 hs2 R hR;rw [cfl (df k4),ef];show (bif !F.f_Facts.f_Open then _ else _) = _
  cases ho:F.f_Facts.f_Open with
  | false =>
   rw [Bool.not_false,cond_true];exact fin P (by rw [ho,if_neg (by simp),hP])
  | true =>
   rw [Bool.not_true,cond_false];exact fin (fun j=>P j||Q j) (by rw [ho,if_pos rfl,hP,hQ,or_W])
theorem node_ok (hl:l.length<=500) (hS:∀ x∈l,SetIn x):∀ (t:Tm) (i n:Nat),Sub l i t->2*t.size+700<=n ->
  TI t.fac (t.val (0,0) lenA)/\m_L n (some (l.map refN)) (i:Int) = some (refF t.fac.f_Facts,t.fac.f_whole):=by
 intro t
 induction t with
 | leaf x=>intro i n h hn;exact node_leaf hl hS h (by simp [Tm.size] at hn;omega)
 | one x t ih =>
  intro i n h hn
  obtain ⟨n,rfl⟩:∃ m,n = m+1:=⟨n - 1,by omega⟩
  obtain ⟨hx,hf,h0,_,j,hj,hxA,hs⟩:=sub_one h;simp only [Tm.size] at hn;obtain ⟨I1,I2⟩:=ih j n hs (by omega);exact node_one hl hS hx hf h0 hxA (by omega) I1 I2
 | two x a b iha ihb =>
  intro i n h hn
  obtain ⟨n,rfl⟩:∃ m,n = m+2:=⟨n - 2,by omega⟩
  obtain ⟨hx,hf,h0,j,m,hj,hxB,hb,hm,hxA,ha⟩:=sub_two h;simp only [Tm.size] at hn;obtain ⟨I1,I2⟩:=iha m n ha (by omega);obtain ⟨J1,J2⟩:=ihb j n hb (by omega);have hi:=(lGs.1 hx).1;have mem:SetIn x:=hS _ (List.mem_iff_getElem?.2 ⟨_,hx⟩);refine ⟨ti_step mem hf I1 J1,?_⟩;have two:=two_ok (l:=l) (n:=n) (by omega) h0 hxA hxB I1 I2 J1 J2 (rlens_ok hl a m n ha (by omega));have rK:(refN x).f_Kind = x.f_Kind:=rfl;have rA:(refN x).f_A = x.f_A:=rfl;have rB:(refN x).f_B = x.f_B:=rfl
  have k1:x.f_Kind ≠ 1:=fun k=>by simp [kd,k] at h0
  have k2:x.f_Kind ≠ 12:=fun k=>by simp [kd,k] at h0
  have k22:x.f_Kind ≠ 2:=fun k=>by simp [kd,k] at h0
  have k89:x.f_Kind = 8 \/ x.f_Kind = 9:=by
   unfold kd at h0
   split at h0
   ·assumption
   ·split at h0 <;> omega
  simp only [m_L,b_c1];rw [rck hi,oBs,rnth hx,rK,cfl (df k1),cfl (df k2)];show _ = some (refF (facA x a.fac b.fac).f_Facts,(facA x a.fac b.fac).f_whole)
  by_cases k3:x.f_Kind = 8
  ·rw [ct (dt k3),dt k3,b_bA,cond_true,two,oBs]
  ·rw [cfl (df k3),dt (k89.resolve_left k3),b_bA,cond_true,two,oBs]
end
def NodeIn (s:S_c):Prop:=(InK .i64 s.f_Kind)/\(InK .i64 s.f_A)/\(InK .i64 s.f_B)/\((∀ x∈s.f_Set.f_W.l,InK .u64 x)/\True)/\(InK .i64 s.f_Min)/\(InK .i64 s.f_Max)/\(InK .i64 s.f_Mode)/\(InK .i64 s.f_N)/\(True)/\True
def TreeIn (t:Sl S_c):Prop:=∀ l,t = some l->l.length<=maxLen/\∀ y∈l,NodeIn y
theorem cutT {n:Nat} {x:Sl S_c} (hn:1<=n) (hx:TreeIn x) (m:Nat):∃ y,m_cQ n x (m:Int) = some y/\(Sl.l y).length<=m/\TreeIn y:=by
 obtain ⟨n,rfl⟩:∃ m,n = m+1:=⟨n - 1,by omega⟩
 simp only [m_cQ,b_d2,Sl.upto];rw [if_pos ⟨by simp only [Sl.len];omega,by omega⟩];refine ⟨_,rfl,?_,?_⟩
 ·cases x with
  | none=>simp [Sl.l]
  | some l=>simp [Sl.l,Sl.len];omega
 ·intro l hl
  cases x with
  | none=>cases hl
  | some l' =>
   simp at hl;subst hl;obtain ⟨h1,h2⟩:=hx l' rfl;exact ⟨by simp;omega,fun y hy=>h2 y (List.mem_of_mem_take hy)⟩
theorem pure (x0:Sl S_c) (h:TreeIn x0):∃ n,m_dX n x0 = some true:=by
 refine ⟨2002,?_⟩;simp only [m_dX,b_cU];obtain ⟨y,hy,hl,hT⟩:=cutT (n:=2001) (by omega) h 60;have hfix:m_ec 2001 = some true:=rfl;rw [show ((60:Nat):Int) = 60 from rfl] at hy;rw [hy,oBs]
 have hS:∀ x∈Sl.l y,SetIn x:=fun x hx=>by
  cases y with
  | none=>simp [Sl.l] at hx
  | some l=>exact (hT l rfl).2 x hx |>.2.2.2.1.1
 have hR:m_cR 2000 y = some (rightR (Sl.l y)):=right_eq (by omega);have hRr:m_b8 2000 (some ((Sl.l y).map refN)) = some (rightR (Sl.l y)):=rright_eq (by omega)
 have hlr:Sl.len (some ((Sl.l y).map refN)) = ((Sl.l y).length:Int):=by simp [Sl.len,Sl.l]
 have hof:m_dO 2001 y = b_dR (m_cR 2000) (m_dj 2000) 2000 y:=rfl;have hrof:m_dK 2001 (some ((Sl.l y).map refN)) = b_dM (m_b8 2000) (m_L 2000) 2000 (some ((Sl.l y).map refN)):=rfl
 have zr:refF S_e.zero = S_b.zero:=by
  show (⟨refS S_g.zero,false,false,⟨#[]⟩⟩:S_b) = _;rw [refS_zero];rfl
 by_cases he:rightR (Sl.l y) = 0
 ·
  have hf:formedR (Sl.l y) = 0:=by
   unfold rightR at he
   by_cases hf:formedR (Sl.l y) = 0
   ·exact hf
   ·rw [if_neg hf] at he;exact he
  obtain ⟨t,ht,hs,hd⟩:=formed_tree hf;obtain ⟨htl,hA⟩:=tree_some ht;have hp:=t.pos
  have hll:(Sl.l y).length = t.size:=by rw [htl,Tm.flat_len]
  have hlen:Sl.len y = (t.size:Int):=by simp only [Sl.len];omega
  obtain ⟨_,hsub⟩:=tree_sub.1 ht
  have a1:m_dO 2001 y = some (t.fac.f_Facts,0):=by
   rw [hof];simp only [b_dR];rw [hR,oBs,he,cfl (by rfl),facall_ok (by omega) (by omega) ht hS,oBs,hlen,w64 (by omega) (by omega),ck_int (by omega) (by simp [Sl.l,Tm.vals_len];omega),oBs,show ((t.size:Int) - 1).toNat = t.size - 1 by omega,nth_l (v:=t.fac) (t.vals_last _ _)]
  obtain ⟨I1,I2⟩:=node_ok (by omega) hS t ((Sl.l y).length - 1) 2000 hsub (by omega)
  have a2:m_dK 2001 (some ((Sl.l y).map refN)) = some (refF t.fac.f_Facts,0):=by
   rw [hrof];simp only [b_dM];rw [hRr,oBs,he,cfl (by rfl),hlr,w64 (by omega) (by omega),show ((Sl.l y).length:Int) - 1 = (((Sl.l y).length - 1:Nat):Int) by omega,I2,oBs]
  rw [a1,oBs,ref_ok (by omega) (by omega),oBs,a2,oBs];simp only;rw [lref_ok (by omega) I1.first,oBs,ct (by simp),hfix];rfl
 ·have a1:m_dO 2001 y = some (S_e.zero,rightR (Sl.l y)):=by
   rw [hof];simp only [b_dR];rw [hR,oBs,ct (by rw [df he];rfl)]
  have a2:m_dK 2001 (some ((Sl.l y).map refN)) = some (S_b.zero,rightR (Sl.l y)):=by
   rw [hrof];simp only [b_dM];rw [hRr,oBs,ct (by rw [df he];rfl)]
  rw [a1,oBs,ref_ok (by omega) (by omega),oBs,a2,oBs];simp only;rw [lref_ok (by omega) ⟨_,zeroW⟩,oBs,zr,ct (by simp),hfix];rfl
end Go.Proofs.YtaadjlpfdajggaaGreatDoor.factsTell
