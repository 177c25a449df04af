import Derived.Test.YtaadjlpfdajggaaGreatDoorFjAm18
set_option linter.unusedVariables false
set_option linter.unusedSimpArgs false
namespace Go.AM
open Go
structure Arr (α:Type) (n:Nat) where
 l:List α
 h:l.length = n
 deriving DecidableEq
def ck (n:Nat) (i:Int):Option Nat:=if 0 <= i /\ i < (n:Int) then some i.toNat else none
theorem ck_lt {n:Nat} {i:Int} {j:Nat} (h:ck n i = some j):j < n /\ (j:Int) = i:=by
 unfold ck at h
 split at h
 ·injection h with h; omega
 ·cases h
section
variable {α:Type} {n:Nat}
def Arr.rep (n:Nat) (a:α):Arr α n:=⟨List.replicate n a,by simp⟩
def Arr.nth [Inhabited α] (a:Arr α n) (j:Nat):α:=a.l.getD j default
def Arr.put (a:Arr α n) (j:Nat) (v:α):Arr α n:=⟨a.l.set j v,by rw [List.length_set,a.h]⟩
instance [Inhabited α]:Inhabited (Arr α n):=⟨Arr.rep n default⟩
abbrev Sl (α:Type):=Option (List α)
def Sl.l:Sl α -> List α
 | none=>[]
 | some l=>l
def Sl.len (x:Sl α):Int:=(Sl.l x).length
def Sl.nth [Inhabited α] (x:Sl α) (j:Nat):α:=(Sl.l x).getD j default
def Sl.put (x:Sl α) (j:Nat) (v:α):Sl α:=x.map fun l=>l.set j v
def Sl.app (z:Nat) (x y:Sl α):Option (Sl α) :=
 if (Sl.l y).length = 0 then some x else if ((Sl.l x).length + (Sl.l y).length) * z <= roomMost then some (some (Sl.l x ++ Sl.l y)) else none
def Sl.upto (x:Sl α) (h:Int):Option (Sl α):=if 0 <= h /\ h <= Sl.len x then some (x.map fun l=>l.take h.toNat) else none
def Sl.make (z:Nat) (n m:Int) (a:α):Option (Sl α):=if 0 <= n /\ n <= m /\ z * m <= roomMost /\ m <= roomMost then some (some (List.replicate n.toNat a)) else none
end
def vAgg (c:List Value):Value:=.agg c.toArray
def Seg (cs:List Value) (off:Nat) (c:List Value):Prop:=(cs.drop off).take c.length = c /\ off + c.length <= cs.length
theorem Seg.refl {cs:List Value}:Seg cs 0 cs:=⟨by simp,by simp⟩
theorem Seg.sub {cs c d:List Value} {off o:Nat} (h:Seg cs off c) (h':Seg c o d):Seg cs (off + o) d:=by
 obtain ⟨h1,h2⟩:=h;obtain ⟨h3,h4⟩:=h';refine ⟨?_,by omega⟩
 have:(c.drop o).take d.length = (cs.drop (off + o)).take d.length:=by
  conv=>lhs; rw [<- h1]
  rw [List.drop_take,List.drop_drop,List.take_take]
  congr 1
  omega
 rw [<- this]; exact h3
theorem seg_mid {p c q:List Value} {off:Nat} (h:p.length = off):Seg (p ++ (c ++ q)) off c:=by
 subst h;exact ⟨by simp,by simp⟩
theorem seg_end {p c:List Value} {off:Nat} (h:p.length = off):Seg (p ++ c) off c:=by
 subst h;exact ⟨by simp,by simp⟩
theorem seg_begin {c q:List Value}:Seg (c ++ q) 0 c:=⟨by simp,by simp⟩
theorem flatMap_len {α:Type} {c:α -> List Value} {z:Nat} (hz:∀ a,(c a).length = z):∀ l:List α,(l.flatMap c).length = l.length * z
 | []=>by simp
 | a :: l=>by rw [List.flatMap_cons,lLa,hz,flatMap_len hz l,List.length_cons,Nat.succ_mul,Nat.add_comm]
theorem seg_el {α:Type} [Inhabited α] {c:α -> List Value} {z:Nat} (hz:∀ a,(c a).length = z):∀ (l:List α) (j:Nat) (more:List Value),j < l.length -> Seg (l.flatMap c ++ more) (j * z) (c (l.getD j default))
 | [],j,more,h=>by simp at h
 | a :: l,0,more,h=>by
  simp only [List.flatMap_cons,Nat.zero_mul,List.getD_cons_zero,lAs];exact seg_begin
 | a :: l,j + 1,more,h=>by
  simp only [List.flatMap_cons,List.getD_cons_succ,lAs];have ih:=seg_el hz l j more (by simpa using h);have h1:Seg (c a ++ (l.flatMap c ++ more)) z (l.flatMap c ++ more):=seg_end (hz a)
  have:=h1.sub ih
  rwa [show z + j * z = (j + 1) * z by rw [Nat.succ_mul,Nat.add_comm]] at this
theorem seg_arr {α:Type} [Inhabited α] {c:α -> List Value} {z n:Nat} (hz:∀ a,(c a).length = z) {a:Arr α n} {j:Nat} (h:j < n):Seg (a.l.flatMap c) (j * z) (c (a.nth j)):=by
 have:=seg_el hz a.l j [] (by rw [a.h]; exact h)
 rwa [List.append_nil] at this
theorem wrs_len {cs d:List Value} {o:Nat} (h:o + d.length <= cs.length):(wrs cs o d).length = cs.length:=by
 simp [wrs]; omega
theorem wrs_in {cs c d:List Value} {off o:Nat} (h:Seg cs off c) (hd:o + d.length <= c.length):wrs cs (off + o) d = wrs cs off (wrs c o d):=by
 obtain ⟨h1,h2⟩:=h;have hl:=wrs_len hd
 have e1:cs.take (off + o) = cs.take off ++ c.take o:=by
  conv=>rhs; rw [<- h1]
  rw [List.take_take,Nat.min_eq_left (by omega),List.take_add]
 have e2:c.drop (o + d.length) ++ cs.drop (off + c.length) = cs.drop (off + (o + d.length)):=by
  conv=>lhs; rw [<- h1]
  rw [List.drop_take,List.drop_drop]
  have h3:cs.drop (off + c.length) = (cs.drop (off + (o + d.length))).drop (c.length - (o + d.length)):=by
   rw [List.drop_drop]; congr 1; omega
  rw [show (List.take c.length (cs.drop off)).length = c.length by rw [h1]] at *
  rw [h3,List.take_append_drop]
 unfold wrs;unfold wrs at hl;rw [hl,e1,show off + o + d.length = off + (o + d.length) by omega,<- e2];simp only [lAs]
theorem wrs_mid {p c q d:List Value} {off:Nat} (h:p.length = off) (hd:d.length = c.length):wrs (p ++ (c ++ q)) off d = p ++ (d ++ q):=by
 subst h;simp [wrs,hd,List.drop_append]
theorem wrs_end {p c d:List Value} {off:Nat} (h:p.length = off) (hd:d.length = c.length):wrs (p ++ c) off d = p ++ d:=by
 subst h;simp [wrs,hd,List.drop_append]
theorem wrs_begin {c q d:List Value} (hd:d.length = c.length):wrs (c ++ q) 0 d = d ++ q:=by simp [wrs,hd]
theorem wrs_all {c d:List Value} (hd:d.length = c.length):wrs c 0 d = d:=by simp [wrs,hd]
theorem wrs_el {α:Type} {c:α -> List Value} {z:Nat} (hz:∀ a,(c a).length = z) (v:α):∀ (l:List α) (j:Nat) (more:List Value),j < l.length -> wrs (l.flatMap c ++ more) (j * z) (c v) = (l.set j v).flatMap c ++ more
 | [],j,more,h=>by simp at h
 | a :: l,0,more,h=>by
  simp only [List.flatMap_cons,Nat.zero_mul,List.set_cons_zero,lAs];exact wrs_begin (by rw [hz,hz])
 | a :: l,j + 1,more,h=>by
  simp only [List.flatMap_cons,List.set_cons_succ,lAs]
  have hj:j < l.length:=by simpa using h
  rw [<- wrs_el hz v l j more hj];have h1:Seg (c a ++ (l.flatMap c ++ more)) z (l.flatMap c ++ more):=seg_end (hz a)
  have hlen:j * z + (c v).length <= (l.flatMap c ++ more).length:=by
   have:(j + 1) * z <= l.length * z:=Nat.mul_le_mul_right z hj
   rw [Nat.succ_mul] at this;rw [lLa,flatMap_len hz,hz]; omega
  rw [show (j + 1) * z = z + j * z by rw [Nat.succ_mul,Nat.add_comm],wrs_in h1 hlen,wrs_end (hz a) (wrs_len hlen)]
theorem wrs_arr {α:Type} {c:α -> List Value} {z n:Nat} (hz:∀ a,(c a).length = z) {a:Arr α n} {j:Nat} {v:α} (h:j < n):wrs (a.l.flatMap c) (j * z) (c v) = (a.put j v).l.flatMap c:=by
 have:=wrs_el hz v a.l j [] (by rw [a.h]; exact h)
 rwa [List.append_nil,List.append_nil] at this
structure Iv (r:Nat) (X:List Nat) (H0 H:Hp):Prop where
 le:r <= H.length
 old:∀ (b:Nat),b < r -> b ∉ X -> H[b]? = H0[b]?
def Ex (H H':Hp):Prop:=∀ (b:Nat) (k:Blk),H[b]? = some k -> H'[b]? = some k
structure Up (b:Nat) (H H':Hp):Prop where
 len:H'.length = H.length
 get:∀ (x:Nat),x ≠ b -> H'[x]? = H[x]?
def Mv (p:Prop) (b:Nat) (H H':Hp):Prop:=H.length <= H'.length /\ ∀ (x:Nat) (k:Blk),(p -> x ≠ b) -> H[x]? = some k -> H'[x]? = some k
theorem get_lt {H:Hp} {b:Nat} {k:Blk} (h:H[b]? = some k):b < H.length:=(lGs.1 h).1
theorem ex_app {H:Hp} {bs:List Blk}:Ex H (H ++ bs):=fun b k h=>by rw [lGl (get_lt h)]; exact h
theorem Ex.trans {H H' H'':Hp} (h:Ex H H') (h':Ex H' H''):Ex H H'':=fun b k hk=>h' b k (h b k hk)
theorem iv_refl {X:List Nat} {H:Hp}:Iv H.length X H H:=⟨Nat.le_refl _,fun _ _ _=>rfl⟩
theorem Iv.app {r:Nat} {X:List Nat} {H0 H:Hp} {bs:List Blk} (h:Iv r X H0 H):Iv r X H0 (H ++ bs) :=
 ⟨by have:=h.le; simp; omega,fun b hb hx=>by rw [lGl (by have:=h.le; omega)]; exact h.old b hb hx⟩
theorem Iv.up {r b:Nat} {X:List Nat} {H0 H H':Hp} (h:Iv r X H0 H) (hu:Up b H H') (hb:r <= b):Iv r X H0 H' :=
 ⟨by have:=h.le; rw [hu.len]; exact this,fun x hx hX=>by rw [hu.get x (by omega)]; exact h.old x hx hX⟩
def rdb:Blk -> Option (List Value × TypeId)
 | .cells cs e=>some (cs,e)
 | .view cs e=>some (cs,e)
 | _=>none
def Rb (H:Hp) (b:Nat) (cs:List Value) (e:TypeId):Prop:=(H[b]?).bind rdb = some (cs,e)
theorem Rb.cells {H:Hp} {b:Nat} {cs:List Value} {e:TypeId} (h:H[b]? = some (.cells cs e)):Rb H b cs e:=by unfold Rb; rw [h]; rfl
theorem Rb.view {H:Hp} {b:Nat} {cs:List Value} {e:TypeId} (h:H[b]? = some (.view cs e)):Rb H b cs e:=by unfold Rb; rw [h]; rfl
theorem Rb.eq {H:Hp} {b:Nat} {cs:List Value} {e:TypeId} (h:Rb H b cs e):H[b]? = some (.cells cs e) \/ H[b]? = some (.view cs e):=by
 unfold Rb at h
 cases hk:H[b]? with
 | none=>simp [hk] at h
 | some k =>
  cases k <;> simp only [hk,oBs,rdb,oIq,pIq,reduceCtorEq] at h
  ·obtain ⟨rfl,rfl⟩:=h; exact .inl rfl
  ·obtain ⟨rfl,rfl⟩:=h; exact .inr rfl
theorem Rb.lt {H:Hp} {b:Nat} {cs:List Value} {e:TypeId} (h:Rb H b cs e):b < H.length:=by
 rcases h.eq with h | h <;> exact get_lt h
theorem Rb.to {H H':Hp} {b:Nat} {cs:List Value} {e:TypeId} (h:Rb H b cs e) (hh:H'[b]? = H[b]?):Rb H' b cs e:=by unfold Rb; rw [hh]; exact h
theorem Rb.ex {H H':Hp} {b:Nat} {cs:List Value} {e:TypeId} (h:Rb H b cs e) (p:Ex H H'):Rb H' b cs e:=by
 rcases h.eq with h | h
 ·exact .cells (p _ _ h)
 ·exact .view (p _ _ h)
def SlH {α:Type} (H:Hp) (c:α -> List Value) (e:TypeId) (x:Sl α) (b:Nat):Prop:=∀ l,x = some l -> ∃ more,Rb H b (l.flatMap c ++ more) e
def SlO {α:Type} (r:Nat) (H:Hp) (c:α -> List Value) (e:TypeId) (x:Sl α) (b:Nat):Prop:=∀ l,x = some l -> r <= b /\ H[b]? = some (.cells (l.flatMap c) e)
def slV {α:Type} (x:Sl α) (b:Nat):Value :=
 match x with
 | none=>.slice none 0 0
 | some l=>.slice (some ⟨b,0,none⟩) l.length 0
def slB {α:Type} (c:α -> List Value) (e:TypeId) (x:Sl α):List Blk :=
 match x with
 | none=>[]
 | some l=>[.cells (l.flatMap c) e]
section
variable {α:Type} {r b b':Nat} {H H' H0:Hp} {c:α -> List Value} {e:TypeId} {x y:Sl α}
theorem SlO.h (h:SlO r H c e x b):SlH H c e x b:=fun l hl=>⟨[],by rw [List.append_nil]; exact .cells (h l hl).2⟩
theorem SlH.ex (h:SlH H c e x b) (p:Ex H H'):SlH H' c e x b:=fun l hl=>by obtain ⟨more,hk⟩:=h l hl; exact ⟨more,hk.ex p⟩
theorem SlO.ex (h:SlO r H c e x b) (p:Ex H H'):SlO r H' c e x b:=fun l hl=>⟨(h l hl).1,p _ _ (h l hl).2⟩
theorem SlH.up (h:SlH H c e x b) (p:Up b' H H') (hn:x ≠ none -> b ≠ b'):SlH H' c e x b:=fun l hl=>by
 obtain ⟨more,hk⟩:=h l hl; exact ⟨more,hk.to (p.get b (hn (by simp [hl])))⟩
theorem SlO.up (h:SlO r H c e x b) (p:Up b' H H') (hn:x ≠ none -> b ≠ b'):SlO r H' c e x b:=fun l hl=>⟨(h l hl).1,by rw [p.get b (hn (by simp [hl]))]; exact (h l hl).2⟩
theorem SlO.mv {β:Type} {y:Sl β} (h:SlO r H c e x b) (p:Mv (y ≠ none) b' H H') (hn:x ≠ none -> y ≠ none -> b ≠ b'):SlO r H' c e x b:=fun l hl=>⟨(h l hl).1,p.2 _ _ (hn (by simp [hl])) (h l hl).2⟩
theorem SlH.lt (h:SlH H c e x b):x ≠ none -> b < H.length:=fun hx=>by
 cases x with
 | none=>exact absurd rfl hx
 | some l=>obtain ⟨more,hk⟩:=h l rfl; exact hk.lt
theorem SlH.ne (h:SlH H c e x b) (hb:b' = H.length):x ≠ none -> b ≠ b':=fun hx=>by have:=h.lt hx; omega
theorem SlH.iv {X:List Nat} (h:SlH H0 c e x b) (hl:x ≠ none -> b < r) (hX:x ≠ none -> b ∉ X) (p:Iv r X H0 H):SlH H c e x b:=fun l hx=>by
 obtain ⟨more,hk⟩:=h l hx; exact ⟨more,hk.to (p.old b (hl (by simp [hx])) (hX (by simp [hx])))⟩
theorem slB_own (hr:r <= H.length):SlO r (H ++ slB c e x) c e x H.length:=fun l hl=>by
 subst hl; exact ⟨hr,by simp [slB]⟩
theorem slV_inj {x':Sl α} (h:slV x b = slV x' b') (hc:∀ a a',c a = c a' -> a = a') {z:Nat} (hz:∀ a,(c a).length = z) (h1:SlH H c e x b) (h2:SlH H c e x' b'):x = x':=by
 cases x with
 | none=>cases x' with
  | none=>rfl
  | some l=>simp [slV] at h
 | some l=>cases x' with
  | none=>simp [slV] at h
  | some l' =>
   simp only [slV,Value.slice.injEq,oIq,Addr.mk.injEq,and_true] at h;obtain ⟨m1,k1⟩:=h1 l rfl;obtain ⟨m2,k2⟩:=h2 l' rfl;rw [h.1] at k1;have k1:=k2.symm.trans k1
   injection k1 with k1
   injection k1 with k1
   have key:∀ (l l':List α),l.length = l'.length -> l.flatMap c ++ m1 = l'.flatMap c ++ m2 -> l = l':=fun l=>by
    induction l with
    | nil=>intro l' hl _; cases l' with
     | nil=>rfl
     | cons=>simp at hl
    | cons a l ih=>intro l' hl hk; cases l' with
     | nil=>simp at hl
     | cons a' l' =>
      simp only [List.flatMap_cons,lAs] at hk
      have:=List.append_inj hk (by rw [hz,hz])
      rw [hc _ _ this.1,ih l' (by simpa using hl) this.2]
   rw [key l l' h.2 k1.symm]
end
end Go.AM
