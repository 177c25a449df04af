import Derived.Test.YtaadjlpfdajggaaGreatDoorFjAm22
set_option linter.unusedVariables false
set_option linter.unusedSimpArgs false
namespace Go.AM
open Go
def slU {α:Type} (x:Sl α) (b:Nat):List Nat :=
 match x with
 | none=>[]
 | some _=>[b]
structure Slots (nb:Nat) (hp:Hp) (bs:List Blk) (us:List Nat):Prop where
 len:us.length = bs.length
 nodup:us.Nodup
 ge:∀ x ∈ us,nb <= x
 blk:∀ (j:Nat) k,bs[j]? = some k -> ∃ cs e,k = .cells cs e /\ hp[us.getD j 0]? = some (.cells cs e) /\ ∀ x ∈ cs,flat x = true
section
variable {nb:Nat} {hp:Hp}
theorem slots_nil:Slots nb hp [] []:=⟨rfl,by simp,by simp,by simp⟩
theorem slU_len {α:Type} {x:Sl α} {b:Nat} {c:α -> List Value} {e:TypeId}:(slU x b).length = (slB c e x).length:=by cases x <;> rfl
theorem slots_cons {α:Type} {x:Sl α} {b z:Nat} {c:α -> List Value} {e:TypeId} {bs:List Blk} {us:List Nat} (hx:SlO nb hp c e x b) (hc:Enc c z) (h:Slots nb hp bs us) (hn:x ≠ none -> b ∉ us):Slots nb hp (slB c e x ++ bs) (slU x b ++ us):=by
 cases x with
 | none=>exact h
 | some l =>
  obtain ⟨h1,h2⟩:=hx l rfl;refine ⟨by simp [slU,slB,h.len],?_,?_,fun j k hk=>?_⟩
  ·simp only [slU,List.cons_append,List.nil_append,List.nodup_cons];exact ⟨hn (by simp),h.nodup⟩
  ·intro y hy;simp only [slU,List.cons_append,List.nil_append,List.mem_cons] at hy
   rcases hy with rfl | hy
   ·exact h1
   ·exact h.ge y hy
  ·cases j with
   | zero =>
    simp only [slB,List.cons_append,List.nil_append,List.getElem?_cons_zero,oIq] at hk;subst hk;refine ⟨_,_,rfl,by simpa [slU] using h2,fun v hv=>?_⟩;simp only [List.mem_flatMap] at hv;obtain ⟨a,_,hv⟩:=hv;exact hc.flat a v hv
   | succ j =>
    simp only [slB,List.cons_append,List.nil_append,List.getElem?_cons_succ] at hk;obtain ⟨cs,e',q1,q2,q3⟩:=h.blk j k hk;exact ⟨cs,e',q1,by simpa [slU] using q2,q3⟩
def Vm (nb:Nat) (us:List Nat) (u v:Value):Prop:=u = vmap (gOf nb us) (fun _=>0) (fun _ q=>q) v /\ ∀ i ∈ addrs v,i < nb + us.length
theorem vm_flat {us:List Nat} {u:Value} (h:flat u = true):Vm nb us u u :=
 ⟨(vmap_flat h).symm,fun i hi=>by rw [show addrs u = [] by simpa [flat_eq] using h] at hi; cases hi⟩
theorem vm_sl {α:Type} {x:Sl α} {b k:Nat} {pre post:List Nat} (hk:pre.length = k):Vm nb (pre ++ (slU x b ++ post)) (slV x b) (slV x (nb + k)):=by
 subst hk
 cases x with
 | none=>exact vm_flat (by simp [slV,flat_eq])
 | some l =>
  refine ⟨?_,fun i hi=>?_⟩
  ·simp only [slV,vmap_slice,gOf,Nat.not_lt_of_le (Nat.le_add_right nb pre.length),if_false,Nat.add_sub_cancel_left,slU]
   congr 3
   simp
  ·simp only [slV,addrs_slice,List.mem_singleton] at hi;subst hi;simp [slU]
inductive VmL (nb:Nat) (us:List Nat):List Value -> List Value -> Prop
 | nil:VmL nb us [] []
 | cons {u v:Value} {l m:List Value}:Vm nb us u v -> VmL nb us l m -> VmL nb us (u :: l) (v :: m)
theorem VmL.map {us:List Nat} {l m:List Value} (h:VmL nb us l m):l = m.map (vmap (gOf nb us) (fun _=>0) (fun _ q=>q)):=by
 induction h with
 | nil=>rfl
 | cons h _ ih=>rw [List.map_cons,<- h.1,<- ih]
theorem VmL.cl {us:List Nat} {l m:List Value} (h:VmL nb us l m):∀ v ∈ m,∀ i ∈ addrs v,i < nb + us.length:=by
 induction h with
 | nil=>simp
 | cons h _ ih =>
  intro v hv
  rcases List.mem_cons.1 hv with rfl | hv
  ·exact h.2
  ·exact ih v hv
theorem vm_one {us:List Nat} {l m:List Value} (h:VmL nb us l m):Vm nb us (one l) (one m):=by
 cases h with
 | nil=>exact vm_flat (by simp [one,flat_eq])
 | cons h h' =>
  cases h' with
  | nil=>exact h
  | cons h2 h3 =>
   have hl:=VmL.cons h (VmL.cons h2 h3);refine ⟨?_,fun i hi=>?_⟩
   ·simp only [one,vmap_tuple];rw [hl.map]
    simp
   ·simp only [one,addrs_tuple,List.mem_flatMap] at hi;obtain ⟨v,hv,hi⟩:=hi;exact hl.cl v (by simpa using hv) i hi
theorem ends_slots {us:List Nat} {bs:List Blk} {u v:Value} (h:Slots nb hp bs us) (hv:Vm nb us u v):Ends nb hp u v bs us where
 val:=hv.1
 len:=h.len
 nodup:=h.nodup
 ge:=h.ge
 blk:=fun j k hj=>by
  obtain ⟨cs,e,q1,q2,q3⟩:=h.blk j k hj;exact ⟨cs,e,q1,by rw [flat_map q3]; exact q2⟩
 cl:=fun i hi=>by have:=hv.2 i hi; rw [h.len] at this; exact this
 clB:=fun j cs e hj x hx i hi=>by
  obtain ⟨cs',e',q1,q2,q3⟩:=h.blk j _ hj
  injection q1 with q1 q1'
  subst q1;rw [show addrs x = [] by simpa [flat_eq] using q3 x hx] at hi; cases hi
theorem end_slots {P:Program} {rs:List ResultVar} {s:St} {e:Exit} {vs ws:List Value} {us:List Nat} {bs:List Blk} (he:e = .ret \/ e = .normal) (hr:resOf P s.env s.hp rs = some vs) (h:Slots nb s.hp bs us) (hv:VmL nb us vs ws) :
  kfun P nb rs (one ws) bs e s:=⟨he,vs,us,hr,ends_slots h (vm_one hv)⟩
end
end Go.AM
