import Derived.Test.YtaadjlpfdajggaaGreatDoorFjAm1
set_option linter.unusedVariables false
set_option linter.unusedSimpArgs false
namespace Go.AM
open Go
structure Rho where
 blk:Nat -> Nat
 cap:Nat -> Nat
 off:Nat -> Nat:=fun _=>0
def Rho.val (ρ:Rho):Value -> Value:=vmap ρ.blk ρ.off (fun b q=>ρ.cap b - q)
def Rho.set (ρ:Rho) (b B C:Nat):Rho:=⟨fun x=>if x = b then B else ρ.blk x,fun x=>if x = b then C else ρ.cap x,fun x=>if x = b then 0 else ρ.off x⟩
def Cl (D:Nat -> Prop) (v:Value):Prop:=∀ b ∈ addrs v,D b
def Agree (D:Nat -> Prop) (ρ ρ':Rho):Prop:=∀ b,D b -> ρ'.blk b = ρ.blk b /\ ρ'.cap b = ρ.cap b /\ ρ'.off b = ρ.off b
theorem Agree.refl (D:Nat -> Prop) (ρ:Rho):Agree D ρ ρ:=fun _ _=>⟨rfl,rfl,rfl⟩
theorem Agree.trans {D E:Nat -> Prop} {ρ ρ' ρ'':Rho} (h:Agree D ρ ρ') (h':Agree E ρ' ρ'') (hs:∀ b,D b -> E b):Agree D ρ ρ'' :=
 fun b hb=>⟨((h' b (hs b hb)).1).trans (h b hb).1,((h' b (hs b hb)).2.1).trans (h b hb).2.1,((h' b (hs b hb)).2.2).trans (h b hb).2.2⟩
theorem Agree.val {D:Nat -> Prop} {ρ ρ':Rho} (h:Agree D ρ ρ') {v:Value} (hv:Cl D v):ρ'.val v = ρ.val v :=
 vmap_congr fun b hb=>⟨(h b (hv b hb)).1,(h b (hv b hb)).2.2,fun q=>by rw [(h b (hv b hb)).2.1]⟩
theorem Agree.map {D:Nat -> Prop} {ρ ρ':Rho} (h:Agree D ρ ρ') {l:List Value} (hl:∀ v ∈ l,Cl D v):l.map ρ'.val = l.map ρ.val :=
 List.map_congr_left fun v hv=>h.val (hl v hv)
theorem Agree.set {D:Nat -> Prop} {ρ:Rho} {b B C:Nat} (h:¬ D b):Agree D ρ (ρ.set b B C):=fun x hx=>by
 have:x ≠ b:=fun e=>h (e ▸ hx)
 simp [Rho.set,this]
theorem Cl.mono {D D':Nat -> Prop} {v:Value} (h:Cl D v) (hs:∀ b,D b -> D' b):Cl D' v:=fun b hb=>hs b (h b hb)
theorem Cl.flat {D:Nat -> Prop} {v:Value} (h:flat v = true):Cl D v:=by
 have:addrs v = []:=by simpa [flat_eq] using h
 intro b hb; rw [this] at hb; cases hb
theorem Rho.val_flat {ρ:Rho} {v:Value} (h:flat v = true):ρ.val v = v:=vmap_flat h
@[simp] theorem Rho.val_oneB {ρ:Rho} {v:Value}:oneB (ρ.val v) = oneB v:=vmap_oneB v
@[simp] theorem Rho.val_cells {ρ:Rho} {v:Value}:(ρ.val v).cells = v.cells.map ρ.val:=vmap_cells v
@[simp] theorem Rho.set_blk {ρ:Rho} {b B C:Nat}:(ρ.set b B C).blk b = B:=by simp [Rho.set]
@[simp] theorem Rho.set_cap {ρ:Rho} {b B C:Nat}:(ρ.set b B C).cap b = C:=by simp [Rho.set]
@[simp] theorem Rho.set_off {ρ:Rho} {b B C:Nat}:(ρ.set b B C).off b = 0:=by simp [Rho.set]
def free (fr:Nat × Nat) (n:Nat):Prop:=fr.2 <= fr.1 \/ n <= fr.1
def BlkOk (P:Program) (ρ:Rho) (D:Nat -> Prop) (w:World) (b:Nat):Blk -> Prop
 | .cells cs e=>(∃ rest fr z,w.heap[ρ.blk b]? = some (.cells (cs.map ρ.val ++ rest).toArray e fr) /\ free fr (cs.length + rest.length) /\
   szO P e = some z /\ cs.length + rest.length = ρ.cap b * z /\ ρ.off b = 0) /\ ∀ v ∈ cs,Cl D v /\ oneB v = true
 | .iter s pos=>w.heap[ρ.blk b]? = some (.stringIter s pos) /\ ρ.off b = 0
 | .tab cs=>((∃ o,w.heap[ρ.blk b]? = some o) /\ ρ.off b = 0) /\ ∀ (i:Nat) v,cs[i]? = some v -> w.cell? ⟨ρ.blk b,i,none⟩ = some v /\ flat v = true
 | .view cs e=>((∃ o,w.heap[ρ.blk b]? = some o) /\ ∃ z,szO P e = some z /\ cs.length <= ρ.cap b * z) /\ ∀ (i:Nat) v,cs[i]? = some v -> w.cell? ⟨ρ.blk b,i + ρ.off b,none⟩ = some v /\ flat v = true /\ oneB v = true
 | .dead=>True
theorem BlkOk.mono {P:Program} {ρ ρ':Rho} {D D':Nat -> Prop} {w w':World} {b:Nat} {k:Blk} (h:BlkOk P ρ D w b k) (hb:D b) (ha:Agree D ρ ρ')
  (hs:∀ b,D b -> D' b) (hw:k ≠ .dead -> w'.heap[ρ.blk b]? = w.heap[ρ.blk b]?):BlkOk P ρ' D' w' b k:=by
 cases k with
 | cells cs e =>
  obtain ⟨⟨rest,fr,z,h1,h2,h3,h4⟩,h5⟩:=h;refine ⟨⟨rest,fr,z,?_,h2,h3,?_⟩,fun v hv=>⟨(h5 v hv).1.mono hs,(h5 v hv).2⟩⟩
  ·rw [(ha b hb).1,hw (by simp),h1,ha.map fun v hv=>(h5 v hv).1]
  ·rw [(ha b hb).2.1,(ha b hb).2.2]; exact h4
 | iter s pos=>simp only [BlkOk] at h ⊢; rw [(ha b hb).1,(ha b hb).2.2,hw (by simp)]; exact h
 | tab cs =>
  simp only [BlkOk] at h ⊢;rw [(ha b hb).1,(ha b hb).2.2];refine ⟨by rw [hw (by simp)]; exact h.1,fun i v hv=>⟨?_,(h.2 i v hv).2⟩⟩;rw [<- (h.2 i v hv).1];simp only [World.cell?,hw (show Blk.tab cs ≠ .dead by simp)]
 | view cs e =>
  simp only [BlkOk] at h ⊢;rw [(ha b hb).1,(ha b hb).2.1,(ha b hb).2.2];refine ⟨by rw [hw (by simp)]; exact h.1,fun i v hv=>⟨?_,(h.2 i v hv).2⟩⟩;rw [<- (h.2 i v hv).1];simp only [World.cell?,hw (show Blk.view cs e ≠ .dead by simp)]
 | dead=>trivial
def live (H:Hp) (b:Nat):Prop:=∃ k,H[b]? = some k /\ k ≠ .dead
def Blk.isW:Blk -> Bool
 | .cells _ _=>true
 | .iter _ _=>true
 | _=>false
def wk (H:Hp) (b:Nat):Prop:=∃ k,H[b]? = some k /\ k.isW = true
theorem wk.to {H H':Hp} {b:Nat} (h:wk H b) (hh:H'[b]? = H[b]?):wk H' b:=by obtain ⟨k,hk,hw⟩:=h; exact ⟨k,hh.trans hk,hw⟩
theorem wk.set {H:Hp} {b c:Nat} {k x:Blk} (h:wk (H.set b x) c) (hk:H[b]? = some k) (hw:k.isW = true):wk H c:=by
 obtain ⟨k',hk',hw'⟩:=h
 by_cases e:c = b
 ·subst e; exact ⟨k,hk,hw⟩
 ·exact ⟨k',by rwa [List.getElem?_set_ne (Ne.symm e)] at hk',hw'⟩
theorem wk.kill {H:Hp} {b c:Nat} (h:wk (H.set b .dead) c):wk H c:=by
 obtain ⟨k',hk',hw'⟩:=h
 by_cases e:c = b
 ·subst e;have hl:=(lGs.1 hk').1;simp at hl;simp [hl] at hk'; subst hk'; cases hw'
 ·exact ⟨k',by rwa [List.getElem?_set_ne (Ne.symm e)] at hk',hw'⟩
theorem Blk.isW.live {k:Blk} (h:k.isW = true):k ≠ .dead:=fun e=>by subst e; cases h
structure Old where
 at_:Nat -> Option Obj
 os:Os
 out:Array (Nat × ByteArray)
 tape:Nat -> Question -> Nat
 drawn:Nat
def Old.of (w:World):Old:=⟨fun B=>w.heap[B]?,w.os,w.output,w.tape,w.drawn⟩
def Same (w w':World):Prop:=w'.os = w.os /\ w'.output = w.output /\ w'.tape = w.tape /\ w.drawn <= w'.drawn
def Io (w:World) (W0:Old):Prop:=w.os = W0.os /\ w.output = W0.out /\ w.tape = W0.tape /\ W0.drawn <= w.drawn
theorem Io.of (w:World):Io w (Old.of w):=⟨rfl,rfl,rfl,Nat.le_refl _⟩
theorem Io.next {w w':World} {W0:Old} (h:Io w W0) (hs:Same w w'):Io w' W0:=⟨hs.1.trans h.1,hs.2.1.trans h.2.1,hs.2.2.1.trans h.2.2.1,nLt h.2.2.2 hs.2.2.2⟩
theorem Io.trans {w w':World} {W0:Old} (h:Io w W0) (h':Io w' (Old.of w)):Io w' W0:=⟨h'.1.trans h.1,h'.2.1.trans h.2.1,h'.2.2.1.trans h.2.2.1,nLt h.2.2.2 h'.2.2.2⟩
structure HOk (P:Program) (ρ:Rho) (D:Nat -> Prop) (H:Hp) (w:World) (ro:Nat) (N:Nat -> Prop) (W0:Old):Prop where
 blk:∀ b,D b -> ∃ k,H[b]? = some k /\ BlkOk P ρ D w b k
 inj:∀ b c,D b -> D c -> live H b -> live H c -> b ≠ c -> (wk H b \/ wk H c) -> ρ.blk b ≠ ρ.blk c
 fresh:∀ b,D b -> ro <= b -> live H b -> ¬ N (ρ.blk b)
 base:∀ B,N B -> w.heap[B]? = W0.at_ B
 top:∀ B,N B -> B < w.heap.size
 io:Io w W0
section
variable {P:Program} {ρ ρ':Rho} {D D':Nat -> Prop} {H H':Hp} {w w':World} {ro:Nat} {N:Nat -> Prop} {W0:Old}
theorem HOk.lt (h:HOk P ρ D H w ro N W0) {b:Nat} (hb:D b):b < H.length:=by
 obtain ⟨k,hk,_⟩:=h.blk b hb;exact (lGs.1 hk).1
theorem HOk.at_ (h:HOk P ρ D H w ro N W0) {b:Nat} (hb:D b) {k:Blk} (hk:H[b]? = some k):BlkOk P ρ D w b k:=by
 obtain ⟨k',hk',h'⟩:=h.blk b hb
 rw [hk] at hk'; injection hk' with e; exact e ▸ h'
theorem BlkOk.lt {b:Nat} {k:Blk} (h:BlkOk P ρ D w b k) (hk:k ≠ .dead):ρ.blk b < w.heap.size:=by
 cases k with
 | cells cs e=>obtain ⟨⟨rest,fr,z,h1,_⟩,_⟩:=h; exact (Array.getElem?_eq_some_iff.1 h1).1
 | iter s pos=>exact (Array.getElem?_eq_some_iff.1 h.1).1
 | tab cs=>obtain ⟨o,ho⟩:=h.1.1; exact (Array.getElem?_eq_some_iff.1 ho).1
 | view cs e=>obtain ⟨o,ho⟩:=h.1.1; exact (Array.getElem?_eq_some_iff.1 ho).1
 | dead=>exact absurd rfl hk
theorem HOk.world (h:HOk P ρ D H w ro N W0) (hw:w'.heap = w.heap) (hio:Same w w':=by exact ⟨rfl,rfl,rfl,by first | exact Nat.le_refl _ | exact Nat.le_succ _ | exact Nat.le_add_right _ _⟩):HOk P ρ D H w' ro N W0 where
 blk b hb:=by
  obtain ⟨k,hk,h'⟩:=h.blk b hb;exact ⟨k,hk,h'.mono hb (.refl _ _) (fun _ h=>h) (fun _=>by rw [hw])⟩
 inj:=h.inj
 fresh:=h.fresh
 base B hB:=by rw [hw]; exact h.base B hB
 top B hB:=by rw [hw]; exact h.top B hB
 io:=h.io.next hio
def Dn (D:Nat -> Prop) (n m:Nat):Nat -> Prop:=fun b=>D b \/ (n <= b /\ b < m)
theorem Dn_sub {n m:Nat}:∀ b,D b -> Dn D n m b:=fun _ h=>.inl h
theorem Dn_self {n:Nat} {b:Nat} (h:Dn D n n b):D b:=by
 rcases h with h | ⟨h1,h2⟩
 ·exact h
 ·omega
theorem Dn_eq {n:Nat}:Dn D n n = D:=by
 funext b; exact propext ⟨Dn_self,.inl⟩
theorem HOk.grow (h:HOk P ρ D H w ro N W0) (x:Blk) (o:Obj) (C:Nat) (hold:∀ B,B < w.heap.size -> w'.heap[B]? = w.heap[B]?)
  (hnew:w'.heap[w.heap.size]? = some o) (hsz:w.heap.size <= w'.heap.size)
  (hx:∀ ρ',(ρ'.blk H.length = w.heap.size) -> ρ'.cap H.length = C -> ρ'.off H.length = 0 -> Agree D ρ ρ' -> BlkOk P ρ' (Dn D H.length (H.length + 1)) w' H.length x) (hio:Same w w':=by exact ⟨rfl,rfl,rfl,by first | exact Nat.le_refl _ | exact Nat.le_succ _ | exact Nat.le_add_right _ _⟩) :
  HOk P (ρ.set H.length w.heap.size C) (Dn D H.length (H ++ [x]).length) (H ++ [x]) w' ro N W0 /\ Agree D ρ (ρ.set H.length w.heap.size C):=by
 have hnD:¬ D H.length:=fun hd=>Nat.lt_irrefl _ (h.lt hd);have ha:Agree D ρ (ρ.set H.length w.heap.size C):=Agree.set hnD;simp only [lLa,List.length_cons,List.length_nil,Nat.zero_add]
 have hcase:∀ b,Dn D H.length (H.length + 1) b -> D b \/ b = H.length:=fun b hb=>by
  rcases hb with hb | hb
  ·exact .inl hb
  ·exact .inr (by omega)
 refine ⟨⟨fun b hb=>?_,fun b c hb hc hlb hlc hne hwk=>?_,fun b hb hr hl=>?_,fun B hB=>?_,fun B hB=>?_,h.io.next hio⟩,ha⟩
 ·rcases hcase b hb with hd | rfl
  ·obtain ⟨k,hk,hok⟩:=h.blk b hd;refine ⟨k,by rw [lGl (h.lt hd)]; exact hk,hok.mono hd ha Dn_sub fun hkd=>hold _ (hok.lt hkd)⟩
  ·exact ⟨x,by simp,hx _ (by simp) (by simp) (by simp) ha⟩
 ·have old:∀ b,D b -> live (H ++ [x]) b -> live H b:=fun b hd ⟨k,hk,hkd⟩=>⟨k,by rwa [lGl (h.lt hd)] at hk,hkd⟩
  have lt':∀ b,D b -> live H b -> ρ.blk b < w.heap.size:=fun b hd ⟨k,hk,hkd⟩=>(h.at_ hd hk).lt hkd
  rcases hcase b hb with hd | rfl <;> rcases hcase c hc with hd' | rfl
  ·rw [(ha b hd).1,(ha c hd').1]; exact h.inj b c hd hd' (old b hd hlb) (old c hd' hlc) hne (hwk.imp (fun h'=>h'.to (lGl (h.lt hd)).symm) fun h'=>h'.to (lGl (h.lt hd')).symm)
  ·rw [(ha b hd).1]; simp; exact Nat.ne_of_lt (lt' b hd (old b hd hlb))
  ·rw [(ha c hd').1]; simp; exact Nat.ne_of_gt (lt' c hd' (old c hd' hlc))
  ·exact absurd rfl hne
 ·rcases hcase b hb with hd | rfl
  ·rw [(ha b hd).1]; exact h.fresh b hd hr (by obtain ⟨k,hk,hkd⟩:=hl; exact ⟨k,by rwa [lGl (h.lt hd)] at hk,hkd⟩)
  ·simp only [Rho.set_blk]; exact fun hN=>Nat.lt_irrefl _ (h.top _ hN)
 ·rw [hold B (h.top B hB)]; exact h.base B hB
 ·exact Nat.lt_of_lt_of_le (h.top B hB) hsz
theorem alloc_old {o:Obj} (B:Nat) (hB:B < w.heap.size):(w.alloc o).heap[B]? = w.heap[B]?:=by
 simp only [World.alloc,Array.getElem?_push,Nat.ne_of_lt hB,if_false]
theorem alloc_new {o:Obj}:(w.alloc o).heap[w.heap.size]? = some o:=by simp only [World.alloc,Array.getElem?_push,if_true]
theorem HOk.allocCells (h:HOk P ρ D H w ro N W0) (cs rest:List Value) (e z C:Nat) (fr:Nat × Nat) (hold:∀ B,B < w.heap.size -> w'.heap[B]? = w.heap[B]?)
  (hnew:w'.heap[w.heap.size]? = some (.cells (cs.map ρ.val ++ rest).toArray e fr)) (hsz:w.heap.size <= w'.heap.size) (hf:free fr (cs.length + rest.length))
  (hz:szO P e = some z) (hC:cs.length + rest.length = C * z) (hcs:∀ v ∈ cs,Cl D v /\ oneB v = true) (hio:Same w w':=by exact ⟨rfl,rfl,rfl,by first | exact Nat.le_refl _ | exact Nat.le_succ _ | exact Nat.le_add_right _ _⟩) :
  HOk P (ρ.set H.length w.heap.size C) (Dn D H.length (H ++ [Blk.cells cs e]).length) (H ++ [Blk.cells cs e]) w' ro N W0 /\ Agree D ρ (ρ.set H.length w.heap.size C) :=
 h.grow (.cells cs e) _ C hold hnew hsz (hio:=hio) fun ρ' hB hC' h0 ha=>⟨⟨rest,fr,z,by rw [hB,hnew,ha.map fun v hv=>(hcs v hv).1],hf,hz,by rw [hC',hC],h0⟩,
  fun v hv=>⟨(hcs v hv).1.mono Dn_sub,(hcs v hv).2⟩⟩
theorem HOk.set (h:HOk P ρ D H w ro N W0) {b:Nat} {k x:Blk} (hb:D b) (hr:ro <= b) (hk:H[b]? = some k) (hkw:k.isW = true)
  (hsz:w'.heap.size = w.heap.size) (hother:∀ B,B ≠ ρ.blk b -> w'.heap[B]? = w.heap[B]?) (hx:BlkOk P ρ D w' b x) (hio:Same w w':=by exact ⟨rfl,rfl,rfl,by first | exact Nat.le_refl _ | exact Nat.le_succ _ | exact Nat.le_add_right _ _⟩):HOk P ρ D (H.set b x) w' ro N W0 where
 blk c hc:=by
  by_cases e:c = b
  ·subst e; exact ⟨x,by simp [h.lt hc],hx⟩
  ·obtain ⟨k',hk',hok⟩:=h.blk c hc;refine ⟨k',by rw [List.getElem?_set_ne (Ne.symm e)]; exact hk',hok.mono hc (.refl _ _) (fun _ h=>h) fun hd=>hother _ (h.inj c b hc hb ⟨k',hk',hd⟩ ⟨k,hk,Blk.isW.live hkw⟩ e (.inr ⟨k,hk,hkw⟩))⟩
 inj c d hc hd hlc hld hne hwk:=by
  have old:∀ c,live (H.set b x) c -> live H c:=fun c ⟨k',hk',hd'⟩=>by
   by_cases e:c = b
   ·subst e; exact ⟨k,hk,Blk.isW.live hkw⟩
   ·exact ⟨k',by rwa [List.getElem?_set_ne (Ne.symm e)] at hk',hd'⟩
  exact h.inj c d hc hd (old c hlc) (old d hld) hne (hwk.imp (fun h'=>h'.set hk hkw) fun h'=>h'.set hk hkw)
 fresh c hc hcr hl:=h.fresh c hc hcr (by
  obtain ⟨k',hk',hd'⟩:=hl
  by_cases e:c = b
  ·subst e; exact ⟨k,hk,Blk.isW.live hkw⟩
  ·exact ⟨k',by rwa [List.getElem?_set_ne (Ne.symm e)] at hk',hd'⟩)
 base B hB:=by rw [hother B fun e=>h.fresh b hb hr ⟨k,hk,Blk.isW.live hkw⟩ (e ▸ hB)]; exact h.base B hB
 top B hB:=by rw [hsz]; exact h.top B hB
 io:=h.io.next hio
theorem live_kill {c b:Nat} (hc:live (H.set b .dead) c):live H c:=by
 obtain ⟨k',hk',hd'⟩:=hc
 by_cases e:c = b
 ·subst e;have hl:=(lGs.1 hk').1;simp at hl;simp [hl] at hk'; exact absurd hk'.symm hd'
 ·exact ⟨k',by rwa [List.getElem?_set_ne (Ne.symm e)] at hk',hd'⟩
theorem HOk.kill (h:HOk P ρ D H w ro N W0) (b:Nat):HOk P ρ D (H.set b .dead) w ro N W0 where
 blk c hc:=by
  by_cases e:c = b
  ·subst e; exact ⟨.dead,by simp [h.lt hc],trivial⟩
  ·obtain ⟨k',hk',hok⟩:=h.blk c hc;exact ⟨k',by rw [List.getElem?_set_ne (Ne.symm e)]; exact hk',hok⟩
 inj c d hc hd hlc hld hne hwk:=by
  have old:∀ c,live (H.set b .dead) c -> live H c:=fun c ⟨k',hk',hd'⟩=>by
   by_cases e:c = b
   ·subst e;have hl:=(lGs.1 hk').1;simp at hl;simp [hl] at hk'; exact absurd hk'.symm hd'
   ·exact ⟨k',by rwa [List.getElem?_set_ne (Ne.symm e)] at hk',hd'⟩
  exact h.inj c d hc hd (old c hlc) (old d hld) hne (hwk.imp wk.kill wk.kill)
 fresh c hc hcr hl:=h.fresh c hc hcr (live_kill hl)
 base:=h.base
 top:=h.top
 io:=h.io
theorem HOk.take (h:HOk P ρ D H w ro N W0) (x:Blk) (B C:Nat) (hB:¬ N B) (hfree:∀ c,D c -> live H c -> ρ.blk c ≠ B)
  (hsz:w'.heap.size = w.heap.size) (hother:∀ B',B' ≠ B -> w'.heap[B']? = w.heap[B']?)
  (hx:∀ ρ',(ρ'.blk H.length = B) -> ρ'.cap H.length = C -> ρ'.off H.length = 0 -> Agree D ρ ρ' -> BlkOk P ρ' (Dn D H.length (H.length + 1)) w' H.length x) (hio:Same w w':=by exact ⟨rfl,rfl,rfl,by first | exact Nat.le_refl _ | exact Nat.le_succ _ | exact Nat.le_add_right _ _⟩) :
  HOk P (ρ.set H.length B C) (Dn D H.length (H ++ [x]).length) (H ++ [x]) w' ro N W0 /\ Agree D ρ (ρ.set H.length B C):=by
 have hnD:¬ D H.length:=fun hd=>Nat.lt_irrefl _ (h.lt hd);have ha:Agree D ρ (ρ.set H.length B C):=Agree.set hnD;simp only [lLa,List.length_cons,List.length_nil,Nat.zero_add]
 have hcase:∀ b,Dn D H.length (H.length + 1) b -> D b \/ b = H.length:=fun b hb=>by
  rcases hb with hb | hb
  ·exact .inl hb
  ·exact .inr (by omega)
 have old:∀ b,D b -> live (H ++ [x]) b -> live H b:=fun b hd ⟨k,hk,hkd⟩=>⟨k,by rwa [lGl (h.lt hd)] at hk,hkd⟩
 refine ⟨⟨fun b hb=>?_,fun b c hb hc hlb hlc hne hwk=>?_,fun b hb hr hl=>?_,fun B' hB'=>?_,fun B' hB'=>?_,h.io.next hio⟩,ha⟩
 ·rcases hcase b hb with hd | rfl
  ·obtain ⟨k,hk,hok⟩:=h.blk b hd;refine ⟨k,by rw [lGl (h.lt hd)]; exact hk,hok.mono hd ha Dn_sub fun hkd=>hother _ (hfree b hd ⟨k,hk,hkd⟩)⟩
  ·exact ⟨x,by simp,hx _ (by simp) (by simp) (by simp) ha⟩
 ·rcases hcase b hb with hd | rfl <;> rcases hcase c hc with hd' | rfl
  ·rw [(ha b hd).1,(ha c hd').1]; exact h.inj b c hd hd' (old b hd hlb) (old c hd' hlc) hne (hwk.imp (fun h'=>h'.to (lGl (h.lt hd)).symm) fun h'=>h'.to (lGl (h.lt hd')).symm)
  ·rw [(ha b hd).1]; simp; exact hfree b hd (old b hd hlb)
  ·rw [(ha c hd').1]; simp; exact (hfree c hd' (old c hd' hlc)).symm
  ·exact absurd rfl hne
 ·rcases hcase b hb with hd | rfl
  ·rw [(ha b hd).1]; exact h.fresh b hd hr (old b hd hl)
  ·simp only [Rho.set_blk]; exact hB
 ·rw [hother B' fun e=>hB (e ▸ hB')]; exact h.base B' hB'
 ·rw [hsz]; exact h.top B' hB'
end
section
variable {P:Program}
theorem add_none (b o n:Nat):(⟨b,o,none⟩:Addr).add n = ⟨b,o + n,none⟩:=by unfold Addr.add; split <;> simp_all
theorem run_storeCells_free (g o:Nat) (t:TypeId) (fr:Nat × Nat):∀ (vs:List Value) (i:Nat) (cur:Array Value) (w:World),w.heap[g]? = some (.cells cur t fr) ->
  free fr cur.size -> o + i + vs.length <= cur.size -> (∀ v ∈ vs,oneB v = true) ->
  (storeCells ⟨g,o,none⟩ vs i).run P w = .ok () (w.setRow g (cur.toList.take (o + i) ++ vs ++ cur.toList.drop (o + i + vs.length)).toArray)
 | [],i,cur,w,hg,_,_,_=>by
  simp only [storeCells,List.append_nil,List.length_nil,Nat.add_zero,List.take_append_drop,Array.toArray_toList];rw [setRow_self w g cur t fr hg];rfl
 | v :: rest,i,cur,w,hg,hf,hl,h1=>by
  have hi:o + i < cur.size:=by simp at hl; omega
  have hadd:(⟨g,o,none⟩:Addr).add i = ⟨g,o + i,none⟩:=add_none g o i
  have hcell:w.cell? ⟨g,o + i,none⟩ = some cur[o + i]:=by simp [World.cell?,hg,hi]
  have hfro:w.frozen? ⟨g,o + i,none⟩ = false:=by
   obtain ⟨lo,hh⟩:=fr;simp only [World.frozen?,hg];simp only [free] at hf
   rcases hf with hf | hf <;> simp <;> omega
  have hst:(store ((⟨g,o,none⟩:Addr).add i) v).run P w = .ok () (w.setRow g (cur.setIfInBounds (o + i) v)):=by
   rw [hadd,run_store P w _ v _ (by rw [oneB_oneCell']; exact h1 v (by simp)),hcell];simp [hfro,setCell_eq_setRow w g (o + i) cur t fr v hg]
  have ih:=run_storeCells_free g o t fr rest (i + 1) (cur.setIfInBounds (o + i) v) (w.setRow g (cur.setIfInBounds (o + i) v)) (setRow_heap w g cur _ t _ hg) (by simpa using hf) (by simp at hl ⊢; omega) (fun x hx=>h1 x (by simp [hx]));simp only [storeCells,Sem.run_bind,hst,Result.andThen_ok,ih,setRow_setRow]
  congr 3
  have e:=list_seg_step cur.toList (o + i) v rest (by simp at hl ⊢; omega)
  simpa [Array.toList_setIfInBounds,Nat.add_assoc] using e
theorem run_loadCells_at (w:World) (g o n:Nat) (t:TypeId) (fr:Nat × Nat) (cur:List Value) (hg:w.heap[g]? = some (.cells cur.toArray t fr)) (hn:o + n <= cur.length) :
  (loadCells ⟨g,o,none⟩ n).run P w = .ok ((cur.drop o).take n).toArray w:=by
 have hl:((cur.drop o).take n).length = n:=by simp; omega
 have:=run_loadCells_list (P:=P) w ⟨g,o,none⟩ ((cur.drop o).take n) (fun j v hv=>by
  have hj:=(lGs.1 hv).1;rw [hl] at hj;rw [add_none];simp only [World.cell?,hg];simp only [List.getElem?_take,hj,if_true,List.getElem?_drop] at hv
  simpa using hv)
 rwa [hl] at this
theorem info_of_szO {t:TypeId} {n:Nat} (h:szO P t = some n):∃ i,P.info? t = some i /\ i.size = n:=by
 unfold szO at h
 cases hi:P.info? t with
 | none=>simp [hi] at h
 | some i=>simp [hi] at h; exact ⟨i,rfl,h⟩
theorem run_sizeOf' {t:TypeId} {n:Nat} (h:szO P t = some n) (w:World):(sizeOf t).run P w = .ok n w:=by
 obtain ⟨i,hi,hn⟩:=info_of_szO h;simp [sizeOf,typeInfo,hi,hn]
theorem run_isAgg' {t:TypeId} {b:Bool} (h:aggO P t = some b) (w:World):(isAgg t).run P w = .ok b w:=by
 unfold aggO at h
 cases hd:P.underlying t with
 | none=>simp [hd] at h
 | some d =>
  rw [hd] at h
  cases d <;> simp only [oIq] at h <;> subst h <;> simp [isAgg,run_underlying hd]
theorem run_zero' {t:TypeId} {cs:List Value} (h:zc P t = some cs) (w:World) :
  ∃ z,(zeroValue t).run P w = .ok z w /\ z.cells.toList = cs /\ szO P t = some cs.length /\ (∀ v ∈ cs,oneB v = true /\ flat v = true):=by
 unfold zc at h
 cases hi:P.info? t with
 | none=>simp [hi] at h
 | some i =>
  simp only [hi,oBs] at h
  cases hz:i.zero with
  | none=>simp [hz] at h
  | some z =>
   simp only [hz] at h
   split at h
   ·rename_i hc
    simp only [oIq] at h;simp only [Bool.and_eq_true,List.all_eq_true,beq_iff_eq] at hc;refine ⟨z,by simp [zeroValue,typeInfo,hi,hz],h,?_,?_⟩
    ·rw [<- h]; exact hc.2
    ·rw [<- h]; intro v hv; exact hc.1 v hv
   ·simp at h
end
end Go.AM
