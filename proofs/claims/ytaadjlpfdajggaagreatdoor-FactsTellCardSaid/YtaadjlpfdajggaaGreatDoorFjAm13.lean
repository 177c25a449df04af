import Derived.Test.YtaadjlpfdajggaaGreatDoorFjAm12
set_option linter.unusedVariables false
set_option linter.unusedSimpArgs false
namespace Go.AM
open Go
theorem tabEq_eq {k:IntKind}:∀ {cs:List Value} {zs:List Int},tabEq k cs zs = true -> cs = zs.map (Value.int k)
 | [],[],_=>rfl
 | [],_ :: _,h=>by simp [tabEq] at h
 | x :: r,[],h=>by cases x <;> simp [tabEq] at h
 | x :: r,m :: s,h=>by
  cases x with
  | int k' n =>
   simp only [tabEq,Bool.and_eq_true,decide_eq_true_eq] at h;obtain ⟨⟨rfl,rfl⟩,h⟩:=h;rw [tabEq_eq h]; rfl
  | _=>simp [tabEq] at h
structure Base (P:Program) (chk:Hp -> Bool) (g:Hp):Prop where
 size:g.length = P.globals.size
 chk:∀ H,chk H = true -> ∀ (b:Nat) cs,g[b]? = some (.tab cs) -> H[b]? = some (.tab cs)
 kind:∀ (b:Nat) k,g[b]? = some k -> k = .dead \/ ∃ cs,k = .tab cs
def Holds (g:Hp) (w:World):Prop:=∀ (b:Nat) cs,g[b]? = some (.tab cs) -> (∃ o,w.heap[b]? = some o) /\ ∀ (i:Nat) v,cs[i]? = some v -> w.cell? ⟨b,i,none⟩ = some v /\ flat v = true
section
variable {P:Program} {chk:Hp -> Bool} {g:Hp} {w:World}
theorem base_hok (hb:Base P chk g) {ρ:Rho} (hρ:∀ b,b < g.length -> ρ.blk b = b /\ ρ.off b = 0) (hw:Holds g w) (N:Nat -> Prop) (hN:∀ B,N B -> B < w.heap.size) :
  HOk P ρ (fun b=>b < g.length) g w g.length N (Old.of w) where
 blk b hlt:=by
  have hk:=List.getElem?_eq_getElem hlt;refine ⟨_,hk,?_⟩
  rcases hb.kind b _ hk with h | ⟨cs,h⟩
  ·rw [h]; trivial
  ·rw [h] at hk ⊢;simp only [BlkOk];rw [(hρ b hlt).1,(hρ b hlt).2];exact ⟨⟨(hw b cs hk).1,rfl⟩,(hw b cs hk).2⟩
 inj b c hlb hlc _ _ hne _:=by rw [(hρ b hlb).1,(hρ c hlc).1]; exact hne
 fresh b hlt hr:=by omega
 base B _:=rfl
 top B hB:=hN B hB
 io:=Io.of w
theorem law_calls {M:Mach} {c:CallF} (hc:CallOk M c) (hb:Base M.P chk g) {f:FuncId} {args:List Value} {v:Value} {H':Hp} {d:List Nat} (hr:c g.length f args g = some (v,H',d))
  (hf:f < PB) (hargs:∀ a ∈ args,flat a = true) (hv:flat v = true) (hw:Holds g w) :
  Calls M.P f args.toArray w fun e w'=>e = .returned v /\ Io w' (Old.of w) /\ w.heap.size <= w'.heap.size /\ ∀ B,B < w.heap.size -> w'.heap[B]? = w.heap[B]?:=by
 have hok:=base_hok (ρ:=⟨fun b=>b,fun _=>0,fun _=>0⟩) hb (fun _ _=>⟨rfl,rfl⟩) hw (fun B=>B < w.heap.size) (fun _ h=>h)
 have:=(hc _ _ _ _ _ _ _ hr (Nat.le_refl _)).2 _ _ w _ _ hok (fun i hi=>⟨by rw [hb.size]; exact hi,rfl,rfl⟩) fun a ha=>.flat (hargs a ha)
 have hmap:args.map (Rho.val ⟨fun b=>b,fun _=>0,fun _=>0⟩) = args:=by
  conv=>rhs; rw [<- List.map_id args]
  exact List.map_congr_left fun a ha=>Rho.val_flat (hargs a ha)
 rw [hmap,realF_lt hf] at this
 refine this.mono fun e w' ⟨ρ',he,hk,_,_⟩=>⟨by rw [he.lt hf,Rho.val_flat hv],hk.io,?_,fun B hB=>hk.base B hB⟩
 rcases Nat.eq_zero_or_pos w.heap.size with h0 | h0
 ·omega
 ·have:=hk.top (w.heap.size - 1) (by omega); omega
theorem flatC_ok {M:Mach} {c:CallF} (hc:CallOk M c) (hb:Base M.P chk g) {f0:FuncId} {F:List Value -> Option Value}
  (hf0:f0 < PB) (hF:∀ args v,F args = some v -> (∀ a ∈ args,flat a = true) /\ flat v = true /\ ∃ H' d,c g.length f0 args g = some (v,H',d)):CallOk M (flatC chk f0 F):=by
 intro ro f args H v H' d h hro;unfold flatC at h
 split at h
 case isFalse=>cases h
 rename_i hf
 split at h
 case isFalse=>cases h
 rename_i hchk
 simp only [oMe,pIq] at h;obtain ⟨v',hv',rfl,rfl,rfl⟩:=h;subst hf;obtain ⟨f1,f2,H',d,f3⟩:=hF args v' hv';refine ⟨⟨Nat.le_refl _,fun _ _=>rfl,by simp,.refl⟩,fun ρ D w N W0 hok hgl hargs=>?_⟩
 have hw:Holds g w:=fun b cs hbc=>by
  have hlt:b < M.P.globals.size:=by rw [<- hb.size]; exact (lGs.1 hbc).1
  obtain ⟨g1,g2⟩:=hgl b hlt
  have:=hok.at_ g1 (hb.chk H hchk b cs hbc)
  simp only [BlkOk] at this;rw [g2.1,g2.2] at this;exact ⟨this.1.1,this.2⟩
 have:=law_calls hc hb f3 hf0 f1 f2 hw
 have hmap:args.map ρ.val = args:=by
  conv=>rhs; rw [<- List.map_id args]
  exact List.map_congr_left fun a ha=>Rho.val_flat (f1 a ha)
 rw [hmap,realF_lt hf0]
 refine this.mono fun e w' ⟨h1,h2,h4,h5⟩=>⟨ρ,.inl ⟨hf0,by rw [h1,Rho.val_flat f2]⟩,?_,.refl _ _,.flat f2⟩
 rw [Dn_eq];refine ⟨fun b hbD=>?_,hok.inj,hok.fresh,fun B hB=>?_,fun B hB=>Nat.lt_of_lt_of_le (hok.top B hB) h4,hok.io.trans h2⟩
 ·obtain ⟨k,hk,hkok⟩:=hok.blk b hbD;exact ⟨k,hk,hkok.mono hbD (.refl _ _) (fun _ h=>h) fun hkd=>h5 _ (hkok.lt hkd)⟩
 ·rw [h5 B (hok.top B hB)]; exact hok.base B hB
end
end Go.AM
