import Derived.Test.YtaadjlpfdajggaaGreatDoorFjAm10
import Derived.ScopeJumps
set_option linter.unusedVariables false
set_option linter.unusedSimpArgs false
namespace Go.AM
open Go
def findLate (ta:Nat):List Oper -> Nat -> Option (Nat × TypeId × Operand)
 | [],_=>none
 | o :: r,k =>
  match o.op with
  | .store t (.tmp a) x=>if a = ta /\ o.dst = none /\ o.guard = none then some (k,t,x) else findLate ta r (k + 1)
  | _=>findLate ta r (k + 1)
def noDst (t:Nat) (l:List Oper):Bool:=l.all fun o=>o.dst != some t
def noDstX:Operand -> List Oper -> Bool
 | .tmp tx,l=>noDst tx l
 | _,_=>true
def convLate (P:Program) (nt:Nat) (quiet:Bool) (ta:Nat) (ops:Array Oper):Option AC :=
 (findLate ta ops.toList 0).bind fun (k,t,x) =>
  if noDst ta ops.toList && noDstX x (ops.toList.drop k) then
   (convOps P nt (lateOps ops k x ta) (lateOps ops k x ta).toList).bind fun l =>
    if okDraw P [] quiet (lateOps ops k x ta).toList l then some (.late quiet t ta x l) else none
  else none
def conv (P:Program) (nt:Nat):Code -> AC -> Option AC
 | .skip,.skip=>some .skip
 | .label _,.skip=>some .skip
 | .ret,.ret=>some .ret
 | .region _ ops draw,.ops quiet _=>(convOps P nt ops ops.toList).bind fun l =>
  if draw then (if okDraw P [] quiet ops.toList l then some (.ops quiet l) else none) else (if quiet then none else some (.ops quiet l))
 | .region _ ops true,.late quiet _ ta _ _=>convLate P nt quiet ta ops
 | .region _ ops false,.opsP _=>(convOps P nt ops ops.toList).map AC.opsP
 | .region _ ops true,.opsL ls k quiet _=>(convOps P nt ops ops.toList).bind fun l=>if okK P ls quiet k ops && okDraw P ls quiet ops.toList l then some (.opsL ls k quiet l) else none
 | .region _ ops true,.held p1 p2 _ _=>if chkHeld ops p1 p2 then (pickO ops p1).bind fun o1=>(pickO ops p2).bind fun o2=>(convOps P nt ops o1).bind fun l1=>(convOps P nt ops o2).map fun l2=>.held p1 p2 l1 l2 else none
 | .seq a b,.seq x y=>(conv P nt a x).bind fun x=>(conv P nt b y).map (AC.seq x ·)
 | .cond c a b,.cond _ x y=>if okX P c then (conv P nt a x).bind fun x=>(conv P nt b y).map (AC.cond c x ·) else none
 | .block id a,.block _ x=>(conv P nt a x).map (AC.block id ·)
 | .loop a,.loop live x=>if live.all (· < nt) then (conv P nt a x).map (AC.loop live ·) else none
 | .exit id,.exit _=>some (.exit id)
 | .scope a,.scope x=>(conv P nt a x).map (AC.scope ·)
 | .goto l,.goto _=>some (.goto l)
 | .scope a,.scopeJ l x y=>(conv P nt a x).bind fun x=>(findLabel a l).bind fun r=>(conv P nt r y).map (AC.scopeJ l x ·)
 | _,_=>none
def cvOp (ops:Array Oper) (o:Oper):AOp:=⟨o.dst,o.op,o.type,(guardOf ops o).getD none⟩
def cvc:Code -> AC -> AC
 | .region _ ops _,.ops q _=>.ops q (ops.toList.map (cvOp ops))
 | .region _ ops _,.opsP _=>.opsP (ops.toList.map (cvOp ops))
 | .region _ ops _,.opsL ls k q _=>.opsL ls k q (ops.toList.map (cvOp ops))
 | .seq a b,.seq x y=>.seq (cvc a x) (cvc b y)
 | .cond c a b,.cond _ x y=>.cond c (cvc a x) (cvc b y)
 | .block id a,.block _ x=>.block id (cvc a x)
 | .loop a,.loop live x=>.loop live (cvc a x)
 | .scope a,.scope x=>.scope (cvc a x)
 | .scope a,.scopeJ l x y=>.scopeJ l (cvc a x) (match findLabel a l with | some r=>cvc r y | none=>y)
 | _,h=>h
termination_by structural _ h=>h
def cvF (f:Func) (h:AC):AC:=match f.body with | some c=>cvc c h | none=>h
abbrev hO:AC:=.ops false []
abbrev hQ:AC:=.ops true []
abbrev hC (a b:AC):AC:=.cond (.tmp 0) a b
def exitOf:Out -> Exit
 | .normal=>.normal
 | .exit id=>.exit id
 | .ret=>.ret
 | .panic v=>.panic [{ v:=v,recovered:=false }]
 | .goto l=>.goto l
structure ExAm (nb ro:Nat) (s s':St):Prop where
 le:nb <= s'.hp.length
 old:∀ b,b < ro -> s'.hp[b]? = s.hp[b]?
 dirt:∀ b ∈ s'.dirty,b < nb /\ ro <= b
 more:∀ b ∈ s.dirty,b ∈ s'.dirty
 kept:Kept nb s'.dirty s.hp s'.hp
theorem ExAm.trans {nb ro:Nat} {s s' s'':St} (h:ExAm nb ro s s') (h':ExAm nb ro s' s''):ExAm nb ro s s'' :=
 ⟨h'.le,fun b hb=>(h'.old b hb).trans (h.old b hb),h'.dirt,fun b hb=>h'.more b (h.more b hb),h.kept.trans h'.kept h'.more⟩
section
variable {M:Mach} {call:CallF} {nb ro:Nat} {s s':St}
theorem gc_am {roots roots':List Value} {dirty:List Nat} {H H':Hp} (hgc:gc nb roots dirty H = some (roots',H')) (hle:nb <= H.length) :
  nb <= H'.length /\ (∀ b,b < nb -> b ∉ dirty -> H'[b]? = H[b]?):=by
 unfold gc at hgc;simp only [oBe] at hgc;obtain ⟨ord,hord,hgc⟩:=hgc
 split at hgc
 case isFalse=>cases hgc
 simp only [oIq,pIq] at hgc;obtain ⟨rfl,rfl⟩:=hgc
 have hlen':(fixD (renum nb ord) dirty (H.take nb)).length = nb:=by simp [fixD_length,Nat.min_eq_left hle]
 refine ⟨by simp [hlen'],fun b hb hn=>?_⟩;rw [lGl (by rw [hlen']; exact hb),fixD_get,List.getElem?_take,if_pos hb,if_neg hn]
theorem norm_eq {live:List Nat} (h:norm nb live s = some s'):∃ vs vs' H,looks s.env live = some vs /\ gc nb vs s.dirty s.hp = some (vs',H) /\ s' = ⟨live.zip vs',H,s.dirty⟩:=by
 unfold norm at h;simp only [oBe,oMe,Prod.exists] at h;obtain ⟨vs,h1,vs',H,h2,rfl⟩:=h;exact ⟨vs,vs',H,h1,h2,rfl⟩
theorem norm_am {live:List Nat} (h:norm nb live s = some s') (hle:nb <= s.hp.length) (hron:ro <= nb) (hd:∀ b ∈ s.dirty,b < nb /\ ro <= b):ExAm nb ro s s':=by
 obtain ⟨vs,vs',H,h1,h2,rfl⟩:=norm_eq h;obtain ⟨g1,g2⟩:=gc_am h2 hle;refine ⟨g1,fun b hb=>g2 b (by omega) fun hbd=>?_,hd,fun b hb=>hb,fun b hb hn cs e hk=>⟨cs,?_,fun v hv=>.inl hv⟩⟩
 ·have:=hd b hbd; omega
 ·rw [<- g2 b hb hn]; exact hk
theorem stepsA_am (hcall:CallOk M call) {quiet:Bool}:∀ {l:List AOp} {s s':St},stepsA M call nb ro quiet l s = some s' -> nb <= s.hp.length -> ro <= nb ->
  (∀ b ∈ s.dirty,b < nb /\ ro <= b) -> ExAm nb ro s s'
 | [],s,s',h,hle,hron,hd=>by
  simp only [stepsA,oIq] at h; subst h;exact ⟨hle,fun _ _=>rfl,hd,fun _ hb=>hb,.refl⟩
 | o :: l,s,s',h,hle,hron,hd=>by
  simp only [stepsA,oBe] at h;obtain ⟨s1,h1,h2⟩:=h;have hs:=step1_am hcall h1 (nLt hron hle) hle
  have hro:ro <= roOf quiet o.op ro s:=by unfold roOf; split <;> omega
  have h1':ExAm nb ro s s1:=⟨nLt hle hs.le,fun b hb=>hs.old b (by omega),fun b hb=>by
   rcases hs.dirt b hb with hb | hb
   ·exact hd b hb
   ·exact ⟨hb.1,nLt hro hb.2⟩,hs.more,hs.kept⟩
  exact h1'.trans (stepsA_am hcall h2 h1'.le hron h1'.dirt)
theorem steps_len (hcall:CallOk M call) {quiet:Bool}:∀ {l:List AOp} {s s':St},stepsA M call nb ro quiet l s = some s' -> ro <= s.hp.length -> nb <= s.hp.length -> s.hp.length <= s'.hp.length
 | [],s,s',h,_,_=>by simp only [stepsA,oIq] at h; subst h; exact Nat.le_refl _
 | o :: l,s,s',h,h1,h2=>by
  simp only [stepsA,oBe] at h;obtain ⟨s1,g1,g2⟩:=h;have hs:=(step1_am hcall g1 h1 h2).le;exact nLt hs (steps_len hcall g2 (nLt h1 hs) (nLt h2 hs))
theorem lateA_am (hcall:CallOk M call) {quiet:Bool} {t:TypeId} {ta:Nat} {x:Operand} {l:List AOp} (h:lateA M call nb ro quiet t ta x l s = some s') (hle:nb <= s.hp.length) (hron:ro <= nb)
  (hd:∀ b ∈ s.dirty,b < nb /\ ro <= b):ExAm nb ro s s' /\ s.hp.length <= s'.hp.length:=by
 obtain ⟨b,off,cs,e,s1,v,l1,l2,l3,l4,l5,l6,l7,l8,l9,l10,l11,rfl⟩:=lateA_eq h
 have hlen:(s.hp.set b .dead).length = s.hp.length:=by simp
 have g:=stepsA_am hcall l5 (by rw [hlen]; exact hle) hron hd;have g2:=steps_len hcall l5 (by rw [hlen]; exact nLt hron hle) (by rw [hlen]; exact hle);rw [hlen] at g2;refine ⟨⟨by simpa using g.le,fun c hc=>?_,g.dirt,g.more,fun c hc hn cs' e' hk=>?_⟩,by simpa using g2⟩
 ·have hcb:c ≠ b:=by omega
  simp only;rw [List.getElem?_set_ne (Ne.symm hcb),g.old c hc];simp only;rw [List.getElem?_set_ne (Ne.symm hcb)]
 ·have hcb:c ≠ b:=by omega
  simp only at hk;rw [List.getElem?_set_ne (Ne.symm hcb)] at hk;obtain ⟨cs0,k1,k2⟩:=g.kept c hc hn cs' e' hk;simp only at k1;rw [List.getElem?_set_ne (Ne.symm hcb)] at k1;exact ⟨cs0,k1,k2⟩
theorem stepsP_am (hcall:CallOk M call):∀ {l:List AOp} {s:St} {x:RP},stepsP M call nb ro l s = some x -> nb <= s.hp.length -> ro <= nb ->
  (∀ b ∈ s.dirty,b < nb /\ ro <= b) -> ExAm nb ro s (outP x).2
 | [],s,x,h,hle,hron,hd=>by
  simp only [stepsP,oIq] at h; subst h;exact ⟨hle,fun _ _=>rfl,hd,fun _ hb=>hb,.refl⟩
 | o :: l,s,x,h,hle,hron,hd=>by
  simp only [stepsP] at h
  split at h
  ·cases h
  have mk:∀ {dst:Option Nat} {s1:St},StepAm nb ro dst s s1 -> ExAm nb ro s s1:=fun hs=>⟨nLt hle hs.le,hs.old,fun b hb=>by
   rcases hs.dirt b hb with hb | hb
   ·exact hd b hb
   ·exact hb,hs.more,hs.kept⟩
  cases hy:run1P M call nb ro o s with
  | none=>rw [hy] at h; cases h
  | some y =>
   rw [hy] at h;have m:=run1P_am hcall hy (nLt hron hle) hle
   cases y with
   | go s1 =>
    have h1':=mk m;exact h1'.trans (stepsP_am hcall h h1'.le hron h1'.dirt)
   | pan v s1 =>
    simp only [oIq] at h; subst h;exact mk m
theorem noGo_eq {r:Option (Out × St)} {e:Out} {s':St} (h:noGo r = some (e,s')):r = some (e,s') /\ ∀ l,e ≠ .goto l:=by
 unfold noGo at h
 split at h
 ·cases h
 ·rename_i hn
  refine ⟨h,fun l he=>?_⟩;subst he;exact hn l s' h
theorem jumpA_eq {l:Nat} {f:St -> Option (Out × St)} {r:Option (Out × St)} {e:Out} {s':St} (h:jumpA l f r = some (e,s')) :
  (r = some (e,s') /\ ∀ l,e ≠ .goto l) \/ ∃ s1,r = some (.goto l,s1) /\ f s1 = some (e,s') /\ ∀ l,e ≠ .goto l:=by
 unfold jumpA at h
 split at h
 ·split at h
  ·rename_i hj
   subst hj;exact .inr ⟨_,rfl,noGo_eq h⟩
  ·cases h
 ·rename_i hn
  refine .inl ⟨h,fun l he=>?_⟩;subst he;exact hn l s' h
theorem execN_am (hcall:CallOk M call) {fuel:Nat} (hron:ro <= nb):∀ (ac:AC) {s s':St} {e:Out},execN M call fuel nb ro ac s = some (e,s') -> nb <= s.hp.length ->
  (∀ b ∈ s.dirty,b < nb /\ ro <= b) -> ExAm nb ro s s'
 | .skip,s,s',e,h,hle,hd=>by
  simp only [execN,oIq,pIq] at h; obtain ⟨_,rfl⟩:=h;exact ⟨hle,fun _ _=>rfl,hd,fun _ hb=>hb,.refl⟩
 | .ret,s,s',e,h,hle,hd=>by
  simp only [execN,oIq,pIq] at h; obtain ⟨_,rfl⟩:=h;exact ⟨hle,fun _ _=>rfl,hd,fun _ hb=>hb,.refl⟩
 | .exit id,s,s',e,h,hle,hd=>by
  simp only [execN,oIq,pIq] at h; obtain ⟨_,rfl⟩:=h;exact ⟨hle,fun _ _=>rfl,hd,fun _ hb=>hb,.refl⟩
 | .ops quiet l,s,s',e,h,hle,hd=>by
  simp only [execN,oMe,pIq] at h;obtain ⟨s1,h1,_,rfl⟩:=h;exact stepsA_am hcall h1 hle hron hd
 | .late quiet t ta x l,s,s',e,h,hle,hd=>by
  simp only [execN,oMe,pIq] at h;obtain ⟨s1,h1,_,rfl⟩:=h;exact (lateA_am hcall h1 hle hron hd).1
 | .opsP l,s,s',e,h,hle,hd=>by
  simp only [execN,oMe] at h;obtain ⟨x,h1,h2⟩:=h
  have:=stepsP_am hcall h1 hle hron hd
  rw [h2] at this;exact this
 | .opsL ls k q l,s,s',e,h,hle,hd=>by
  simp only [execN] at h
  split at h
  case isFalse=>cases h
  simp only [oMe,pIq] at h;obtain ⟨s1,h1,_,rfl⟩:=h;exact stepsA_am hcall (stabA_steps h1) hle hron hd
 | .held p1 p2 l1 l2,s,s',e,h,hle,hd=>by
  simp only [execN,oBe,oMe,pIq] at h;obtain ⟨x,h1,s1,h2,_,rfl⟩:=h;exact stepsA_am hcall (held_steps h1 h2) hle hron hd
 | .seq a b,s,s',e,h,hle,hd=>by
  simp only [execN,thenA] at h
  split at h
  ·rename_i s1 h1
   have:=execN_am hcall hron a h1 hle hd
   exact this.trans (execN_am hcall hron b h this.le this.dirt)
  ·exact execN_am hcall hron a h hle hd
 | .cond c a b,s,s',e,h,hle,hd=>by
  simp only [execN] at h
  split at h
  ·split at h
   ·exact execN_am hcall hron a h hle hd
   ·exact execN_am hcall hron b h hle hd
  ·simp at h
 | .block id a,s,s',e,h,hle,hd=>by
  simp only [execN,oMe,pIq,Prod.exists] at h;obtain ⟨e1,s1,h1,_,rfl⟩:=h;exact execN_am hcall hron a h1 hle hd
 | .scope a,s,s',e,h,hle,hd=>by
  simp only [execN] at h;exact execN_am hcall hron a (noGo_eq h).1 hle hd
 | .goto l,s,s',e,h,hle,hd=>by
  simp only [execN,oIq,pIq] at h; obtain ⟨_,rfl⟩:=h;exact ⟨hle,fun _ _=>rfl,hd,fun _ hb=>hb,.refl⟩
 | .scopeJ l a b,s,s',e,h,hle,hd=>by
  simp only [execN] at h
  rcases jumpA_eq h with ⟨h1,_⟩ | ⟨s1,h1,h2,_⟩
  ·exact execN_am hcall hron a h1 hle hd
  ·have:=execN_am hcall hron a h1 hle hd
   exact this.trans (execN_am hcall hron b h2 this.le this.dirt)
 | .loop live a,s,s',e,h,hle,hd=>by
  simp only [execN] at h
  have key:∀ n s s' e,iterA (execN M call fuel nb ro a) (norm nb live) n s = some (e,s') -> nb <= s.hp.length -> (∀ b ∈ s.dirty,b < nb /\ ro <= b) -> ExAm nb ro s s':=fun n=>by
   induction n with
   | zero=>intro s s' e h; simp [iterA] at h
   | succ n ih =>
    intro s s' e h hle hd;simp only [iterA,oBe] at h;obtain ⟨s1,h1,h⟩:=h;have g1:=norm_am h1 hle hron hd;simp only [thenA] at h
    split at h
    ·rename_i s2 h2
     have g2:=execN_am hcall hron a h2 g1.le g1.dirt;exact g1.trans (g2.trans (ih _ _ _ h g2.le g2.dirt))
    ·exact g1.trans (execN_am hcall hron a h g1.le g1.dirt)
  exact key _ _ _ _ h hle hd
theorem findLate_spec {ta:Nat}:∀ {l:List Oper} {k k':Nat} {t:TypeId} {x:Operand},findLate ta l k = some (k',t,x) ->
  ∃ r0,k <= k' /\ l[k' - k]? = some r0 /\ r0.op = .store t (.tmp ta) x /\ r0.dst = none /\ r0.guard = none
 | [],k,k',t,x,h=>by simp [findLate] at h
 | o :: r,k,k',t,x,h=>by
  have next:findLate ta r (k + 1) = some (k',t,x) -> ∃ r0,k <= k' /\ (o :: r)[k' - k]? = some r0 /\ r0.op = .store t (.tmp ta) x /\ r0.dst = none /\ r0.guard = none:=fun h=>by
   obtain ⟨r0,h1,h2,h3⟩:=findLate_spec h;refine ⟨r0,by omega,?_,h3⟩
   have:k' - k = (k' - (k + 1)) + 1:=by omega
   rw [this]; simpa using h2
  simp only [findLate] at h
  split at h
  ·rename_i t' a x' hop
   split at h
   ·rename_i hh
    simp only [oIq,pIq] at h;obtain ⟨rfl,rfl,rfl⟩:=h;exact ⟨o,Nat.le_refl _,by simp,by rw [hop,hh.1],hh.2.1,hh.2.2⟩
   ·exact next h
  ·exact next h
theorem looks_get:∀ {l:List Nat} {σ:Env} {vs:List Value},looks σ l = some vs -> vs.length = l.length /\ ∀ (i:Nat) (v:Value),vs[i]? = some v -> ∃ t,l[i]? = some t /\ look σ t = some v
 | [],σ,vs,h=>by simp only [looks,oIq] at h; subst h; simp
 | t :: r,σ,vs,h=>by
  simp only [looks,oBe,oIq] at h;obtain ⟨v,h1,us,h2,rfl⟩:=h;obtain ⟨g1,g2⟩:=looks_get h2;refine ⟨by simp [g1],fun i u hu=>?_⟩
  cases i with
  | zero=>simp at hu; subst hu; exact ⟨t,rfl,h1⟩
  | succ i=>simp at hu; obtain ⟨t',k1,k2⟩:=g2 i u hu; exact ⟨t',by simpa using k1,k2⟩
theorem look_zip:∀ {l:List Nat} {vs:List Value} {t:Nat} {v:Value},look (l.zip vs) t = some v -> ∃ i:Nat,l[i]? = some t /\ vs[i]? = some v
 | [],vs,t,v,h=>by simp [look] at h
 | x :: l,[],t,v,h=>by simp [look] at h
 | x :: l,u :: vs,t,v,h=>by
  simp only [List.zip_cons_cons,look] at h
  split at h
  ·rename_i hx; subst hx
   simp only [oIq] at h; subst h;exact ⟨0,rfl,rfl⟩
  ·obtain ⟨i,h1,h2⟩:=look_zip h;exact ⟨i + 1,by simpa using h1,by simpa using h2⟩
end
section
variable {M:Mach} {call:CallF} {c:Ctx} {ρ:Rho} {w:World} {s s':St} {a:Act}
theorem norm_sound {live:List Nat} (h:norm c.nb live s = some s') (hr:SRel M.P c ρ s a w):∃ ρ',SRel M.P c ρ' s' a w:=by
 obtain ⟨vs,vs',H,h1,h2,rfl⟩:=norm_eq h;obtain ⟨k1,k2⟩:=looks_get h1
 obtain ⟨g1,g2,g3,ρ',g4,g5,g6⟩:=gc_sound h2 hr.hok hr.le hr.ron hr.clean hr.dirt fun v hv=>by
  obtain ⟨i,hi⟩:=List.mem_iff_getElem?.1 hv;obtain ⟨t,_,ht⟩:=k2 i v hi;exact (hr.env t v ht).2
 refine ⟨ρ',g4,fun t v hv=>?_,g1,hr.ron,fun b hb hD hn cs e hk=>hr.clean b hb hD hn cs e (by rw [<- g2 b hb hn]; exact hk),hr.dirt,hr.size,hr.defs,hr.agree.trans g5 (fun b hb=>hb),hr.gl⟩;obtain ⟨i,i1,i2⟩:=look_zip hv;obtain ⟨u,u1,u2,u3⟩:=g6 i v i2;obtain ⟨t',t1,t2⟩:=k2 i u u1
 rw [i1] at t1; injection t1 with t1; subst t1
 exact ⟨by rw [u2]; exact (hr.env t u t2).1,u3⟩
theorem SRel.drawn (h:SRel M.P c ρ s a w) (n:Nat) (hn:w.drawn <= n):SRel M.P c ρ s a { w with drawn:=n } :=
 ⟨h.hok.world rfl ⟨rfl,rfl,rfl,hn⟩,h.env,h.le,h.ron,h.clean,h.dirt,h.size,h.defs,h.agree,h.gl⟩
def csz:Code -> Nat
 | .seq a b=>csz a + csz b + 1
 | .cond _ a b=>csz a + csz b + 1
 | .block _ a=>csz a + 1
 | .loop a=>csz a + 1
 | .scope a=>csz a + 1
 | _=>1
theorem findLabel_csz:∀ {c:Code} {l:Nat} {r:Code},findLabel c l = some r -> csz r <= csz c
 | .seq a b,l,r,h=>by
  simp only [findLabel] at h
  split at h
  ·rename_i ra ha
   injection h with h; subst h
   have:=findLabel_csz ha
   simp only [csz]; omega
  ·have:=findLabel_csz h
   simp only [csz]; omega
 | .label l',l,r,h=>by
  simp only [findLabel] at h
  split at h
  ·injection h with h; subst h; exact Nat.le_refl _
  ·cases h
 | .skip,_,_,h=>by simp [findLabel] at h
 | .ret,_,_,h=>by simp [findLabel] at h
 | .exit _,_,_,h=>by simp [findLabel] at h
 | .goto _,_,_,h=>by simp [findLabel] at h
 | .refuse _,_,_,h=>by simp [findLabel] at h
 | .region _ _ _,_,_,h=>by simp [findLabel] at h
 | .cond _ _ _,_,_,h=>by simp [findLabel] at h
 | .block _ _,_,_,h=>by simp [findLabel] at h
 | .loop _,_,_,h=>by simp [findLabel] at h
 | .scope _,_,_,h=>by simp [findLabel] at h
 | .rangeFunc _ _ _ _,_,_,h=>by simp [findLabel] at h
theorem execN_sound_sz (hM:MOk M) (hmix:M.P.follows .mixedOrders = true) (hcall:CallOk M call) {fuel:Nat}:∀ (m:Nat) (code:Code),csz code <= m -> ∀ {ac hint:AC} {s s':St} {e:Out} {ρ:Rho} {a:Act} {w:World} {Q:Exit -> Act -> World -> Prop},
  conv M.P c.nt code hint = some ac -> execN M call fuel c.nb c.ro ac s = some (e,s') -> SRel M.P c ρ s a w ->
  (∀ ρ' a' w',SRel M.P c ρ' s' a' w' -> Q (exitOf e) a' w') -> code.wp M.P Q a w:=by
 intro m
 induction m with
 | zero=>intro code h; cases code <;> simp [csz] at h
 | succ m ihm =>
 intro code hsz
 cases code with
 | skip =>
  intro ac hint s s' e ρ a w Q hc hx hr hQ
  cases hint <;> simp only [conv,oIq,reduceCtorEq] at hc
  subst hc;simp only [execN,oIq,pIq] at hx; obtain ⟨rfl,rfl⟩:=hx;exact wp_skip (hQ _ _ _ hr)
 | label l =>
  intro ac hint s s' e ρ a w Q hc hx hr hQ
  cases hint <;> simp only [conv,oIq,reduceCtorEq] at hc
  subst hc;simp only [execN,oIq,pIq] at hx; obtain ⟨rfl,rfl⟩:=hx;exact wp_label (hQ _ _ _ hr)
 | ret =>
  intro ac hint s s' e ρ a w Q hc hx hr hQ
  cases hint <;> simp only [conv,oIq,reduceCtorEq] at hc
  subst hc;simp only [execN,oIq,pIq] at hx; obtain ⟨rfl,rfl⟩:=hx;exact wp_ret (hQ _ _ _ hr)
 | exit id =>
  intro ac hint s s' e ρ a w Q hc hx hr hQ
  cases hint <;> simp only [conv,oIq,reduceCtorEq] at hc
  subst hc;simp only [execN,oIq,pIq] at hx; obtain ⟨rfl,rfl⟩:=hx;exact wp_exit (hQ _ _ _ hr)
 | goto l =>
  intro ac hint s s' e ρ a w Q hc hx hr hQ
  cases hint <;> simp only [conv,oIq,reduceCtorEq] at hc
  subst hc;simp only [execN,oIq,pIq] at hx; obtain ⟨rfl,rfl⟩:=hx;exact wp_goto (hQ _ _ _ hr)
 | refuse l=>intro ac hint s s' e ρ a w Q hc; cases hint <;> simp [conv] at hc
 | rangeFunc f ps x y=>intro ac hint s s' e ρ a w Q hc; cases hint <;> simp [conv] at hc
 | region id ops draw =>
  intro ac hint s s' e ρ a w Q hc hx hr hQ
  have hlate:∀ quiet t0 ta x0 l0,hint = .late quiet t0 ta x0 l0 -> Code.wp M.P (Code.region id ops draw) Q a w:=fun quiet t0 ta x0 l0 hh=>by
   subst hh
   cases draw with
   | false=>simp [conv] at hc
   | true =>
    simp only [conv,convLate,oBe,Prod.exists] at hc;obtain ⟨k,t,x,hfl,hc⟩:=hc
    split at hc
    case isFalse=>cases hc
    rename_i hnd
    simp only [Bool.and_eq_true] at hnd;simp only [oBe] at hc;obtain ⟨l,hl,hc⟩:=hc
    split at hc
    case isFalse=>cases hc
    rename_i hd
    simp only [oIq] at hc; subst hc;simp only [execN,oMe,pIq] at hx;obtain ⟨s1,h1,rfl,rfl⟩:=hx;obtain ⟨r0,f1,f2,f3,f4,f5⟩:=findLate_spec hfl;obtain ⟨ham,hlen⟩:=lateA_am hcall h1 hr.le hr.ron hr.dirt;refine wp_region_any hmix (late_sound hM hcall (jl:=k) (r0:=r0) (by simpa using f2) f3 f4 f5 (fun i o ho=>?_) (fun tx htx i o hi ho=>?_) hl hd h1 hr.hok hr.glob hr.env hr.size hr.defs (nLt hr.ron hr.le) hr.le fun ρ' a' w' q1 q2 q3 q4 q5=>hQ ρ' a' w' ?_)
    ·have:=List.all_eq_true.1 hnd.1 o (List.mem_of_getElem? (by simpa using ho))
     simpa using this
    ·subst htx
     have:=List.all_eq_true.1 hnd.2 o (by
      refine List.mem_of_getElem? (i:=i - k) ?_
      rw [List.getElem?_drop,Nat.add_sub_cancel' hi]; simpa using ho)
     simpa using this
    ·rw [Dn_DD hr.le hlen] at q1 q3;refine ⟨q1,q3,ham.le,hr.ron,fun b hb hD hn cs e hk u hu i hi=>?_,ham.dirt,q4,q5,hr.agree.trans q2 fun b hb=>.inl hb,hr.gl⟩;obtain ⟨cs0,k1,k2⟩:=ham.kept b hb hn cs e hk
     rcases k2 u hu with k2 | k2
     ·exact hr.clean b hb hD (fun hb'=>hn (ham.more b hb')) cs0 e k1 u k2 i hi
     ·have:addrs u = []:=by simpa [flat_eq] using k2
      rw [this] at hi; cases hi
  have hpan:∀ l0,hint = .opsP l0 -> Code.wp M.P (Code.region id ops draw) Q a w:=fun l0 hh=>by
   subst hh
   cases draw with
   | true=>simp [conv] at hc
   | false =>
    simp only [conv,oMe] at hc;obtain ⟨l,hl,rfl⟩:=hc;simp only [execN,oMe] at hx;obtain ⟨x,h1,h2⟩:=hx;refine wp_region_list (stepsP_sound hM hcall _ _ _ _ _ _ hl h1 hr ?_)
    cases x with
    | go s1 =>
     simp only [outP,pIq] at h2;obtain ⟨rfl,rfl⟩:=h2;exact hQ
    | pan v s1 =>
     simp only [outP,pIq] at h2;obtain ⟨rfl,rfl⟩:=h2;exact hQ
  have hstab:∀ ls k q l,hint = .opsL ls k q l -> Code.wp M.P (Code.region id ops draw) Q a w:=fun ls k quiet l0 hh=>by
   subst hh
   cases draw with
   | false=>simp [conv] at hc
   | true =>
    simp only [conv,oBe] at hc;obtain ⟨l,hl,hc⟩:=hc
    split at hc
    case isFalse=>cases hc
    rename_i hd
    simp only [Bool.and_eq_true] at hd;obtain ⟨hk,hd⟩:=hd;simp only [oIq] at hc; subst hc;simp only [execN] at hx
    split at hx
    case isFalse=>cases hx
    rename_i hbs
    simp only [oMe,pIq] at hx;obtain ⟨s1,h1,rfl,rfl⟩:=hx;simp only [List.all_eq_true,decide_eq_true_eq] at hbs;have ham:=stepsA_am hcall (stabA_steps h1) hr.le hr.ron hr.dirt;refine wp_region_any hmix (drawL_sound hM hcall hl hk hd h1 hbs hr.hok hr.glob hr.env hr.size hr.defs (nLt hr.ron hr.le) hr.le fun ρ' a' w' q1 q2 q3 q4 q5=>hQ ρ' a' w' ?_)
    have hlen:s.hp.length <= s1.hp.length:=by
     have:=steps_len hcall (stabA_steps h1) (nLt hr.ron hr.le) hr.le
     exact this
    rw [Dn_DD hr.le hlen] at q1 q3;refine ⟨q1,q3,ham.le,hr.ron,fun b hb hD hn cs e hk u hu i hi=>?_,ham.dirt,q4,q5,hr.agree.trans q2 fun b hb=>.inl hb,hr.gl⟩;obtain ⟨cs0,k1,k2⟩:=ham.kept b hb hn cs e hk
    rcases k2 u hu with k2 | k2
    ·exact hr.clean b hb hD (fun hb'=>hn (ham.more b hb')) cs0 e k1 u k2 i hi
    ·have:addrs u = []:=by simpa [flat_eq] using k2
     rw [this] at hi; cases hi
  have hheld:∀ p1 p2 l1 l2,hint = .held p1 p2 l1 l2 -> Code.wp M.P (Code.region id ops draw) Q a w:=fun p1 p2 l10 l20 hh=>by
   subst hh
   cases draw with
   | false=>simp [conv] at hc
   | true =>
    simp only [conv] at hc
    split at hc
    case isFalse=>cases hc
    rename_i hchk
    simp only [oBe,oMe] at hc;obtain ⟨o1,ho1,o2,ho2,l1,hl1,l2,hl2,rfl⟩:=hc;simp only [execN,oBe,oMe,pIq] at hx;obtain ⟨x,h1,s1,h2,rfl,rfl⟩:=hx;exact held_sound hM hcall hmix hchk ho1 ho2 hl1 hl2 h1 h2 (hr.drawn _ (Nat.le_succ _)) hQ
  cases hint <;> try (first | exact hlate _ _ _ _ _ rfl | exact hpan _ rfl | exact hheld _ _ _ _ rfl | exact hstab _ _ _ _ rfl | (cases draw <;> simp [conv] at hc; done))
  rename_i quiet l0
  simp only [conv,oBe] at hc;obtain ⟨l,hl,hc⟩:=hc
  cases draw with
  | false =>
   simp only [bFt,if_false] at hc
   split at hc
   ·cases hc
   rename_i hq
   have hq':quiet = false:=by simpa using hq
   subst hq';simp only [oIq] at hc; subst hc;simp only [execN,oMe,pIq] at hx;obtain ⟨s1,h1,rfl,rfl⟩:=hx;exact wp_region_list (stepsA_sound hM hcall _ _ _ _ _ _ hl h1 hr hQ)
  | true =>
   simp only [if_true] at hc
   split at hc
   case isFalse=>cases hc
   rename_i hd
   simp only [oIq] at hc; subst hc;simp only [execN,oMe,pIq] at hx;obtain ⟨s1,h1,rfl,rfl⟩:=hx;have ham:=stepsA_am hcall h1 hr.le hr.ron hr.dirt;refine wp_region_any hmix (draw_sound hM hcall hl hd h1 hr.hok hr.glob hr.env hr.size hr.defs (nLt hr.ron hr.le) hr.le fun ρ' a' w' q1 q2 q3 q4 q5=>hQ ρ' a' w' ?_)
   have hlen:s.hp.length <= s1.hp.length:=by
    have:=steps_len hcall h1 (nLt hr.ron hr.le) hr.le
    exact this
   rw [Dn_DD hr.le hlen] at q1 q3;refine ⟨q1,q3,ham.le,hr.ron,fun b hb hD hn cs e hk u hu i hi=>?_,ham.dirt,q4,q5,hr.agree.trans q2 fun b hb=>.inl hb,hr.gl⟩;obtain ⟨cs0,k1,k2⟩:=ham.kept b hb hn cs e hk
   rcases k2 u hu with k2 | k2
   ·exact hr.clean b hb hD (fun hb'=>hn (ham.more b hb')) cs0 e k1 u k2 i hi
   ·have:addrs u = []:=by simpa [flat_eq] using k2
    rw [this] at hi; cases hi
 | seq x y =>
  have ihx:=@ihm x (by simp only [csz] at hsz; omega);have ihy:=@ihm y (by simp only [csz] at hsz; omega);intro ac hint s s' e ρ a w Q hc hx hr hQ
  cases hint <;> simp only [conv,oBe,oMe,reduceCtorEq] at hc
  obtain ⟨ax,hax,ay,hay,rfl⟩:=hc;simp only [execN,thenA] at hx;apply wp_seq
  split at hx
  ·rename_i s1 h1
   exact ihx hax h1 hr fun ρ' a' w' q=>ihy hay hx q hQ
  ·rename_i hn
   refine ihx hax hx hr fun ρ' a' w' q=>?_
   cases e with
   | normal=>exact absurd hx (hn s')
   | exit id=>exact hQ _ _ _ q
   | ret=>exact hQ _ _ _ q
   | panic v=>exact hQ _ _ _ q
   | goto l=>exact hQ _ _ _ q
 | cond t x y =>
  have ihx:=@ihm x (by simp only [csz] at hsz; omega);have ihy:=@ihm y (by simp only [csz] at hsz; omega);intro ac hint s s' e ρ a w Q hc hx hr hQ
  cases hint <;> simp only [conv,reduceCtorEq] at hc
  split at hc
  case isFalse=>cases hc
  rename_i hok
  simp only [oBe,oMe] at hc;obtain ⟨ax,hax,ay,hay,rfl⟩:=hc;simp only [execN] at hx
  split at hx
  ·rename_i t' ht
   have hev:=(rel1_of hok hr.env hr.glob _ ht).1
   have hvb:ρ.val (.bool t') = .bool t':=by simp [Rho.val]
   rw [hvb] at hev;refine wp_cond hev ?_
   cases t' with
   | true=>exact ihx hax (by simpa using hx) hr hQ
   | false=>exact ihy hay (by simpa using hx) hr hQ
  ·simp at hx
 | block id x =>
  have ih:=@ihm x (by simp only [csz] at hsz; omega);intro ac hint s s' e ρ a w Q hc hx hr hQ
  cases hint <;> simp only [conv,oMe,reduceCtorEq] at hc
  obtain ⟨ax,hax,rfl⟩:=hc;simp only [execN,oMe,pIq,Prod.exists] at hx;obtain ⟨e1,s1,h1,rfl,rfl⟩:=hx;refine wp_block (ih hax h1 hr fun ρ' a' w' q=>?_)
  have:=hQ ρ' a' w' q
  cases e1 with
  | normal=>exact this
  | ret=>exact this
  | panic v=>exact this
  | goto l=>exact this
  | exit j =>
   simp only [exitOf,Exit.inBlock];simp only [outOf] at this
   split
   ·rename_i hj; rw [if_pos hj] at this; exact this
   ·rename_i hj; rw [if_neg hj] at this; exact this
 | scope x =>
  have ih:=@ihm x (by simp only [csz] at hsz; omega);intro ac hint s s' e ρ a w Q hc hx hr hQ
  cases hint <;> simp only [conv,oMe,reduceCtorEq] at hc
  ·simp only [oBe,oMe] at hc;obtain ⟨ax,hax,r,hfl,ay,hay,rfl⟩:=hc;have ihr:=@ihm r (by have:=findLabel_csz hfl; simp only [csz] at hsz; omega);simp only [execN] at hx
   rcases jumpA_eq hx with ⟨hx,hng⟩ | ⟨s1,hx1,hx2,hng⟩
   ·refine wp_scope_straight (ih hax hx hr fun ρ' a' w' q=>?_)
    have:=hQ ρ' a' w' q
    cases e <;> first | exact this | exact absurd rfl (hng _)
   ·refine wp_scope_jumps _ (fun a1 w1=>∃ ρ1,SRel M.P c ρ1 s1 a1 w1) (fun _ _=>0) hfl (ih hax hx1 hr fun ρ' a' w' q=>⟨rfl,ρ',q⟩) fun a1 w1 ⟨ρ1,hr1⟩=>ihr hay hx2 hr1 fun ρ' a' w' q=>?_
    have:=hQ ρ' a' w' q
    cases e <;> first | exact this | exact absurd rfl (hng _)
  ·obtain ⟨ax,hax,rfl⟩:=hc;simp only [execN] at hx;obtain ⟨hx,hng⟩:=noGo_eq hx;refine wp_scope_straight (ih hax hx hr fun ρ' a' w' q=>?_)
   have:=hQ ρ' a' w' q
   cases e <;> first | exact this | exact absurd rfl (hng _)
 | loop x =>
  have ih:=@ihm x (by simp only [csz] at hsz; omega);intro ac hint s s' e ρ a w Q hc hx hr hQ
  cases hint <;> simp only [conv,reduceCtorEq] at hc
  rename_i live ac0
  split at hc
  case isFalse=>cases hc
  simp only [oMe] at hc;obtain ⟨ax,hax,rfl⟩:=hc;simp only [execN] at hx;refine wp_loop_rounds fuel ?_
  have key:∀ n s s' e ρ a w,iterA (execN M call fuel c.nb c.ro ax) (norm c.nb live) n s = some (e,s') -> SRel M.P c ρ s a w ->
    (∀ ρ' a' w',SRel M.P c ρ' s' a' w' -> Q (exitOf e) a' w') -> Code.rounds M.P x Q n a w:=fun n=>by
   induction n with
   | zero=>intro s s' e ρ a w hx; simp [iterA] at hx
   | succ n ihn =>
    intro s s' e ρ a w hx hr hQ;simp only [iterA,oBe] at hx;obtain ⟨s1,h1,hx⟩:=hx;obtain ⟨ρ1,hr1⟩:=norm_sound h1 hr;rw [rounds_succ];simp only [thenA] at hx
    split at hx
    ·rename_i s2 h2
     exact ih hax h2 hr1 fun ρ' a' w' q=>ihn _ _ _ _ _ _ hx q hQ
    ·rename_i hn
     refine ih hax hx hr1 fun ρ' a' w' q=>?_
     cases e with
     | normal=>exact absurd hx (hn s')
     | exit id=>exact hQ _ _ _ q
     | ret=>exact hQ _ _ _ q
     | panic v=>exact hQ _ _ _ q
     | goto l=>exact hQ _ _ _ q
  exact key _ _ _ _ _ _ _ hx hr hQ
theorem execN_sound (hM:MOk M) (hmix:M.P.follows .mixedOrders = true) (hcall:CallOk M call) {fuel:Nat} (code:Code) {ac hint:AC} {s s':St} {e:Out} {ρ:Rho} {a:Act} {w:World} {Q:Exit -> Act -> World -> Prop}
  (hc:conv M.P c.nt code hint = some ac) (hx:execN M call fuel c.nb c.ro ac s = some (e,s')) (hr:SRel M.P c ρ s a w)
  (hQ:∀ ρ' a' w',SRel M.P c ρ' s' a' w' -> Q (exitOf e) a' w'):code.wp M.P Q a w :=
 execN_sound_sz hM hmix hcall (csz code) code (Nat.le_refl _) hc hx hr hQ
end
end Go.AM
