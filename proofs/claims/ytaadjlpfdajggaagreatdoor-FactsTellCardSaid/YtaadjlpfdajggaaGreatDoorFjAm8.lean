import Derived.Test.YtaadjlpfdajggaaGreatDoorFjAm7
set_option linter.unusedVariables false
set_option linter.unusedSimpArgs false
namespace Go.AM
open Go
def ER (ρ:Rho) (D:Nat -> Prop) (σ:Env) (tm:Array Value):Prop:=∀ t v,look σ t = some v -> tm[t]? = some (ρ.val v) /\ Cl D v
def okX (P:Program):Operand -> Bool
 | .const v=>flat v
 | .global g=>decide (g < P.globals.size)
 | _=>true
def okOp (P:Program) (nt:Nat) (o:Oper):Bool :=
 (match o.dst with | some d=>decide (d < nt) | none=>true) && o.op.operands.toList.all (okX P)
def guardOf (ops:Array Oper) (o:Oper):Option (Option (Nat × Bool)) :=
 match o.guard with
 | none=>some none
 | some (j,want)=>((ops[j]?).bind (·.dst)).map fun t=>some (t,want)
def convOp (P:Program) (nt:Nat) (ops:Array Oper) (o:Oper):Option AOp :=
 if okOp P nt o then (guardOf ops o).map fun g=>⟨o.dst,o.op,o.type,g⟩ else none
def convOps (P:Program) (nt:Nat) (ops:Array Oper):List Oper -> Option (List AOp)
 | []=>some []
 | o :: r=>(convOp P nt ops o).bind fun x=>(convOps P nt ops r).map (x :: ·)
section
variable {M:Mach} {call:CallF} {ρ:Rho} {D:Nat -> Prop} {w:World} {nb ro nt:Nat} {N:Nat -> Prop} {W0:Old} {s s':St} {o:Oper} {ao:AOp} {a:Act} {ops:Array Oper}
theorem rel1_of {P:Program} {σ:Env} {x:Operand} (hx:okX P x = true) (he:ER ρ D σ a.tmps) (hg:Glob P ρ D):Rel1 ρ D σ a.eval x:=fun v hv=>by
 cases x with
 | tmp t =>
  obtain ⟨h1,h2⟩:=he t v hv;exact ⟨by simp [Act.eval,h1],h2⟩
 | const u =>
  simp only [ev,oIq] at hv; subst hv;exact ⟨(Rho.val_flat hx).symm,.flat hx⟩
 | global g =>
  simp only [ev,oIq] at hv; subst hv;obtain ⟨h1,h2,h3⟩:=hg g (by simpa [okX] using hx);exact ⟨by simp [Act.eval,Rho.val,h2,h3],fun b hb=>by simp at hb; subst hb; exact h1⟩
 | func f =>
  simp only [ev,oIq] at hv; subst hv;exact ⟨by simp [Act.eval,Rho.val,fnMap],fun b hb=>by simp [fnAddrs] at hb⟩
theorem ER.put {ρ':Rho} {D':Nat -> Prop} {σ:Env} {d:Option Nat} {v:Value} (he:ER ρ D σ a.tmps) (ha:Agree D ρ ρ') (hs:∀ b,D b -> D' b) (hc:Cl D' v)
  (hd:∀ t,d = some t -> t < a.tmps.size):ER ρ' D' (put d v σ) (a.put d (ρ'.val v)).tmps:=fun t u hu=>by
 cases d with
 | none =>
  obtain ⟨h1,h2⟩:=he t u hu;exact ⟨by simp only [Act.put]; rw [h1,ha.val h2],h2.mono hs⟩
 | some d =>
  simp only [AM.put,look] at hu
  split at hu
  ·rename_i hdt; subst hdt
   simp only [oIq] at hu; subst hu;exact ⟨by simp [Act.put,hd d rfl],hc⟩
  ·rename_i hdt
   obtain ⟨h1,h2⟩:=he t u hu;refine ⟨?_,h2.mono hs⟩;simp only [Act.put];rw [Array.getElem?_setIfInBounds_ne hdt,h1,ha.val h2]
theorem ER.mono {ρ':Rho} {D':Nat -> Prop} {σ:Env} {tm:Array Value} (he:ER ρ D σ tm) (ha:Agree D ρ ρ') (hs:∀ b,D b -> D' b):ER ρ' D' σ tm:=fun t u hu=>by
 obtain ⟨h1,h2⟩:=he t u hu;exact ⟨by rw [h1,ha.val h2],h2.mono hs⟩
def roOf (quiet:Bool) (op:Op) (ro:Nat) (s:St):Nat:=if quiet && !isW op then s.hp.length else ro
def Step (P:Program) (ops:Array Oper) (o:Oper) (a:Act) (w:World) (K:Act -> World -> Prop) (Q:Exit -> Act -> World -> Prop):Prop :=
 if Region.wanted o (yielded ops a.tmps) then o.wp P a w K Q \/ (o.asks P a w /\ LetsOut Q) else K (a.put o.dst undef) w
theorem wanted_none (hg:guardOf ops o = some none) (tm:Array Value):Region.wanted o (yielded ops tm) = true:=by
 unfold guardOf at hg
 split at hg
 ·rename_i h; simp [Region.wanted,h]
 ·obtain ⟨_,_,h⟩:=oMe.1 hg
  cases h
theorem wanted_some {t:Nat} {want:Bool} (hg:guardOf ops o = some (some (t,want))) (tm:Array Value) :
  Region.wanted o (yielded ops tm) = (match tm[t]? with | some (.bool b)=>b == want | _=>false):=by
 unfold guardOf at hg
 split at hg
 ·simp at hg
 ·rename_i j w' h
  simp only [oMe,oIq,pIq] at hg;obtain ⟨d,hd,rfl,rfl⟩:=hg;simp only [Region.wanted,h,yielded,hd,oBs]
  cases tm[d]? with
  | none=>simp
  | some v=>cases v <;> simp
theorem convOp_eq {P:Program} (hc:convOp P nt ops o = some ao):okOp P nt o = true /\ ao.op = o.op /\ ao.type = o.type /\ ao.dst = o.dst /\ guardOf ops o = some ao.guard:=by
 unfold convOp at hc
 split at hc
 ·rename_i h
  simp only [oMe] at hc;obtain ⟨g,hg,rfl⟩:=hc;exact ⟨h,rfl,rfl,rfl,hg⟩
 ·simp at hc
theorem okOp_dst {P:Program} (h:okOp P nt o = true):∀ t,o.dst = some t -> t < nt:=fun t ht=>by
 simp only [okOp,ht,Bool.and_eq_true,decide_eq_true_eq] at h; exact h.1
theorem okOp_x {P:Program} (h:okOp P nt o = true):∀ x ∈ o.op.operands.toList,okX P x = true:=fun x hx=>by
 simp only [okOp,Bool.and_eq_true,List.all_eq_true] at h; exact h.2 x hx
theorem step1_am {quiet:Bool} (hcall:CallOk M call) (hr:step1 M call nb ro quiet ao s = some s') (hro:ro <= s.hp.length) (hnb:nb <= s.hp.length) :
  StepAm nb (roOf quiet ao.op ro s) ao.dst s s':=by
 have hro':roOf quiet ao.op ro s <= s.hp.length:=by unfold roOf; split <;> omega
 have skip:StepAm nb (roOf quiet ao.op ro s) ao.dst s ⟨AM.put ao.dst undef s.env,s.hp,s.dirty⟩ :=
  ⟨Nat.le_refl _,fun _ _=>rfl,⟨_,rfl⟩,fun b hb=>.inl hb,fun b hb=>hb,.refl⟩
 unfold step1 at hr
 split at hr
 ·exact run1_am hcall hr hro' hnb
 ·split at hr
  ·split at hr
   ·exact run1_am hcall hr hro' hnb
   ·simp only [oIq] at hr; subst hr; exact skip
  ·simp only [oIq] at hr; subst hr; exact skip
  ·simp at hr
theorem step1_sound {quiet:Bool} (hM:MOk M) (hcall:CallOk M call) (hr:step1 M call nb ro quiet ao s = some s') (hc:convOp M.P nt ops o = some ao)
  (h:HOk M.P ρ D s.hp w (roOf quiet ao.op ro s) N W0) (hg:Glob M.P ρ D) (hro:ro <= s.hp.length) (he:∀ x ∈ o.op.operands.toList,Rel1 ρ D s.env a.eval x)
  (hgd:∀ t want v,ao.guard = some (t,want) -> look s.env t = some v -> a.tmps[t]? = some (ρ.val v)) :
  ∃ v,s'.env = AM.put o.dst v s.env /\ (∃ ρ' w',HOk M.P ρ' (Dn D s.hp.length s'.hp.length) s'.hp w' (roOf quiet ao.op ro s) N W0 /\ Agree D ρ ρ' /\ Cl (Dn D s.hp.length s'.hp.length) v) /\ ∀ (K:Act -> World -> Prop) (Q:Exit -> Act -> World -> Prop),
   (∀ ρ' w',HOk M.P ρ' (Dn D s.hp.length s'.hp.length) s'.hp w' (roOf quiet ao.op ro s) N W0 -> Agree D ρ ρ' -> Cl (Dn D s.hp.length s'.hp.length) v -> K (a.put o.dst (ρ'.val v)) w') -> Step M.P ops o a w K Q:=by
 obtain ⟨c1,c2,c3,c4,c5⟩:=convOp_eq hc
 have hro':roOf quiet ao.op ro s <= s.hp.length:=by unfold roOf; split <;> omega
 have skip:∀ (hw:Region.wanted o (yielded ops a.tmps) = false) (hs:s' = ⟨AM.put ao.dst undef s.env,s.hp,s.dirty⟩),
   ∃ v,s'.env = AM.put o.dst v s.env /\ (∃ ρ' w',HOk M.P ρ' (Dn D s.hp.length s'.hp.length) s'.hp w' (roOf quiet ao.op ro s) N W0 /\ Agree D ρ ρ' /\ Cl (Dn D s.hp.length s'.hp.length) v) /\ ∀ (K:Act -> World -> Prop) (Q:Exit -> Act -> World -> Prop),
   (∀ ρ' w',HOk M.P ρ' (Dn D s.hp.length s'.hp.length) s'.hp w' (roOf quiet ao.op ro s) N W0 -> Agree D ρ ρ' -> Cl (Dn D s.hp.length s'.hp.length) v -> K (a.put o.dst (ρ'.val v)) w') -> Step M.P ops o a w K Q:=fun hw hs=>by
  subst hs;refine ⟨undef,by rw [c4],⟨ρ,w,by simp only [Dn_eq]; exact h,.refl _ _,.flat (by simp [flat_eq,undef])⟩,fun K Q hK=>?_⟩
  have hu:ρ.val undef = undef:=by simp [Rho.val,undef]
  have:=hK ρ w (by simp only [Dn_eq]; exact h) (.refl _ _) (.flat (by simp [flat_eq,undef]))
  rw [hu] at this;unfold Step;rw [hw];exact this
 have go:∀ (hw:Region.wanted o (yielded ops a.tmps) = true) (hr:run1 M call nb (roOf quiet ao.op ro s) ao s = some s'),
   ∃ v,s'.env = AM.put o.dst v s.env /\ (∃ ρ' w',HOk M.P ρ' (Dn D s.hp.length s'.hp.length) s'.hp w' (roOf quiet ao.op ro s) N W0 /\ Agree D ρ ρ' /\ Cl (Dn D s.hp.length s'.hp.length) v) /\ ∀ (K:Act -> World -> Prop) (Q:Exit -> Act -> World -> Prop),
   (∀ ρ' w',HOk M.P ρ' (Dn D s.hp.length s'.hp.length) s'.hp w' (roOf quiet ao.op ro s) N W0 -> Agree D ρ ρ' -> Cl (Dn D s.hp.length s'.hp.length) v -> K (a.put o.dst (ρ'.val v)) w') -> Step M.P ops o a w K Q:=fun hw hr=>by
  obtain ⟨v,v1,ve,v2⟩:=run1_sound (a:=a) hM hcall hr c2 c3 c4 h hg hro' he;refine ⟨v,v1,ve,fun K Q hK=>?_⟩;unfold Step;rw [hw];exact .inl (v2 K Q hK)
 unfold step1 at hr
 split at hr
 ·rename_i hgu
  exact go (wanted_none (by rw [c5,hgu]) _) hr
 ·rename_i t want hgu
  have hwant:=wanted_some (by rw [c5,hgu]) a.tmps
  split at hr
  ·rename_i b hb
   have ht:=hgd t want _ hgu hb
   have hvb:ρ.val (.bool b) = .bool b:=by simp [Rho.val]
   rw [ht,hvb] at hwant
   split at hr
   ·rename_i hbw
    exact go (by rw [hwant]; simp [hbw]) hr
   ·rename_i hbw
    simp only [oIq] at hr;exact skip (by rw [hwant]; simp [hbw]) hr.symm
  ·rename_i u hnb hu
   have ht:=hgd t want _ hgu hu;rw [ht] at hwant;simp only [oIq] at hr;refine skip (hwant.trans ?_) hr.symm
   cases u with
   | bool b=>exact absurd rfl (hnb b)
   | pointer x=>cases x <;> simp [Rho.val]
   | slice x n q=>cases x <;> simp [Rho.val]
   | map r=>cases r <;> simp [Rho.val]
   | chan r=>cases r <;> simp [Rho.val]
   | _=>simp [Rho.val]
  ·simp at hr
end
structure Ctx where
 nt:Nat
 D0:Nat -> Prop
 nb:Nat
 ro:Nat
 N:Nat -> Prop
 W0:Old
 ρ0:Rho
 dfs:List Deferred:=[]
def DD (D0:Nat -> Prop) (nb n:Nat):Nat -> Prop:=fun b=>(b < nb /\ D0 b) \/ (nb <= b /\ b < n)
theorem Dn_DD {D0:Nat -> Prop} {nb n m:Nat} (h1:nb <= n) (h2:n <= m):Dn (DD D0 nb n) n m = DD D0 nb m:=by
 funext b
 apply propext;unfold Dn DD
 constructor
 ·rintro ((h | h) | h)
  ·exact .inl h
  ·exact .inr (by omega)
  ·exact .inr (by omega)
 ·rintro (h | h)
  ·exact .inl (.inl h)
  ·by_cases hb:b < n
   ·exact .inl (.inr ⟨h.1,hb⟩)
   ·exact .inr (by omega)
structure SRel (P:Program) (c:Ctx) (ρ:Rho) (s:St) (a:Act) (w:World):Prop where
 hok:HOk P ρ (DD c.D0 c.nb s.hp.length) s.hp w c.ro c.N c.W0
 env:ER ρ (DD c.D0 c.nb s.hp.length) s.env a.tmps
 le:c.nb <= s.hp.length
 ron:c.ro <= c.nb
 clean:∀ b,b < c.nb -> c.D0 b -> b ∉ s.dirty -> ∀ cs e,s.hp[b]? = some (.cells cs e) -> ∀ v ∈ cs,∀ i ∈ addrs v,i < c.nb
 dirt:∀ b ∈ s.dirty,b < c.nb /\ c.ro <= b
 size:a.tmps.size = c.nt
 defs:a.defers = c.dfs
 agree:Agree (fun b=>b < c.nb /\ c.D0 b) c.ρ0 ρ
 gl:∀ g,g < P.globals.size -> g < c.nb /\ c.D0 g /\ c.ρ0.blk g = g /\ c.ρ0.off g = 0
theorem SRel.glob {P:Program} {c:Ctx} {ρ:Rho} {s:St} {a:Act} {w:World} (h:SRel P c ρ s a w):Glob P ρ (DD c.D0 c.nb s.hp.length):=fun g hg=>by
 obtain ⟨h1,h2,h3⟩:=h.gl g hg;exact ⟨.inl ⟨h1,h2⟩,by rw [(h.agree g ⟨h1,h2⟩).1,h3.1],by rw [(h.agree g ⟨h1,h2⟩).2.2,h3.2]⟩
section
variable {M:Mach} {call:CallF} {c:Ctx} {ρ:Rho} {w:World} {s s':St} {a:Act} {ops:Array Oper}
theorem SRel.next {ρ':Rho} {w':World} {dst:Option Nat} {v:Value} (h:SRel M.P c ρ s a w) (hs:StepAm c.nb c.ro dst s s') (hv:s'.env = AM.put dst v s.env) (hd:∀ t,dst = some t -> t < c.nt)
  (h1:HOk M.P ρ' (Dn (DD c.D0 c.nb s.hp.length) s.hp.length s'.hp.length) s'.hp w' c.ro c.N c.W0) (h2:Agree (DD c.D0 c.nb s.hp.length) ρ ρ')
  (h3:Cl (Dn (DD c.D0 c.nb s.hp.length) s.hp.length s'.hp.length) v):SRel M.P c ρ' s' (a.put dst (ρ'.val v)) w':=by
 rw [Dn_DD h.le hs.le] at h1 h3
 have sub:∀ b,DD c.D0 c.nb s.hp.length b -> DD c.D0 c.nb s'.hp.length b:=fun b hb=>by
  rcases hb with hb | hb
  ·exact .inl hb
  ·exact .inr ⟨hb.1,Nat.lt_of_lt_of_le hb.2 hs.le⟩
 refine ⟨h1,?_,nLt h.le hs.le,h.ron,fun b hb hD hn cs e hk u hu i hi=>?_,fun b hb=>?_,?_,?_,?_,h.gl⟩
 ·rw [hv]; exact h.env.put h2 sub h3 fun t ht=>by rw [h.size]; exact hd t ht
 ·obtain ⟨cs0,k1,k2⟩:=hs.kept b hb hn cs e hk
  rcases k2 u hu with k2 | k2
  ·exact h.clean b hb hD (fun hb'=>hn (hs.more b hb')) cs0 e k1 u k2 i hi
  ·have:addrs u = []:=by simpa [flat_eq] using k2
   rw [this] at hi; cases hi
 ·rcases hs.dirt b hb with hb | hb
  ·exact h.dirt b hb
  ·exact hb
 ·cases dst <;> simp [Act.put,h.size]
 ·cases dst <;> simp [Act.put,h.defs]
 ·exact h.agree.trans h2 fun b hb=>.inl hb
theorem stepsA_sound (hM:MOk M) (hcall:CallOk M call) {Q:Exit -> Act -> World -> Prop}:∀ (rest:List Oper) (l:List AOp) (s:St) (a:Act) (w:World) (ρ:Rho),
  convOps M.P c.nt ops rest = some l -> stepsA M call c.nb c.ro false l s = some s' -> SRel M.P c ρ s a w ->
  (∀ ρ' a' w',SRel M.P c ρ' s' a' w' -> Q .normal a' w') -> wpList M.P ops Q rest a w
 | [],l,s,a,w,ρ,hc,hs,h,hQ=>by
  simp only [convOps,oIq] at hc; subst hc;simp only [stepsA,oIq] at hs; subst hs;exact hQ ρ a w h
 | o :: rest,l,s,a,w,ρ,hc,hs,h,hQ=>by
  simp only [convOps,oBe,oMe] at hc;obtain ⟨ao,hao,l',hl',rfl⟩:=hc;simp only [stepsA,oBe] at hs;obtain ⟨s1,h1,hs⟩:=hs;obtain ⟨c1,c2,c3,c4,c5⟩:=convOp_eq hao
  have hro:roOf false ao.op c.ro s = c.ro:=by simp [roOf]
  have ham:=step1_am hcall h1 (nLt h.ron h.le) h.le;rw [hro,c4] at ham
  obtain ⟨v,v1,_,v2⟩:=step1_sound (a:=a) (D:=DD c.D0 c.nb s.hp.length) hM hcall h1 hao (by rw [hro]; exact h.hok) h.glob (nLt h.ron h.le)
   (fun x hx=>rel1_of (okOp_x c1 x hx) h.env h.glob) (fun t want u _ hu=>(h.env t u hu).1)
  change Step M.P ops o a w (wpList M.P ops Q rest) Q;refine v2 _ _ fun ρ' w' g1 g2 g3=>?_;rw [hro] at g1;exact stepsA_sound hM hcall rest l' s1 _ w' ρ' hl' hs (h.next ham v1 (okOp_dst c1) g1 g2 g3) hQ
theorem stepsP_sound (hM:MOk M) (hcall:CallOk M call) {Q:Exit -> Act -> World -> Prop} {x:RP}:∀ (rest:List Oper) (l:List AOp) (s:St) (a:Act) (w:World) (ρ:Rho),
  convOps M.P c.nt ops rest = some l -> stepsP M call c.nb c.ro l s = some x -> SRel M.P c ρ s a w ->
  (match x with
   | .go s'=>∀ ρ' a' w',SRel M.P c ρ' s' a' w' -> Q .normal a' w'
   | .pan v s'=>∀ ρ' a' w',SRel M.P c ρ' s' a' w' -> Q (.panic [{ v:=v,recovered:=false }]) a' w') -> wpList M.P ops Q rest a w
 | [],l,s,a,w,ρ,hc,hs,h,hQ=>by
  simp only [convOps,oIq] at hc; subst hc;simp only [stepsP,oIq] at hs; subst hs;exact hQ ρ a w h
 | o :: rest,l,s,a,w,ρ,hc,hs,h,hQ=>by
  simp only [convOps,oBe,oMe] at hc;obtain ⟨ao,hao,l',hl',rfl⟩:=hc;obtain ⟨c1,c2,c3,c4,c5⟩:=convOp_eq hao;simp only [stepsP] at hs
  split at hs
  ·cases hs
  rename_i hgd
  have hgn:ao.guard = none:=by
   cases hq:ao.guard with
   | none=>rfl
   | some _=>rw [hq] at hgd; exact absurd rfl hgd
  have hw:=wanted_none (by rw [c5,hgn]) a.tmps;change Step M.P ops o a w (wpList M.P ops Q rest) Q;unfold Step;rw [if_pos hw]
  cases hy:run1P M call c.nb c.ro ao s with
  | none=>rw [hy] at hs; cases hs
  | some y =>
   rw [hy] at hs;have hx:∀ x ∈ o.op.operands.toList,Rel1 ρ (DD c.D0 c.nb s.hp.length) s.env a.eval x:=fun x hx=>rel1_of (okOp_x c1 x hx) h.env h.glob;have hrl:=nLt h.ron h.le
   cases y with
   | go s1 =>
    have m:=run1P_am hcall hy hrl h.le;obtain ⟨v,v1,v2⟩:=run1P_sound (a:=a) hM hcall hy c2 c3 c4 h.hok h.glob hrl hx;simp only at m hs;rw [c4] at m;refine .inl (v2 _ _ fun ρ' w' g1 g2 g3=>?_);exact stepsP_sound hM hcall rest l' s1 _ w' ρ' hl' hs (h.next m v1 (okOp_dst c1) g1 g2 g3) hQ
   | pan v s1 =>
    have m:=run1P_am hcall hy hrl h.le;obtain ⟨v1,v2⟩:=run1P_sound (a:=a) hM hcall hy c2 c3 c4 h.hok h.glob hrl hx;simp only [oIq] at m hs;subst hs;refine .inl (v2 _ _ fun ρ' w' g1 g2=>hQ ρ' a w' ?_);exact h.next (dst:=none) (v:=undef) m v1 (fun t ht=>by cases ht) g1 g2 (.flat (by simp [flat_eq,undef]))
end
end Go.AM
