import Derived.Test.YtaadjlpfdajggaaGreatDoorFjAm6
set_option linter.unusedVariables false
set_option linter.unusedSimpArgs false
namespace Go.AM
open Go
def Glob (P:Program) (ρ:Rho) (D:Nat -> Prop):Prop:=∀ g,g < P.globals.size -> D g /\ ρ.blk g = g /\ ρ.off g = 0
theorem Glob.mono {P:Program} {ρ ρ':Rho} {D D':Nat -> Prop} (h:Glob P ρ D) (ha:Agree D ρ ρ') (hs:∀ b,D b -> D' b):Glob P ρ' D' :=
 fun g hg=>⟨hs g (h g hg).1,((ha g (h g hg).1).1).trans (h g hg).2.1,((ha g (h g hg).1).2.2).trans (h g hg).2.2⟩
def Kept (n:Nat) (d:List Nat) (H H':Hp):Prop :=
 ∀ b,b < n -> b ∉ d -> ∀ cs e,H'[b]? = some (.cells cs e) -> ∃ cs0,H[b]? = some (.cells cs0 e) /\ ∀ v ∈ cs,v ∈ cs0 \/ flat v = true
theorem Kept.refl {n:Nat} {d:List Nat} {H:Hp}:Kept n d H H:=fun b hb hd cs e h=>⟨cs,h,fun v hv=>.inl hv⟩
theorem Kept.trans {n:Nat} {d d':List Nat} {H H' H'':Hp} (h:Kept n d H H') (h':Kept n d' H' H'') (hs:∀ b ∈ d,b ∈ d'):Kept n d' H H'':=fun b hb hd cs e hk=>by
 obtain ⟨cs1,h1,h2⟩:=h' b hb hd cs e hk;obtain ⟨cs0,h3,h4⟩:=h b hb (fun hb'=>hd (hs b hb')) cs1 e h1;exact ⟨cs0,h3,fun v hv=>(h2 v hv).elim (h4 v) .inr⟩
theorem Shape.facts {nb ro:Nat} {H H':Hp} (h:Shape nb ro H H') (hr:ro <= H.length) (hn:nb <= H.length) :
  H.length <= H'.length /\ (∀ b,b < ro -> H'[b]? = H[b]?) /\ Kept nb [] H H':=by
 cases h with
 | same=>exact ⟨Nat.le_refl _,fun _ _=>rfl,.refl⟩
 | new x =>
  refine ⟨by simp,fun b hb=>lGl (by omega),fun b hb _ cs e hk=>⟨cs,?_,fun v hv=>.inl hv⟩⟩
  rwa [lGl (by omega)] at hk
 | iter b s p p' h1 h2 =>
  refine ⟨by simp,fun c hc=>List.getElem?_set_ne (by omega),fun c hc _ cs e hk=>?_⟩
  by_cases hcb:c = b
  ·subst hcb
   have:=(lGs.1 h2).1
   simp [this] at hk
  ·rw [List.getElem?_set_ne (Ne.symm hcb)] at hk;exact ⟨cs,hk,fun v hv=>.inl hv⟩
 | wr b cs e o vs h1 h2 h3 h4 =>
  refine ⟨by simp,fun c hc=>List.getElem?_set_ne (by omega),fun c hc _ cs' e' hk=>?_⟩
  by_cases hcb:c = b
  ·subst hcb;have hl:=(lGs.1 h2).1;simp only [List.getElem?_set_self hl,oIq,Blk.cells.injEq] at hk;obtain ⟨rfl,rfl⟩:=hk;refine ⟨cs,h2,fun v hv=>?_⟩
   rcases mem_wrs hv with hv | hv
   ·exact .inl hv
   ·rcases h4 with h4 | h4
    ·omega
    ·exact .inr (List.all_eq_true.1 h4 v hv)
  ·rw [List.getElem?_set_ne (Ne.symm hcb)] at hk;exact ⟨cs',hk,fun v hv=>.inl hv⟩
 | tip b x h1 =>
  refine ⟨by simp,fun c hc=>?_,fun c hc _ cs e hk=>?_⟩
  ·rw [lGl (by simp; omega),List.getElem?_set_ne (by omega)]
  ·rw [lGl (by simp; omega)] at hk
   by_cases hcb:c = b
   ·subst hcb
    have:=(lGs.1 hk).1
    simp at this;simp [this] at hk
   ·rw [List.getElem?_set_ne (Ne.symm hcb)] at hk;exact ⟨cs,hk,fun v hv=>.inl hv⟩
structure CallAm (ro:Nat) (H:Hp) (H':Hp) (d:List Nat):Prop where
 le:H.length <= H'.length
 old:∀ b,b < ro -> H'[b]? = H[b]?
 dirt:∀ b ∈ d,b < H.length /\ ro <= b
 kept:Kept H.length d H H'
def realF (f:FuncId):FuncId:=if PB <= f then f - PB else f
def EndsAs (f:FuncId) (v:Value) (ρ':Rho) (e:Ending):Prop :=
 (f < PB /\ e = .returned (ρ'.val v)) \/ (PB <= f /\ ∃ u,(v = tagV true u /\ e = .returned (ρ'.val u)) \/ (v = tagV false u /\ flat u = true /\ e = .panicked [{ v:=u,recovered:=false }]))
theorem realF_lt {f:FuncId} (h:f < PB):realF f = f:=by unfold realF; rw [if_neg (Nat.not_le.2 h)]
theorem realF_ge {f:FuncId}:realF (PB + f) = f:=by unfold realF; rw [if_pos (Nat.le_add_right _ _),Nat.add_sub_cancel_left]
theorem EndsAs.lt {f:FuncId} {v:Value} {ρ':Rho} {e:Ending} (h:EndsAs f v ρ' e) (hf:f < PB):e = .returned (ρ'.val v):=by
 rcases h with h | h
 ·exact h.2
 ·exact absurd h.1 (Nat.not_le.2 hf)
def CallOk (M:Mach) (call:CallF):Prop:=∀ ro f args H v H' d,call ro f args H = some (v,H',d) -> ro <= H.length -> CallAm ro H H' d /\
 ∀ ρ D w N W0,HOk M.P ρ D H w ro N W0 -> Glob M.P ρ D -> (∀ a ∈ args,Cl D a) -> Calls M.P (realF f) (args.map ρ.val).toArray w fun e w' =>
  ∃ ρ',EndsAs f v ρ' e /\ HOk M.P ρ' (Dn D H.length H'.length) H' w' ro N W0 /\ Agree D ρ ρ' /\ Cl (Dn D H.length H'.length) v
section
variable {M:Mach} {call:CallF} {ρ:Rho} {D:Nat -> Prop} {w:World} {nb ro:Nat} {N:Nat -> Prop} {W0:Old} {s s':St} {o:Oper} {ao:AOp} {a:Act}
theorem stVar_wr {P:Program} {H H':Hp} {t:TypeId} {p:Addr} {v:Value} (h:stVar P ro H t p v = some H'):wrB H ro p.block p.off v.cells.toList = some H':=by
 unfold stVar at h
 split at h
 ·simp at h
 ·split at h
  ·exact h
  ·simp at h
theorem wrB_kept {H H':Hp} {b o:Nat} {vs:List Value} (d:List Nat) (h:wrB H ro b o vs = some H'):Kept nb (soil nb b vs d) H H':=by
 unfold wrB at h
 split at h
 ·split at h
  ·rename_i cs e hk
   split at h
   ·simp only [oIq] at h; subst h;intro c hc hd cs' e' hk'
    by_cases hcb:c = b
    ·subst hcb;have hl:=(lGs.1 hk).1;simp only [List.getElem?_set_self hl,oIq,Blk.cells.injEq] at hk';obtain ⟨rfl,rfl⟩:=hk';refine ⟨cs,hk,fun v hv=>?_⟩
     rcases mem_wrs hv with hv | hv
     ·exact .inl hv
     ·unfold soil at hd
      split at hd
      ·simp at hd
      ·rename_i hns
       have:vs.all flat = true:=by
        cases hh:vs.all flat with
        | true=>rfl
        | false=>exact absurd ⟨hc,by simp [hh]⟩ hns
       exact .inr (List.all_eq_true.1 this v hv)
    ·rw [List.getElem?_set_ne (Ne.symm hcb)] at hk';exact ⟨cs',hk',fun v hv=>.inl hv⟩
   ·simp at h
  ·simp at h
 ·simp at h
theorem wrB_facts {H H':Hp} {b o:Nat} {vs:List Value} (h:wrB H ro b o vs = some H'):H'.length = H.length /\ (∀ c,c < ro -> H'[c]? = H[c]?) /\ ro <= b /\ b < H.length:=by
 unfold wrB at h
 split at h
 ·rename_i hc
  simp only [Bool.and_eq_true,decide_eq_true_eq] at hc
  split at h
  ·rename_i cs e hk
   split at h
   ·simp only [oIq] at h; subst h;exact ⟨by simp,fun c hcr=>List.getElem?_set_ne (by omega),hc.2,(lGs.1 hk).1⟩
   ·simp at h
  ·simp at h
 ·simp at h
structure StepAm (nb ro:Nat) (dst:Option Nat) (s s':St):Prop where
 le:s.hp.length <= s'.hp.length
 old:∀ b,b < ro -> s'.hp[b]? = s.hp[b]?
 env:∃ v,s'.env = put dst v s.env
 dirt:∀ b ∈ s'.dirty,b ∈ s.dirty \/ (b < nb /\ ro <= b)
 more:∀ b ∈ s.dirty,b ∈ s'.dirty
 kept:Kept nb s'.dirty s.hp s'.hp
theorem run1_am (hcall:CallOk M call) (hr:run1 M call nb ro ao s = some s') (hro:ro <= s.hp.length) (hnb:nb <= s.hp.length):StepAm nb ro ao.dst s s':=by
 have other:∀ op,(opA M s.env nb ro s.hp ao.type op).bind (fun (r,H) =>
   match r with
   | .val v=>some (⟨put ao.dst v s.env,H,s.dirty⟩:St)
   | .enter f args=>(call ro f args H).map fun (v,H,d)=>⟨put ao.dst v s.env,H,d.filter (· < nb) ++ s.dirty⟩) = some s' -> StepAm nb ro ao.dst s s':=fun op hr=>by
  simp only [oBe,Prod.exists] at hr;obtain ⟨r,H,h1,hr⟩:=hr;obtain ⟨f1,f2,f3⟩:=(opA_shape h1).facts hro hnb
  cases r with
  | val v =>
   simp only [oIq] at hr; subst hr;exact ⟨f1,f2,⟨v,rfl⟩,fun b hb=>.inl hb,fun b hb=>hb,fun b hb _=>f3 b hb (by simp)⟩
  | enter f args =>
   simp only [oMe,Prod.exists] at hr;obtain ⟨v,H2,d,h2,rfl⟩:=hr;obtain ⟨g1,g2,g3,g4⟩:=(hcall _ _ _ _ _ _ _ h2 (nLt hro f1)).1;refine ⟨nLt f1 g1,fun b hb=>(g2 b hb).trans (f2 b hb),⟨v,rfl⟩,fun b hb=>?_,fun b hb=>by simp [hb],?_⟩
   ·simp only [List.mem_append,List.mem_filter,decide_eq_true_eq] at hb
    rcases hb with hb | hb
    ·exact .inr ⟨hb.2,(g3 b hb.1).2⟩
    ·exact .inl hb
   ·refine Kept.trans (d:=[]) (H':=H) f3 (fun b hb hd=>g4 b (by omega) fun hbd=>hd ?_) (by simp);simp [hbd,hb]
 unfold run1 at hr
 split at hr
 ·split at hr
  ·rename_i p v hp hv
   simp only [oMe] at hr;obtain ⟨H,hH,rfl⟩:=hr;have hw:=stVar_wr hH;obtain ⟨f1,f2,f3,f4⟩:=wrB_facts hw;refine ⟨by simp [f1],f2,⟨undef,rfl⟩,fun b hb=>?_,fun b hb=>?_,wrB_kept _ hw⟩
   ·unfold soil at hb
    split at hb
    ·rename_i hs
     rcases List.mem_cons.1 hb with rfl | hb
     ·exact .inr ⟨hs.1,f3⟩
     ·exact .inl hb
    ·exact .inl hb
   ·unfold soil
    split
    ·exact List.mem_cons_of_mem _ hb
    ·exact hb
  ·simp at hr
 ·exact other _ hr
theorem upon_next {P:Program} {r:Result Next} {next:Act -> World -> Prop} {Q:Exit -> Act -> World -> Prop} {v:Value} {w':World} (hr:r = .ok (.value v) w') (h:next (a.put o.dst v) w'):o.upon P a next Q r:=by
 subst hr; exact h
theorem run1_sound (hM:MOk M) (hcall:CallOk M call) (hr:run1 M call nb ro ao s = some s') (h1:ao.op = o.op) (h2:ao.type = o.type) (h3:ao.dst = o.dst)
  (h:HOk M.P ρ D s.hp w ro N W0) (hg:Glob M.P ρ D) (hro:ro <= s.hp.length) (he:∀ x ∈ o.op.operands.toList,Rel1 ρ D s.env a.eval x) :
  ∃ v,s'.env = put o.dst v s.env /\ (∃ ρ' w',HOk M.P ρ' (Dn D s.hp.length s'.hp.length) s'.hp w' ro N W0 /\ Agree D ρ ρ' /\ Cl (Dn D s.hp.length s'.hp.length) v) /\
   ∀ (next:Act -> World -> Prop) (Q:Exit -> Act -> World -> Prop),
   (∀ ρ' w',HOk M.P ρ' (Dn D s.hp.length s'.hp.length) s'.hp w' ro N W0 -> Agree D ρ ρ' -> Cl (Dn D s.hp.length s'.hp.length) v -> next (a.put o.dst (ρ'.val v)) w') -> o.wp M.P a w next Q:=by
 have other:(opA M s.env nb ro s.hp o.type o.op).bind (fun (r,H) =>
   match r with
   | .val v=>some (⟨put o.dst v s.env,H,s.dirty⟩:St)
   | .enter f args=>(call ro f args H).map fun (v,H,d)=>⟨put o.dst v s.env,H,d.filter (· < nb) ++ s.dirty⟩) = some s' ->
   ∃ v,s'.env = put o.dst v s.env /\ (∃ ρ' w',HOk M.P ρ' (Dn D s.hp.length s'.hp.length) s'.hp w' ro N W0 /\ Agree D ρ ρ' /\ Cl (Dn D s.hp.length s'.hp.length) v) /\
   ∀ (next:Act -> World -> Prop) (Q:Exit -> Act -> World -> Prop),
   (∀ ρ' w',HOk M.P ρ' (Dn D s.hp.length s'.hp.length) s'.hp w' ro N W0 -> Agree D ρ ρ' -> Cl (Dn D s.hp.length s'.hp.length) v -> next (a.put o.dst (ρ'.val v)) w') -> o.wp M.P a w next Q:=fun hr=>by
  simp only [oBe,Prod.exists] at hr;obtain ⟨r,H,g1,hr⟩:=hr;have hs:=op_sound (o:=o) hM h he g1
  cases r with
  | val v =>
   simp only [oIq] at hr; subst hr;obtain ⟨ρ',w',r1,r2,r3,r4⟩:=hs;exact ⟨v,rfl,⟨ρ',w',r2,r3,r4⟩,fun next Q hn=>upon_next r1 (hn ρ' w' r2 r3 r4)⟩
  | enter f args =>
   simp only [oMe,Prod.exists] at hr;obtain ⟨v,H2,d,g2,rfl⟩:=hr;obtain ⟨rfl,r1,r2,hsm⟩:=hs;obtain ⟨c1,c2⟩:=hcall _ _ _ _ _ _ _ g2 hro;have hcalls:=c2 ρ D w N W0 h hg r2;rw [realF_lt hsm] at hcalls;refine ⟨v,rfl,?_,fun next Q hn=>?_⟩
   ·obtain ⟨e,w',fr,⟨ρ',_,q1,q2,q3⟩,_⟩:=hcalls [];exact ⟨ρ',w',q1,q2,q3⟩
   unfold Oper.wp;rw [r1,Oper.upon_enter];refine hcalls.mono fun e w' ⟨ρ',he',q1,q2,q3⟩=>?_;obtain rfl:=he'.lt hsm;exact hn ρ' w' q1 q2 q3
 unfold run1 at hr;rw [h1,h2,h3] at hr
 split at hr
 ·rename_i t p x hop
  split at hr
  ·rename_i p' v hp hv
   simp only [oMe] at hr;obtain ⟨H,hH,rfl⟩:=hr;rw [hop] at he;obtain ⟨p1,p2⟩:=he p (by simp [Op.operands]) _ hp;obtain ⟨v1,v2⟩:=he x (by simp [Op.operands]) _ hv;obtain ⟨w',r1,r2,r3⟩:=op_store h (p2 _ (by simp)) v2 hH
   have hfin:HOk M.P ρ (Dn D s.hp.length H.length) H w' ro N W0:=by simp only [r3,Dn_eq]; exact r2
   refine ⟨undef,rfl,⟨ρ,w',hfin,.refl _ _,.flat (by simp [flat_eq,undef])⟩,fun next Q hn=>?_⟩
   have hrun:(execOp a.eval o).run M.P w = .ok .skip w':=by
    obtain ⟨dst,op,ty,pos,after,gd⟩:=o;simp only at hop; subst hop;simp only [execOp,p1,v1];exact r1
   unfold Oper.wp;rw [hrun,Oper.upon_skip]
   have hu:ρ.val undef = undef:=by simp [Rho.val,undef]
   rw [<- hu];exact hn ρ w' hfin (.refl _ _) (.flat (by simp [flat_eq,undef]))
  ·simp at hr
 ·exact other hr
theorem untag_eq {v:Value} {b:Bool} {u:Value} (h:untag v = some (b,u)):v = tagV b u:=by
 unfold untag at h
 split at h
 case h_2=>cases h
 rename_i vs
 split at h
 case h_2=>cases h
 rename_i b' u' hl
 simp only [oIq,pIq] at h;obtain ⟨rfl,rfl⟩:=h;unfold tagV
 congr 1
 exact Array.toList_inj.1 hl
theorem tagV_inj {b b':Bool} {u u':Value} (h:tagV b u = tagV b' u'):b = b' /\ u = u':=by
 unfold tagV at h
 injection h with h
 have:=congrArg Array.toList h
 simp at this;exact this
theorem cl_tag {D:Nat -> Prop} {b:Bool} {u:Value}:Cl D (tagV b u) ↔ Cl D u:=by
 unfold Cl tagV
 simp
theorem run1P_am {x:RP} (hcall:CallOk M call) (hr:run1P M call nb ro ao s = some x) (hro:ro <= s.hp.length) (hnb:nb <= s.hp.length) :
  match x with | .go s'=>StepAm nb ro ao.dst s s' | .pan _ s'=>StepAm nb ro none s s':=by
 have plain:∀ {s'},run1 M call nb ro ao s = some s' -> StepAm nb ro ao.dst s s':=fun h=>run1_am hcall h hro hnb;unfold run1P at hr
 split at hr
 ·split at hr
  ·split at hr
   ·simp only [oIq] at hr; subst hr;exact ⟨Nat.le_refl _,fun _ _=>rfl,⟨undef,rfl⟩,fun b hb=>.inl hb,fun b hb=>hb,.refl⟩
   ·cases hr
  ·cases hr
 ·simp only [oBe,Prod.exists] at hr;obtain ⟨r,H,h1,hr⟩:=hr;obtain ⟨f1,f2,f3⟩:=(callA_shape h1).facts hro hnb
  cases r with
  | val v =>
   simp only [oIq] at hr; subst hr;exact ⟨f1,f2,⟨v,rfl⟩,fun b hb=>.inl hb,fun b hb=>hb,fun b hb _=>f3 b hb (by simp)⟩
  | enter f args =>
   simp only [oBe,Prod.exists] at hr;obtain ⟨v,H2,d,h2,hr⟩:=hr;obtain ⟨g1,g2,g3,g4⟩:=(hcall _ _ _ _ _ _ _ h2 (nLt hro f1)).1
   have fin:∀ (dst:Option Nat) (σ':Env),(∃ u,σ' = put dst u s.env) -> StepAm nb ro dst s ⟨σ',H2,d.filter (· < nb) ++ s.dirty⟩:=fun dst σ' hσ=>by
    refine ⟨nLt f1 g1,fun b hb=>(g2 b hb).trans (f2 b hb),hσ,fun b hb=>?_,fun b hb=>by simp [hb],?_⟩
    ·simp only [List.mem_append,List.mem_filter,decide_eq_true_eq] at hb
     rcases hb with hb | hb
     ·exact .inr ⟨hb.2,(g3 b hb.1).2⟩
     ·exact .inl hb
    ·refine Kept.trans (d:=[]) (H':=H) f3 (fun b hb hd=>g4 b (by omega) fun hbd=>hd ?_) (by simp);simp [hbd,hb]
   split at hr
   ·simp only [oIq] at hr; subst hr; exact fin _ _ ⟨_,rfl⟩
   ·simp only [oIq] at hr; subst hr; exact fin none _ ⟨undef,rfl⟩
   ·cases hr
 ·simp only [oMe] at hr;obtain ⟨s',h1,rfl⟩:=hr;exact plain h1
theorem run1P_sound {x:RP} (hM:MOk M) (hcall:CallOk M call) (hr:run1P M call nb ro ao s = some x) (h1:ao.op = o.op) (h2:ao.type = o.type) (h3:ao.dst = o.dst)
  (h:HOk M.P ρ D s.hp w ro N W0) (hg:Glob M.P ρ D) (hro:ro <= s.hp.length) (he:∀ x ∈ o.op.operands.toList,Rel1 ρ D s.env a.eval x) :
  match x with
  | .go s'=>∃ v,s'.env = put o.dst v s.env /\
   ∀ (next:Act -> World -> Prop) (Q:Exit -> Act -> World -> Prop),
   (∀ ρ' w',HOk M.P ρ' (Dn D s.hp.length s'.hp.length) s'.hp w' ro N W0 -> Agree D ρ ρ' -> Cl (Dn D s.hp.length s'.hp.length) v -> next (a.put o.dst (ρ'.val v)) w') -> o.wp M.P a w next Q
  | .pan v s'=>s'.env = s.env /\
   ∀ (next:Act -> World -> Prop) (Q:Exit -> Act -> World -> Prop),
   (∀ ρ' w',HOk M.P ρ' (Dn D s.hp.length s'.hp.length) s'.hp w' ro N W0 -> Agree D ρ ρ' -> Q (.panic [{ v:=v,recovered:=false }]) a w') -> o.wp M.P a w next Q:=by
 unfold run1P at hr;rw [h1,h2,h3] at hr
 split at hr
 ·rename_i px hop
  split at hr
  ·rename_i t v hv
   split at hr
   ·rename_i hfl
    simp only [oIq] at hr; subst hr;rw [hop] at he;obtain ⟨p1,_⟩:=he px (by simp [Op.operands]) _ hv;refine ⟨rfl,fun next Q hn=>?_⟩
    have hrun:(execOp a.eval o).run M.P w = .halt (.panic (.iface t v)) w:=by
     obtain ⟨dst,op,ty,pos,after,gd⟩:=o;simp only at hop; subst hop;rw [Rho.val_flat hfl] at p1;simp only [execOp,p1,Instr.panic,goPanic,Sem.run_bind];rfl
    unfold Oper.wp;rw [hrun,Oper.upon_panic];exact hn ρ w (by simp only [Dn_eq]; exact h) (.refl _ _)
   ·cases hr
  ·cases hr
 ·rename_i c hop
  simp only [oBe,Prod.exists] at hr;obtain ⟨r,H,g1,hr⟩:=hr
  have g1':opA M s.env nb ro s.hp o.type o.op = some (r,H):=by rw [hop]; exact g1
  have hs:=op_sound (o:=o) hM h he g1'
  cases r with
  | val v =>
   simp only [oIq] at hr; subst hr;obtain ⟨ρ',w',r1,r2,r3,r4⟩:=hs;exact ⟨v,rfl,fun next Q hn=>upon_next r1 (hn ρ' w' r2 r3 r4)⟩
  | enter f args =>
   simp only [oBe,Prod.exists] at hr;obtain ⟨v,H2,d,g2,hr⟩:=hr;obtain ⟨rfl,r1,r2,hsm⟩:=hs;obtain ⟨c1,c2⟩:=hcall _ _ _ _ _ _ _ g2 hro;have hcalls:=c2 ρ D w N W0 h hg r2;rw [realF_ge] at hcalls
   have hge:¬ PB + f < PB:=by omega
   split at hr
   ·rename_i u hu
    have hv:=untag_eq hu;subst hv;simp only [oIq] at hr; subst hr;refine ⟨u,rfl,fun next Q hn=>?_⟩;unfold Oper.wp;rw [r1,Oper.upon_enter];refine hcalls.mono fun e w' ⟨ρ',he',q1,q2,q3⟩=>?_
    rcases he' with he' | ⟨_,u',⟨he1,he2⟩ | ⟨he1,he2,he3⟩⟩
    ·exact absurd he'.1 hge
    ·obtain ⟨_,rfl⟩:=tagV_inj he1;subst he2;exact hn ρ' w' q1 q2 (cl_tag.1 q3)
    ·exact absurd (tagV_inj he1).1 (by decide)
   ·rename_i u hu
    have hv:=untag_eq hu;subst hv;simp only [oIq] at hr; subst hr;refine ⟨rfl,fun next Q hn=>?_⟩;unfold Oper.wp;rw [r1,Oper.upon_enter];refine hcalls.mono fun e w' ⟨ρ',he',q1,q2,q3⟩=>?_
    rcases he' with he' | ⟨_,u',⟨he1,he2⟩ | ⟨he1,he2,he3⟩⟩
    ·exact absurd he'.1 hge
    ·exact absurd (tagV_inj he1).1 (by decide)
    ·obtain ⟨_,rfl⟩:=tagV_inj he1;subst he3;exact hn ρ' w' q1 q2
   ·cases hr
 ·simp only [oMe] at hr;obtain ⟨s',g1,rfl⟩:=hr
  have g1':run1 M call nb ro ⟨o.dst,o.op,o.type,ao.guard⟩ s = some s':=by
   rw [<- h1,<- h2,<- h3]; exact g1
  obtain ⟨v,v1,_,v2⟩:=run1_sound (a:=a) hM hcall g1' rfl rfl rfl h hg hro he;exact ⟨v,v1,v2⟩
end
end Go.AM
