import Derived.Test.YtaadjlpfdajggaaGreatDoorFjAm9c
set_option linter.unusedVariables false
set_option linter.unusedSimpArgs false
namespace Go.AM
open Go
section
variable {M:Mach} {call:CallF} {nb ro:Nat} {quiet:Bool} {ls bs:List Nat}
theorem sameV_eq {x y:Value} (h:sameV x y = true):x = y:=by
 unfold sameV at h
 split at h <;> simp_all
theorem sameL_eq:∀ {l m:List Value},sameL l m = true -> l = m
 | [],[],_=>rfl
 | x :: l,y :: m,h=>by
  simp only [sameL,Bool.and_eq_true] at h;rw [sameV_eq h.1,sameL_eq h.2]
 | [],_ :: _,h=>by simp [sameL] at h
 | _ :: _,[],h=>by simp [sameL] at h
theorem sameB_eq {x y:Option Blk} (h:sameB x y = true):x = y:=by
 unfold sameB at h
 split at h
 ·simp only [Bool.and_eq_true,decide_eq_true_eq] at h;rw [h.1,sameL_eq h.2]
 ·cases h
theorem stabA_cons {k:Nat} {o:AOp} {r:List AOp} {s x:St} (h:stabA M call nb ro quiet ls bs (k + 1) (o :: r) s = some x):∃ s',step1 M call nb ro quiet o s = some s' /\ stabA M call nb ro quiet ls bs k r s' = some x /\
  (stabOp M.P quiet ls bs o s = true \/ ((∀ t y,o.op ≠ .load t y) /\ ∀ b ∈ bs,s.hp[b]? = s'.hp[b]?)):=by
 unfold stabA at h;simp only [oBe] at h;obtain ⟨s',h1,h2⟩:=h
 split at h2
 ·rename_i hs
  exact ⟨s',h1,h2,.inl hs⟩
 ·split at h2
  ·cases h2
  ·rename_i hnl
   split at h2
   case isFalse=>cases h2
   rename_i ha
   exact ⟨s',h1,h2,.inr ⟨fun t y he=>hnl t y he,fun b hb=>sameB_eq (List.all_eq_true.1 ha b hb)⟩⟩
theorem stabA_steps:∀ {k:Nat} {l:List AOp} {s x:St},stabA M call nb ro quiet ls bs k l s = some x -> stepsA M call nb ro quiet l s = some x
 | k,[],s,x,h=>by unfold stabA at h; exact h
 | 0,o :: r,s,x,h=>by unfold stabA at h; exact h
 | k + 1,o :: r,s,x,h=>by
  obtain ⟨s',h1,h2,_⟩:=stabA_cons h;simp only [stepsA,h1,oBs];exact stabA_steps h2
def okK (P:Program) (ls:List Nat) (quiet:Bool) (k:Nat) (ops:Array Oper):Bool :=
 (List.range ops.size).all fun i =>
  match ops[i]? with
  | some o=>!ldIn ls o.op || (decide (i < k) && (match ops[k]? with | some p=>wri P ls quiet p && ((ancs ops.toList).getD k 0).testBit i | none=>true))
  | none=>true
theorem okK_at {P:Program} {ls:List Nat} {quiet:Bool} {k:Nat} {ops:Array Oper} (h:okK P ls quiet k ops = true) {i:Nat} {o:Oper} (ho:ops[i]? = some o) (hl:ldIn ls o.op = true) :
  i < k /\ ∀ p,ops[k]? = some p -> wri P ls quiet p = true /\ mem i ((ancs ops.toList).getD k 0):=by
 unfold okK at h;have h1:=List.all_eq_true.1 h i (List.mem_range.2 (Array.getElem?_eq_some_iff.1 ho).1);simp only [ho,hl,Bool.not_true,Bool.false_or,Bool.and_eq_true,decide_eq_true_eq] at h1;refine ⟨h1.1,fun p hp=>?_⟩;have h2:=h1.2;simp only [hp,Bool.and_eq_true] at h2;exact ⟨h2.1,h2.2⟩
theorem run1_load {ao:AOp} {s s':St} {t:TypeId} {y:Operand} (ho:ao.op = .load t y) (h:run1 M call nb ro ao s = some s') :
  ∃ p v,ev s.env y = some (.pointer (some p)) /\ ldVar M.P s.hp t p = some v /\ s' = ⟨put ao.dst v s.env,s.hp,s.dirty⟩:=by
 unfold run1 at h;rw [ho] at h;simp only [opA] at h
 split at h
 ·rename_i p hp
  simp only [oBe,oMe] at h;obtain ⟨r,⟨v,hv,rfl⟩,h⟩:=h;simp only [oIq] at h;exact ⟨p,v,hp,hv,h.symm⟩
 ·simp at h
theorem run1_storeHp {ao:AOp} {s s':St} {t:TypeId} {a y:Operand} (ho:ao.op = .store t a y) (h:run1 M call nb ro ao s = some s') :
  ∃ p,ev s.env a = some (.pointer (some p)) /\ ∀ b,b ≠ p.block -> s'.hp[b]? = s.hp[b]?:=by
 unfold run1 at h;rw [ho] at h;simp only at h
 split at h
 ·rename_i p v hp hv
  simp only [oMe] at h;obtain ⟨H,hH,rfl⟩:=h;obtain ⟨cs,e,hcs,rfl⟩:=wrB_eq (stVar_wr hH);exact ⟨p,hp,fun b hb=>List.getElem?_set_ne (Ne.symm hb)⟩
 ·cases h
theorem step1_cases {ao:AOp} {s s':St} (h:step1 M call nb ro quiet ao s = some s'):(∃ r,run1 M call nb r ao s = some s') \/ s'.hp = s.hp:=by
 unfold step1 at h
 split at h
 ·exact .inl ⟨_,h⟩
 ·split at h
  ·split at h
   ·exact .inl ⟨_,h⟩
   ·simp only [oIq] at h; subst h; exact .inr rfl
  ·simp only [oIq] at h; subst h; exact .inr rfl
  ·cases h
theorem stab_step (hcall:CallOk M call) {ao:AOp} {s s':St} {n0:Nat} (hs:stabOp M.P quiet ls bs ao s = true) (h:step1 M call nb ro quiet ao s = some s') (hbs:∀ b ∈ bs,b < n0) (hn:n0 <= s.hp.length) (hro:ro <= s.hp.length) (hnb:nb <= s.hp.length) :
  ∀ b ∈ bs,s'.hp[b]? = s.hp[b]?:=fun b hb=>by
 have hlt:=Nat.lt_of_lt_of_le (hbs b hb) hn
 have ld:∀ t y,ao.op = .load t y -> s'.hp = s.hp:=fun t y ho=>by
  rcases step1_cases h with ⟨r,hr⟩ | he
  ·obtain ⟨p,v,_,_,rfl⟩:=run1_load ho hr; rfl
  ·exact he
 unfold stabOp at hs
 split at hs
 ·rename_i t x ho; rw [ld _ _ ho]
 ·rename_i t x _ ho; rw [ld _ _ ho]
 ·rename_i t a y ho
  rcases step1_cases h with ⟨r,hr⟩ | he
  ·obtain ⟨p,hp,hh⟩:=run1_storeHp ho hr;rw [hp] at hs;refine hh b fun e=>?_;subst e;simp [hb] at hs
  ·rw [he]
 ·simp only [Bool.or_eq_true,Bool.and_eq_true,Bool.not_eq_true'] at hs
  rcases hs with hs | ⟨hq,hw⟩
  ·rw [(step1_silent hs h).1]
  ·exact (step1_am hcall h hro hnb).old b (by unfold roOf; simp [hq,hw]; exact hlt)
end
section
variable {M:Mach} {call:CallF} {ρ:Rho} {D:Nat -> Prop} {w:World} {nb ro nt:Nat} {N:Nat -> Prop} {W0:Old} {s s':St} {quiet:Bool} {ops:Array Oper} {al:List AOp} {a:Act} {ls bs:List Nat}
theorem stab_all {k:Nat} (hcall:CallOk M call) (hc:convOps M.P nt ops ops.toList = some al) (hk:okK M.P ls quiet k ops = true) (hs:stabA M call nb ro quiet ls bs k al s = some s') (hbs:∀ b ∈ bs,b < s.hp.length) (hro:ro <= s.hp.length) (hnb:nb <= s.hp.length) :
  ∀ st:Nat -> St,st 0 = s -> (∀ (i:Nat) (o:Oper),ops[i]? = some o -> ∃ ao,al[i]? = some ao /\ step1 M call nb ro quiet ao (st i) = some (st (i + 1))) ->
   ∀ (i:Nat) (o:Oper) (ao:AOp),ops[i]? = some o -> al[i]? = some ao -> ldIn ls o.op = true -> (st (i + 1)).hp = (st i).hp /\ ∀ q,q <= ops.size -> (∀ (j:Nat) (p:Oper),j < q -> ops[j]? = some p -> wri M.P ls quiet p = true -> ¬ mem i ((ancs ops.toList).getD j 0)) -> ∀ d2,step1 M call nb ro quiet ao ⟨(st i).env,(st q).hp,d2⟩ = some ⟨(st (i + 1)).env,(st q).hp,d2⟩:=by
 intro st h0 hst;obtain ⟨hlen,hget⟩:=convOps_get hc
 have hlen':al.length = ops.size:=by simpa using hlen
 have key:∀ i,i <= ops.size -> i <= k -> stabA M call nb ro quiet ls bs (k - i) (al.drop i) (st i) = some s' /\ s.hp.length <= (st i).hp.length /\ ∀ b ∈ bs,(st i).hp[b]? = s.hp[b]?:=fun i=>by
  induction i with
  | zero=>intro _ _; rw [h0]; exact ⟨hs,Nat.le_refl _,fun _ _=>rfl⟩
  | succ i ih =>
   intro hi hik;obtain ⟨k1,k2,k3⟩:=ih (by omega) (by omega);obtain ⟨ao,hao,hstep⟩:=hst i _ (Array.getElem?_eq_getElem (by omega))
   have hd:al.drop i = ao :: al.drop (i + 1):=by
    rw [List.drop_eq_getElem_cons (by omega)]
    congr 1
    exact oIj ((List.getElem?_eq_getElem (by omega)).symm.trans hao)
   rw [hd,show k - i = (k - (i + 1)) + 1 by omega] at k1;obtain ⟨s1,k5,k6,k4⟩:=stabA_cons k1
   rw [hstep] at k5; injection k5 with k5; subst k5
   have ham:=step1_am hcall hstep (nLt hro k2) (nLt hnb k2);exact ⟨k6,nLt k2 ham.le,fun b hb=>(k4.elim (fun k4=>stab_step hcall k4 hstep hbs k2 (nLt hro k2) (nLt hnb k2) b hb) fun k4=>(k4.2 b hb).symm).trans (k3 b hb)⟩
 intro i o ao ho hao hld0;obtain ⟨hik,hkw⟩:=okK_at hk ho hld0;have hld:=hld0;have hi:=(Array.getElem?_eq_some_iff.1 ho).1;obtain ⟨ao',ha',hstep⟩:=hst i o ho
 rw [hao] at ha'; injection ha' with ha'; subst ha'
 obtain ⟨ao',ha',hcv⟩:=hget i o (by simpa using ho)
 rw [hao] at ha'; injection ha' with ha'; subst ha'
 obtain ⟨c1,c2,c3,c4,c5⟩:=convOp_eq hcv;obtain ⟨k1,k2,k3⟩:=key i (by omega) (by omega)
 have hd:al.drop i = ao :: al.drop (i + 1):=by
  rw [List.drop_eq_getElem_cons (by omega)]
  congr 1
  exact oIj ((List.getElem?_eq_getElem (by omega)).symm.trans hao)
 rw [hd,show k - i = (k - (i + 1)) + 1 by omega] at k1;obtain ⟨_,_,_,k4⟩:=stabA_cons k1;unfold ldIn at hld
 split at hld
 case h_2=>cases hld
 rename_i t x hop
 have hop':ao.op = .load t (.tmp x):=by rw [c2,hop]
 replace k4:=k4.resolve_right fun h=>h.1 _ _ hop';unfold stabOp at k4;rw [hop'] at k4;simp only [hld,if_true,Bool.and_eq_true,Option.isNone_iff_eq_none] at k4;obtain ⟨hg,k4⟩:=k4
 split at k4
 case h_2=>cases k4
 rename_i p hp
 have hin:p.block ∈ bs:=by simpa using k4
 have hst1:=hstep;simp only [step1,hg] at hst1;obtain ⟨p',v,e1,e2,e3⟩:=run1_load hop' hst1
 have:p' = p:=by
  have e1':look (st i).env x = some (.pointer (some p')):=e1
  rw [hp] at e1'; injection e1' with e; injection e with e; injection e with e; exact e.symm
 subst this;refine ⟨by rw [e3],fun q hq hfree d2=>?_⟩
 have hqk:q <= k:=by
  rcases Nat.lt_or_ge k q with h | h
  ·have hp:=Array.getElem?_eq_getElem (xs:=ops) (i:=k) (by omega);obtain ⟨g1,g2⟩:=hkw _ hp;exact absurd g2 (hfree k _ h hp g1)
  ·exact h
 obtain ⟨_,_,q3⟩:=key q hq hqk;have hsame:(st q).hp[p'.block]? = (st i).hp[p'.block]?:=(q3 _ hin).trans (k3 _ hin).symm
 have hld2:ldVar M.P (st q).hp t p' = some v:=by
  unfold ldVar at e2 ⊢;rw [hsame]; exact e2
 rw [e3];simp only [step1,hg,run1,hop',opA,ev,hp,hld2,oMs,oBs]
theorem drawL_sound (hM:MOk M) (hcall:CallOk M call) {Q:Exit -> Act -> World -> Prop} (hc:convOps M.P nt ops ops.toList = some al) {k:Nat} (hk:okK M.P ls quiet k ops = true) (hd:okDraw M.P ls quiet ops.toList al = true)
  {dfs:List Deferred} (hs:stabA M call nb ro quiet ls bs k al s = some s') (hbs:∀ b ∈ bs,b < s.hp.length) (h:HOk M.P ρ D s.hp w ro N W0) (hg:Glob M.P ρ D) (he:ER ρ D s.env a.tmps) (hsz:a.tmps.size = nt) (hdf:a.defers = dfs)
  (hro:ro <= s.hp.length) (hnb:nb <= s.hp.length)
  (hQ:∀ ρ' a' w',HOk M.P ρ' (Dn D s.hp.length s'.hp.length) s'.hp w' ro N W0 -> Agree D ρ ρ' -> ER ρ' (Dn D s.hp.length s'.hp.length) s'.env (a':Act).tmps -> a'.tmps.size = nt -> a'.defers = dfs -> Q .normal a' w') :
  wpAny M.P .any ops Q ops.size (Array.replicate ops.size false) a { w with drawn:=w.drawn + 1 } :=
 draw_soundL (real:=ops) (W:=fun _=>W0) (jl:=0) hM hcall rfl (fun i o r h1 h2=>by rw [h1] at h2; cases h2; exact ⟨rfl,rfl,rfl,fun _=>rfl⟩) (fun _ _ _=>rfl)
  (fun r o ao h1 h2 hne=>absurd (oIj (h1.symm.trans h2)) hne) (stab_all hcall hc hk hs hbs hro hnb) hc hd (fun o r h1 h2 hne=>absurd (oIj (h2.symm.trans h1)) hne) (stabA_steps hs) h hg he hsz hdf hro hnb hQ
end
end Go.AM
