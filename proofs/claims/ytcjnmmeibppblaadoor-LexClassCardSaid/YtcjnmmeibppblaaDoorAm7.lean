/-
  AN ABSTRACT MACHINE, part 7: one operation of a region, carried out; a region in the text's order.
-/
import Derived.Test.YtcjnmmeibppblaaDoorAm6
set_option linter.unusedVariables false
set_option linter.unusedSimpArgs false
namespace Go.AM
open Go

/-- The package-level variables stand where they stand. -/
def Glob (P : Program) (ρ : Rho) (D : Nat → Prop) : Prop := ∀ g, g < P.globals.size → D g ∧ ρ.blk g = g

theorem Glob.mono {P : Program} {ρ ρ' : Rho} {D D' : Nat → Prop} (h : Glob P ρ D) (ha : Agree D ρ ρ') (hs : ∀ b, D b → D' b) : Glob P ρ' D' :=
  fun g hg => ⟨hs g (h g hg).1, ((ha g (h g hg).1).1).trans (h g hg).2⟩

/-- What a block of ours may hold behind a step: what it held, or what names no block. -/
def Kept (n : Nat) (d : List Nat) (H H' : Hp) : Prop :=
  ∀ b, b < n → b ∉ d → ∀ cs e, H'[b]? = some (.cells cs e) → ∃ cs0, H[b]? = some (.cells cs0 e) ∧ ∀ v ∈ cs, v ∈ cs0 ∨ flat v = true

theorem Kept.refl {n : Nat} {d : List Nat} {H : Hp} : Kept n d H H := fun b hb hd cs e h => ⟨cs, h, fun v hv => .inl hv⟩
theorem Kept.trans {n : Nat} {d d' : List Nat} {H H' H'' : Hp} (h : Kept n d H H') (h' : Kept n d' H' H'') (hs : ∀ b ∈ d, b ∈ d') : Kept n d' H H'' := fun b hb hd cs e hk => by
  obtain ⟨cs1, h1, h2⟩ := h' b hb hd cs e hk
  obtain ⟨cs0, h3, h4⟩ := h b hb (fun hb' => hd (hs b hb')) cs1 e h1
  exact ⟨cs0, h3, fun v hv => (h2 v hv).elim (h4 v) .inr⟩

theorem Shape.facts {nb ro : Nat} {H H' : Hp} (h : Shape nb ro H H') (hr : ro ≤ H.length) (hn : nb ≤ H.length) :
    H.length ≤ H'.length ∧ (∀ b, b < ro → H'[b]? = H[b]?) ∧ Kept nb [] H H' := by
  cases h with
  | same => exact ⟨Nat.le_refl _, fun _ _ => rfl, .refl⟩
  | new x =>
    refine ⟨by simp, fun b hb => List.getElem?_append_left (by omega), fun b hb _ cs e hk => ⟨cs, ?_, fun v hv => .inl hv⟩⟩
    rwa [List.getElem?_append_left (by omega)] at hk
  | iter b s p p' h1 h2 =>
    refine ⟨by simp, fun c hc => List.getElem?_set_ne (by omega), fun c hc _ cs e hk => ?_⟩
    by_cases hcb : c = b
    · subst hcb
      have := (List.getElem?_eq_some_iff.1 h2).1
      simp [this] at hk
    · rw [List.getElem?_set_ne (Ne.symm hcb)] at hk
      exact ⟨cs, hk, fun v hv => .inl hv⟩
  | wr b cs e o vs h1 h2 h3 h4 =>
    refine ⟨by simp, fun c hc => List.getElem?_set_ne (by omega), fun c hc _ cs' e' hk => ?_⟩
    by_cases hcb : c = b
    · subst hcb
      have hl := (List.getElem?_eq_some_iff.1 h2).1
      simp only [List.getElem?_set_self hl, Option.some.injEq, Blk.cells.injEq] at hk
      obtain ⟨rfl, rfl⟩ := hk
      refine ⟨cs, h2, fun v hv => ?_⟩
      rcases mem_wrs hv with hv | hv
      · exact .inl hv
      · rcases h4 with h4 | h4
        · omega
        · exact .inr (List.all_eq_true.1 h4 v hv)
    · rw [List.getElem?_set_ne (Ne.symm hcb)] at hk
      exact ⟨cs', hk, fun v hv => .inl hv⟩
  | tip b x h1 =>
    refine ⟨by simp, fun c hc => ?_, fun c hc _ cs e hk => ?_⟩
    · rw [List.getElem?_append_left (by simp; omega), List.getElem?_set_ne (by omega)]
    · rw [List.getElem?_append_left (by simp; omega)] at hk
      by_cases hcb : c = b
      · subst hcb
        have := (List.getElem?_eq_some_iff.1 hk).1
        simp at this
        simp [this] at hk
      · rw [List.getElem?_set_ne (Ne.symm hcb)] at hk
        exact ⟨cs, hk, fun v hv => .inl hv⟩

structure CallAm (ro : Nat) (H : Hp) (H' : Hp) (d : List Nat) : Prop where
  le : H.length ≤ H'.length
  old : ∀ b, b < ro → H'[b]? = H[b]?
  dirt : ∀ b ∈ d, b < H.length ∧ ro ≤ b
  kept : Kept H.length d H H'

/-- What a call of ours says of the model's. -/
def CallOk (M : Mach) (call : CallF) : Prop := ∀ ro f args H v H' d, call ro f args H = some (v, H', d) → ro ≤ H.length → CallAm ro H H' d ∧
  ∀ ρ D w N W0, HOk M.P ρ D H w ro N W0 → Glob M.P ρ D → (∀ a ∈ args, Cl D a) → Calls M.P f (args.map ρ.val).toArray w fun e w' =>
    ∃ ρ', e = .returned (ρ'.val v) ∧ HOk M.P ρ' (Dn D H.length H'.length) H' w' ro N W0 ∧ Agree D ρ ρ' ∧ Cl (Dn D H.length H'.length) v

section
variable {M : Mach} {call : CallF} {ρ : Rho} {D : Nat → Prop} {w : World} {nb ro : Nat} {N : Nat → Prop} {W0 : Old} {s s' : St} {o : Oper} {ao : AOp} {a : Act}

theorem stVar_wr {P : Program} {H H' : Hp} {t : TypeId} {p : Addr} {v : Value} (h : stVar P ro H t p v = some H') : wrB H ro p.block p.off v.cells.toList = some H' := by
  unfold stVar at h
  split at h
  · simp at h
  · split at h
    · exact h
    · simp at h

theorem wrB_kept {H H' : Hp} {b o : Nat} {vs : List Value} (d : List Nat) (h : wrB H ro b o vs = some H') : Kept nb (soil nb b vs d) H H' := by
  unfold wrB at h
  split at h
  · split at h
    · rename_i cs e hk
      split at h
      · simp only [Option.some.injEq] at h; subst h
        intro c hc hd cs' e' hk'
        by_cases hcb : c = b
        · subst hcb
          have hl := (List.getElem?_eq_some_iff.1 hk).1
          simp only [List.getElem?_set_self hl, Option.some.injEq, Blk.cells.injEq] at hk'
          obtain ⟨rfl, rfl⟩ := hk'
          refine ⟨cs, hk, fun v hv => ?_⟩
          rcases mem_wrs hv with hv | hv
          · exact .inl hv
          · unfold soil at hd
            split at hd
            · simp at hd
            · rename_i hns
              have : vs.all flat = true := by
                cases hh : vs.all flat with
                | true => rfl
                | false => exact absurd ⟨hc, by simp [hh]⟩ hns
              exact .inr (List.all_eq_true.1 this v hv)
        · rw [List.getElem?_set_ne (Ne.symm hcb)] at hk'
          exact ⟨cs', hk', fun v hv => .inl hv⟩
      · simp at h
    · simp at h
  · simp at h

theorem wrB_facts {H H' : Hp} {b o : Nat} {vs : List Value} (h : wrB H ro b o vs = some H') : H'.length = H.length ∧ (∀ c, c < ro → H'[c]? = H[c]?) ∧ ro ≤ b ∧ b < H.length := by
  unfold wrB at h
  split at h
  · rename_i hc
    simp only [Bool.and_eq_true, decide_eq_true_eq] at hc
    split at h
    · rename_i cs e hk
      split at h
      · simp only [Option.some.injEq] at h; subst h
        exact ⟨by simp, fun c hcr => List.getElem?_set_ne (by omega), hc.2, (List.getElem?_eq_some_iff.1 hk).1⟩
      · simp at h
    · simp at h
  · simp at h

/-- What a carried-out operation leaves, seen from our machine alone. -/
structure StepAm (nb ro : Nat) (dst : Option Nat) (s s' : St) : Prop where
  le : s.hp.length ≤ s'.hp.length
  old : ∀ b, b < ro → s'.hp[b]? = s.hp[b]?
  env : ∃ v, s'.env = put dst v s.env
  dirt : ∀ b ∈ s'.dirty, b ∈ s.dirty ∨ (b < nb ∧ ro ≤ b)
  more : ∀ b ∈ s.dirty, b ∈ s'.dirty
  kept : Kept nb s'.dirty s.hp s'.hp

theorem run1_am (hcall : CallOk M call) (hr : run1 M call nb ro ao s = some s') (hro : ro ≤ s.hp.length) (hnb : nb ≤ s.hp.length) : StepAm nb ro ao.dst s s' := by
  have other : ∀ op, (opA M s.env nb ro s.hp ao.type op).bind (fun (r, H) =>
      match r with
      | .val v => some (⟨put ao.dst v s.env, H, s.dirty⟩ : St)
      | .enter f args => (call ro f args H).map fun (v, H, d) => ⟨put ao.dst v s.env, H, d.filter (· < nb) ++ s.dirty⟩) = some s' → StepAm nb ro ao.dst s s' := fun op hr => by
    simp only [Option.bind_eq_some_iff, Prod.exists] at hr
    obtain ⟨r, H, h1, hr⟩ := hr
    obtain ⟨f1, f2, f3⟩ := (opA_shape h1).facts hro hnb
    cases r with
    | val v =>
      simp only [Option.some.injEq] at hr; subst hr
      exact ⟨f1, f2, ⟨v, rfl⟩, fun b hb => .inl hb, fun b hb => hb, fun b hb _ => f3 b hb (by simp)⟩
    | enter f args =>
      simp only [Option.map_eq_some_iff, Prod.exists] at hr
      obtain ⟨v, H2, d, h2, rfl⟩ := hr
      obtain ⟨g1, g2, g3, g4⟩ := (hcall _ _ _ _ _ _ _ h2 (Nat.le_trans hro f1)).1
      refine ⟨Nat.le_trans f1 g1, fun b hb => (g2 b hb).trans (f2 b hb), ⟨v, rfl⟩, fun b hb => ?_, fun b hb => by simp [hb], ?_⟩
      · simp only [List.mem_append, List.mem_filter, decide_eq_true_eq] at hb
        rcases hb with hb | hb
        · exact .inr ⟨hb.2, (g3 b hb.1).2⟩
        · exact .inl hb
      · refine Kept.trans (d := []) (H' := H) f3 (fun b hb hd => g4 b (by omega) fun hbd => hd ?_) (by simp)
        simp [hbd, hb]
  unfold run1 at hr
  split at hr
  · split at hr
    · rename_i p v hp hv
      simp only [Option.map_eq_some_iff] at hr
      obtain ⟨H, hH, rfl⟩ := hr
      have hw := stVar_wr hH
      obtain ⟨f1, f2, f3, f4⟩ := wrB_facts hw
      refine ⟨by simp [f1], f2, ⟨undef, rfl⟩, fun b hb => ?_, fun b hb => ?_, wrB_kept _ hw⟩
      · unfold soil at hb
        split at hb
        · rename_i hs
          rcases List.mem_cons.1 hb with rfl | hb
          · exact .inr ⟨hs.1, f3⟩
          · exact .inl hb
        · exact .inl hb
      · unfold soil
        split
        · exact List.mem_cons_of_mem _ hb
        · exact hb
    · simp at hr
  · exact other _ hr

theorem upon_next {P : Program} {r : Result Next} {next : Act → World → Prop} {Q : Exit → Act → World → Prop} {v : Value} {w' : World} (hr : r = .ok (.value v) w') (h : next (a.put o.dst v) w') : o.upon P a next Q r := by
  subst hr; exact h

/-- **A carried-out operation is the model's.** -/
theorem run1_sound (hM : MOk M) (hcall : CallOk M call) (hr : run1 M call nb ro ao s = some s') (h1 : ao.op = o.op) (h2 : ao.type = o.type) (h3 : ao.dst = o.dst)
    (h : HOk M.P ρ D s.hp w ro N W0) (hg : Glob M.P ρ D) (hro : ro ≤ s.hp.length) (he : ∀ x ∈ o.op.operands.toList, Rel1 ρ D s.env a.eval x) :
    ∃ v, s'.env = put o.dst v s.env ∧ (∃ ρ' w', HOk M.P ρ' (Dn D s.hp.length s'.hp.length) s'.hp w' ro N W0 ∧ Agree D ρ ρ' ∧ Cl (Dn D s.hp.length s'.hp.length) v) ∧
      ∀ (next : Act → World → Prop) (Q : Exit → Act → World → Prop),
      (∀ ρ' w', HOk M.P ρ' (Dn D s.hp.length s'.hp.length) s'.hp w' ro N W0 → Agree D ρ ρ' → Cl (Dn D s.hp.length s'.hp.length) v → next (a.put o.dst (ρ'.val v)) w') → o.wp M.P a w next Q := by
  have other : (opA M s.env nb ro s.hp o.type o.op).bind (fun (r, H) =>
      match r with
      | .val v => some (⟨put o.dst v s.env, H, s.dirty⟩ : St)
      | .enter f args => (call ro f args H).map fun (v, H, d) => ⟨put o.dst v s.env, H, d.filter (· < nb) ++ s.dirty⟩) = some s' →
      ∃ v, s'.env = put o.dst v s.env ∧ (∃ ρ' w', HOk M.P ρ' (Dn D s.hp.length s'.hp.length) s'.hp w' ro N W0 ∧ Agree D ρ ρ' ∧ Cl (Dn D s.hp.length s'.hp.length) v) ∧
      ∀ (next : Act → World → Prop) (Q : Exit → Act → World → Prop),
      (∀ ρ' w', HOk M.P ρ' (Dn D s.hp.length s'.hp.length) s'.hp w' ro N W0 → Agree D ρ ρ' → Cl (Dn D s.hp.length s'.hp.length) v → next (a.put o.dst (ρ'.val v)) w') → o.wp M.P a w next Q := fun hr => by
    simp only [Option.bind_eq_some_iff, Prod.exists] at hr
    obtain ⟨r, H, g1, hr⟩ := hr
    have hs := op_sound (o := o) hM h he g1
    cases r with
    | val v =>
      simp only [Option.some.injEq] at hr; subst hr
      obtain ⟨ρ', w', r1, r2, r3, r4⟩ := hs
      exact ⟨v, rfl, ⟨ρ', w', r2, r3, r4⟩, fun next Q hn => upon_next r1 (hn ρ' w' r2 r3 r4)⟩
    | enter f args =>
      simp only [Option.map_eq_some_iff, Prod.exists] at hr
      obtain ⟨v, H2, d, g2, rfl⟩ := hr
      obtain ⟨rfl, r1, r2⟩ := hs
      obtain ⟨c1, c2⟩ := hcall _ _ _ _ _ _ _ g2 hro
      have hcalls := c2 ρ D w N W0 h hg r2
      refine ⟨v, rfl, ?_, fun next Q hn => ?_⟩
      · obtain ⟨e, w', fr, ⟨ρ', _, q1, q2, q3⟩, _⟩ := hcalls []
        exact ⟨ρ', w', q1, q2, q3⟩
      unfold Oper.wp
      rw [r1, Oper.upon_enter]
      refine hcalls.mono fun e w' ⟨ρ', he', q1, q2, q3⟩ => ?_
      subst he'
      exact hn ρ' w' q1 q2 q3
  unfold run1 at hr
  rw [h1, h2, h3] at hr
  split at hr
  · rename_i t p x hop
    split at hr
    · rename_i p' v hp hv
      simp only [Option.map_eq_some_iff] at hr
      obtain ⟨H, hH, rfl⟩ := hr
      rw [hop] at he
      obtain ⟨p1, p2⟩ := he p (by simp [Op.operands]) _ hp
      obtain ⟨v1, v2⟩ := he x (by simp [Op.operands]) _ hv
      obtain ⟨w', r1, r2, r3⟩ := op_store h (p2 _ (by simp)) v2 hH
      have hfin : HOk M.P ρ (Dn D s.hp.length H.length) H w' ro N W0 := by simp only [r3, Dn_eq]; exact r2
      refine ⟨undef, rfl, ⟨ρ, w', hfin, .refl _ _, .flat (by simp [flat_eq, undef])⟩, fun next Q hn => ?_⟩
      have hrun : (execOp a.eval o).run M.P w = .ok .skip w' := by
        obtain ⟨dst, op, ty, pos, after, gd⟩ := o
        simp only at hop; subst hop
        simp only [execOp, p1, v1]
        exact r1
      unfold Oper.wp
      rw [hrun, Oper.upon_skip]
      have hu : ρ.val undef = undef := by simp [Rho.val, undef]
      rw [← hu]
      exact hn ρ w' hfin (.refl _ _) (.flat (by simp [flat_eq, undef]))
    · simp at hr
  · exact other hr
end
end Go.AM
