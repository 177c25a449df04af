import Derived.Test.YtaadjlpfdajggaaGreatDoorFjAm13
set_option linter.unusedVariables false
set_option linter.unusedSimpArgs false
namespace Go.AM
open Go
def Tk (M:Mach) (c:Ctx) (ac:AC) (K:Exit -> St -> Prop) (s:St):Prop :=
 ∀ code hint,conv M.P c.nt code hint = some ac -> ∀ ρ a w,SRel M.P c ρ s a w ->
  code.wp M.P (fun e a' w'=>∃ s' ρ',SRel M.P c ρ' s' a' w' /\ (∀ b,b < c.ro -> s'.hp[b]? = s.hp[b]?) /\ K e s') a w
def kseq (M:Mach) (c:Ctx) (b:AC) (K:Exit -> St -> Prop):Exit -> St -> Prop
 | .normal,s=>Tk M c b K s
 | e,s=>K e s
def kblock (id:Nat) (K:Exit -> St -> Prop):Exit -> St -> Prop
 | .exit j,s=>if j = id then K .normal s else K (.exit j) s
 | e,s=>K e s
def kloop (I:St -> Prop) (K:Exit -> St -> Prop):Exit -> St -> Prop
 | .normal,s=>I s
 | e,s=>K e s
theorem conv_region {P:Program} {nt id:Nat} {ops:Array Oper} {draw:Bool} {h ac:AC} (hc:conv P nt (.region id ops draw) h = some ac) :
  (∃ q l,ac = .ops q l) \/ (∃ l,ac = .opsP l) \/ (∃ q t ta x l,ac = .late q t ta x l) \/ (∃ p1 p2 l1 l2,ac = .held p1 p2 l1 l2) \/ ∃ ls k q l,ac = .opsL ls k q l:=by
 cases h with
 | opsL ls k q l =>
  cases draw with
  | false=>simp [conv] at hc
  | true =>
   simp only [conv,oBe] at hc;obtain ⟨_,_,hc⟩:=hc
   split at hc
   case isFalse=>cases hc
   injection hc with hc
   exact .inr (.inr (.inr (.inr ⟨_,_,_,_,hc.symm⟩)))
 | held p1 p2 l1 l2 =>
  cases draw with
  | false=>simp [conv] at hc
  | true =>
   simp only [conv] at hc
   split at hc
   case isFalse=>cases hc
   simp only [oBe,oMe] at hc;obtain ⟨_,_,_,_,_,_,_,_,hc⟩:=hc;exact .inr (.inr (.inr (.inl ⟨_,_,_,_,hc.symm⟩)))
 | opsP l =>
  cases draw with
  | true=>simp [conv] at hc
  | false =>
   simp only [conv,oMe] at hc;obtain ⟨l',_,hc⟩:=hc;exact .inr (.inl ⟨_,hc.symm⟩)
 | ops q l =>
  simp only [conv,oBe] at hc;obtain ⟨l',_,hc⟩:=hc
  split at hc <;> split at hc <;> first | (injection hc with hc; exact .inl ⟨_,_,hc.symm⟩) | cases hc
 | late q t ta x l =>
  cases draw with
  | false=>simp [conv] at hc
  | true =>
   simp only [conv,convLate,oBe] at hc;obtain ⟨⟨k,t',x'⟩,_,hc⟩:=hc;simp only at hc
   split at hc
   ·simp only [oBe] at hc;obtain ⟨l',_,hc⟩:=hc
    split at hc
    ·injection hc with hc; exact .inr (.inr (.inl ⟨_,_,_,_,_,hc.symm⟩))
    ·cases hc
   ·cases hc
 | _=>simp [conv] at hc
section
variable {M:Mach} {call:CallF} {c:Ctx} {K K':Exit -> St -> Prop} {s s':St} {a b:AC}
theorem Tk.mono (h:Tk M c a K s) (hk:∀ e s,K e s -> K' e s):Tk M c a K' s:=fun code hint hc ρ ac w hr =>
 wp_mono (h code hint hc ρ ac w hr) fun e a w ⟨s',ρ',h1,h2,h3⟩=>⟨s',ρ',h1,h2,hk _ _ h3⟩
theorem tk_run (hM:MachOk M) (hcall:CallOk M call) {fuel:Nat} {o:Out} (h:execN M call fuel c.nb c.ro a s = some (o,s')) (hk:K (exitOf o) s'):Tk M c a K s:=fun code hint hc ρ ac w hr =>
 execN_sound hM.mok hM.mix hcall code hc h hr fun ρ' a' w' q=>⟨s',ρ',q,(execN_am hcall hr.ron a h hr.le hr.dirt).old,hk⟩
theorem tk_skip (hM:MachOk M) (h:K .normal s):Tk M c .skip K s:=tk_run (fuel:=0) (o:=.normal) hM noC_ok rfl h
theorem tk_ret (hM:MachOk M) (h:K .ret s):Tk M c .ret K s:=tk_run (fuel:=0) (o:=.ret) hM noC_ok rfl h
theorem tk_exit (hM:MachOk M) {id:Nat} (h:K (.exit id) s):Tk M c (.exit id) K s:=tk_run (fuel:=0) (o:=.exit id) hM noC_ok rfl h
theorem tk_seq (h:Tk M c a (kseq M c b K) s):Tk M c (.seq a b) K s:=fun code hint hc ρ ac w hr=>by
 have key:∃ ca cb ha hb,code = .seq ca cb /\ conv M.P c.nt ca ha = some a /\ conv M.P c.nt cb hb = some b:=by
  cases code <;> first | (rcases conv_region hc with ⟨_,_,h⟩ | ⟨_,h⟩ | ⟨_,_,_,_,_,h⟩ | ⟨_,_,_,_,h⟩ | ⟨_,_,_,_,h⟩ <;> cases h) | (cases hint <;> simp only [conv,oBe,oMe,reduceCtorEq,and_false,exists_false,oIq,AC.seq.injEq] at hc) | skip
  all_goals first
   | (obtain ⟨ax,hax,ay,hay,rfl,rfl⟩:=hc; exact ⟨_,_,_,_,rfl,hax,hay⟩)
   | (split at hc <;> simp [oBe] at hc)
 obtain ⟨ca,cb,ha,hb,rfl,h1,h2⟩:=key;refine wp_seq (wp_mono (h ca ha h1 ρ ac w hr) fun e a' w' ⟨s1,ρ1,g1,g2,g3⟩=>?_)
 cases e with
 | normal=>exact wp_mono (g3 cb hb h2 ρ1 a' w' g1) fun e a w ⟨s2,ρ2,k1,k2,k3⟩=>⟨s2,ρ2,k1,fun b hb=>(k2 b hb).trans (g2 b hb),k3⟩
 | _=>exact ⟨s1,ρ1,g1,g2,g3⟩
theorem tk_cond {x:Operand} {t:Bool} (hx:ev s.env x = some (.bool t)) (h1:t = true -> Tk M c a K s) (h2:t = false -> Tk M c b K s):Tk M c (.cond x a b) K s:=fun code hint hc ρ ac w hr=>by
 have key:∃ ca cb ha hb,code = .cond x ca cb /\ okX M.P x = true /\ conv M.P c.nt ca ha = some a /\ conv M.P c.nt cb hb = some b:=by
  cases code <;> first | (rcases conv_region hc with ⟨_,_,h⟩ | ⟨_,h⟩ | ⟨_,_,_,_,_,h⟩ | ⟨_,_,_,_,h⟩ | ⟨_,_,_,_,h⟩ <;> cases h) | (cases hint <;> simp only [conv,oBe,oMe,reduceCtorEq,and_false,exists_false,oIq,AC.cond.injEq] at hc) | skip
  split at hc
  ·simp only [oBe,oMe,AC.cond.injEq] at hc;obtain ⟨ax,hax,ay,hay,rfl,rfl,rfl⟩:=hc;exact ⟨_,_,_,_,rfl,by assumption,hax,hay⟩
  ·cases hc
  ·split at hc <;> simp at hc
 obtain ⟨ca,cb,ha,hb,rfl,h0,g1,g2⟩:=key;have hev:=(rel1_of h0 hr.env hr.glob _ hx).1
 have hvb:ρ.val (.bool t) = .bool t:=by simp [Rho.val]
 rw [hvb] at hev;refine wp_cond hev ?_
 cases t with
 | true=>exact h1 rfl ca ha g1 ρ ac w hr
 | false=>exact h2 rfl cb hb g2 ρ ac w hr
theorem tk_block {id:Nat} (h:Tk M c a (kblock id K) s):Tk M c (.block id a) K s:=fun code hint hc ρ ac w hr=>by
 have key:∃ ca ha,code = .block id ca /\ conv M.P c.nt ca ha = some a:=by
  cases code <;> first | (rcases conv_region hc with ⟨_,_,h⟩ | ⟨_,h⟩ | ⟨_,_,_,_,_,h⟩ | ⟨_,_,_,_,h⟩ | ⟨_,_,_,_,h⟩ <;> cases h) | (cases hint <;> simp only [conv,oBe,oMe,reduceCtorEq,and_false,exists_false,oIq,AC.block.injEq] at hc) | skip
  all_goals first
   | (obtain ⟨ax,hax,rfl,rfl⟩:=hc; exact ⟨_,_,rfl,hax⟩)
   | (split at hc <;> simp [oBe] at hc)
 obtain ⟨ca,ha,rfl,h1⟩:=key;refine wp_block (wp_mono (h ca ha h1 ρ ac w hr) fun e a' w' ⟨s1,ρ1,g1,g2,g3⟩=>?_)
 cases e with
 | exit j =>
  simp only [Exit.inBlock];simp only [kblock] at g3
  split
  ·rename_i hj; rw [if_pos hj] at g3; exact ⟨s1,ρ1,g1,g2,g3⟩
  ·rename_i hj; rw [if_neg hj] at g3; exact ⟨s1,ρ1,g1,g2,g3⟩
 | _=>exact ⟨s1,ρ1,g1,g2,g3⟩
theorem tk_loop {live:List Nat} (I:Nat -> St -> Prop) {n:Nat} (hI:I n s) (h0:∀ s,¬ I 0 s) (h:∀ k s,I (k + 1) s -> Tk M c a (kloop (I k) K) s):Tk M c (.loop live a) K s:=fun code hint hc ρ ac w hr=>by
 have key:∃ ca ha,code = .loop ca /\ conv M.P c.nt ca ha = some a:=by
  cases code <;> first | (rcases conv_region hc with ⟨_,_,h⟩ | ⟨_,h⟩ | ⟨_,_,_,_,_,h⟩ | ⟨_,_,_,_,h⟩ | ⟨_,_,_,_,h⟩ <;> cases h) | (cases hint <;> simp only [conv,oBe,oMe,reduceCtorEq,and_false,exists_false,oIq] at hc) | skip
  ·split at hc <;> simp [oBe] at hc
  ·split at hc
   ·simp only [oMe,AC.loop.injEq] at hc;obtain ⟨ax,hax,_,rfl⟩:=hc;exact ⟨_,_,rfl,hax⟩
   ·cases hc
 obtain ⟨ca,ha,rfl,h1⟩:=key;refine wp_loop_rounds n ?_
 have key:∀ n s1 ρ ac w,SRel M.P c ρ s1 ac w -> (∀ b,b < c.ro -> s1.hp[b]? = s.hp[b]?) -> I n s1 ->
   Code.rounds M.P ca (fun e a' w'=>∃ s' ρ',SRel M.P c ρ' s' a' w' /\ (∀ b,b < c.ro -> s'.hp[b]? = s.hp[b]?) /\ K e s') n ac w:=fun n=>by
  induction n with
  | zero=>exact fun s1 ρ ac w _ _ hi=>(h0 s1 hi).elim
  | succ n ih =>
   intro s1 ρ ac w hr hold hi;rw [rounds_succ];refine wp_mono (h n s1 hi ca ha h1 ρ ac w hr) fun e a' w' ⟨s2,ρ2,g1,g2,g3⟩=>?_;have g2':∀ b,b < c.ro -> s2.hp[b]? = s.hp[b]?:=fun b hb=>(g2 b hb).trans (hold b hb)
   cases e with
   | normal=>exact ih s2 ρ2 a' w' g1 g2' g3
   | _=>exact ⟨s2,ρ2,g1,g2',g3⟩
 exact key n s ρ ac w hr (fun _ _=>rfl) hI
def Rn (M:Mach) (call:CallF) (nb ro:Nat) (q:Bool) (l:List AOp) (s:St) (J:St -> Prop):Prop :=
 match stepsA M call nb ro q l s with
 | some s'=>J s'
 | none=>False
theorem Rn.out {nb ro:Nat} {q:Bool} {l:List AOp} {J:St -> Prop} (h:Rn M call nb ro q l s J):∃ s',stepsA M call nb ro q l s = some s' /\ J s':=by
 unfold Rn at h
 split at h
 ·exact ⟨_,by assumption,h⟩
 ·exact h.elim
theorem stepsA_app {nb ro:Nat} {q:Bool}:∀ {l1 l2:List AOp} {s:St},stepsA M call nb ro q (l1 ++ l2) s = (stepsA M call nb ro q l1 s).bind (stepsA M call nb ro q l2)
 | [],_,_=>rfl
 | o :: l1,l2,s=>by
  simp only [List.cons_append,stepsA]
  cases step1 M call nb ro q o s with
  | none=>rfl
  | some s1=>exact stepsA_app
theorem rn_app {nb ro:Nat} {q:Bool} {l1 l2:List AOp} {J:St -> Prop} (J1:St -> Prop) (h:Rn M call nb ro q l1 s J1) (h2:∀ s1,J1 s1 -> Rn M call nb ro q l2 s1 J):Rn M call nb ro q (l1 ++ l2) s J:=by
 obtain ⟨s1,h1,hj⟩:=h.out
 have:=h2 s1 hj
 unfold Rn at this ⊢;rw [stepsA_app,h1];exact this
theorem rn_mono {nb ro:Nat} {q:Bool} {l:List AOp} {J J':St -> Prop} (h:Rn M call nb ro q l s J) (hj:∀ s,J s -> J' s):Rn M call nb ro q l s J':=by
 obtain ⟨s1,h1,h2⟩:=h.out;unfold Rn; rw [h1]; exact hj _ h2
theorem tk_ops (hM:MachOk M) (hcall:CallOk M call) {q:Bool} {l:List AOp} (h:Rn M call c.nb c.ro q l s (K .normal)):Tk M c (.ops q l) K s:=by
 obtain ⟨s1,h1,h2⟩:=h.out;exact tk_run (fuel:=0) (o:=.normal) hM hcall (by simp only [execN,h1,oMs]) h2
theorem tk_late (hM:MachOk M) (hcall:CallOk M call) {q:Bool} {t:TypeId} {ta:Nat} {x:Operand} {l:List AOp} (h:lateA M call c.nb c.ro q t ta x l s = some s') (hk:K .normal s'):Tk M c (.late q t ta x l) K s :=
 tk_run (fuel:=0) (o:=.normal) hM hcall (by simp only [execN,h,oMs]) hk
theorem tk_os (hM:MachOk M) (hcall:CallOk M call) {q:Bool} {l:List AOp} (h:∀ J:St -> Prop,(∀ s,Tk M c b K s -> J s) -> Rn M call c.nb c.ro q l s J):Tk M c (.seq (.ops q l) b) K s :=
 tk_seq (tk_ops hM hcall (h _ fun _ h=>h))
theorem tk_oe (hM:MachOk M) (hcall:CallOk M call) {q:Bool} {l:List AOp} (h:∀ J:St -> Prop,(∀ s,K .normal s -> J s) -> Rn M call c.nb c.ro q l s J):Tk M c (.ops q l) K s :=
 tk_ops hM hcall (h _ fun _ h=>h)
theorem tk_seq_k (h:∀ K1:Exit -> St -> Prop,(∀ s,Tk M c b K s -> K1 .normal s) -> (∀ e s,e ≠ .normal -> K e s -> K1 e s) -> Tk M c a K1 s):Tk M c (.seq a b) K s :=
 tk_seq (h _ (fun _ h=>h) fun e s he hk=>by cases e <;> first | exact absurd rfl he | exact hk)
theorem tk_seq_j (J:St -> Prop) (h1:∀ s,J s -> Tk M c b K s) (h:∀ K1:Exit -> St -> Prop,(∀ s,J s -> K1 .normal s) -> (∀ e s,e ≠ .normal -> K e s -> K1 e s) -> Tk M c a K1 s):Tk M c (.seq a b) K s :=
 tk_seq_k fun K1 hn hx=>h K1 (fun s hs=>hn s (h1 s hs)) hx
theorem tk_block_k {id:Nat} (h:∀ K1:Exit -> St -> Prop,(∀ s,K .normal s -> K1 .normal s) -> (∀ s,K .normal s -> K1 (.exit id) s) -> (∀ e s,e ≠ .normal -> e ≠ .exit id -> K e s -> K1 e s) -> Tk M c a K1 s):Tk M c (.block id a) K s :=
 tk_block (h _ (fun _ h=>h) (fun s hs=>by simpa only [kblock,if_true] using hs) fun e s he hi hk=>by
  cases e with
  | exit j =>
   simp only [kblock];rw [if_neg fun e=>hi (by rw [e])];exact hk
  | normal=>exact absurd rfl he
  | _=>exact hk)
theorem tk_loop_k {live:List Nat} (I:Nat -> St -> Prop) {n:Nat} (hI:I n s) (h0:∀ s,¬ I 0 s) (h:∀ k (K1:Exit -> St -> Prop),(∀ s,I k s -> K1 .normal s) -> (∀ e s,e ≠ .normal -> K e s -> K1 e s) -> ∀ s,I (k + 1) s -> Tk M c a K1 s):Tk M c (.loop live a) K s :=
 tk_loop I hI h0 fun k s hs=>h k _ (fun _ h=>h) (fun e s he hk=>by cases e <;> first | exact absurd rfl he | exact hk) s hs
theorem tk_late_s (hM:MachOk M) (hcall:CallOk M call) {q:Bool} {t:TypeId} {ta bk off:Nat} {x:Operand} {l:List AOp} {cs:List Value} {e:TypeId} (hx:look s.env ta = some (.pointer (some ⟨bk,off,none⟩))) (hb:s.hp[bk]? = some (.cells cs e)) (hr:c.ro <= bk) (hn:c.nb <= bk)
  (h:∀ J:St -> Prop,(∀ s1 v,ev s1.env x = some v -> flat v = true -> v.cells.toList.all oneB = true -> szO M.P t = some v.cells.toList.length -> off + v.cells.toList.length <= cs.length -> s1.hp[bk]? = some .dead -> Tk M c b K ⟨s1.env,s1.hp.set bk (.cells (wrs cs off v.cells.toList) e),s1.dirty⟩ -> J s1) ->
   Rn M call c.nb c.ro q l ⟨s.env,s.hp.set bk .dead,s.dirty⟩ J):Tk M c (.seq (.late q t ta x l) b) K s:=by
 obtain ⟨s1,h1,v,v1,v2,v3,v4,v5,v6,v7⟩:=(h (fun s1=>∃ v,ev s1.env x = some v /\ flat v = true /\ v.cells.toList.all oneB = true /\ szO M.P t = some v.cells.toList.length /\ off + v.cells.toList.length <= cs.length /\ s1.hp[bk]? = some .dead /\ Tk M c b K ⟨s1.env,s1.hp.set bk (.cells (wrs cs off v.cells.toList) e),s1.dirty⟩)
  fun s1 v a1 a2 a3 a4 a5 a6 a7=>⟨v,a1,a2,a3,a4,a5,a6,a7⟩).out
 refine tk_seq (tk_late hM hcall (s':=⟨s1.env,s1.hp.set bk (.cells (wrs cs off v.cells.toList) e),s1.dirty⟩) ?_ v7);simp only [lateA,hx,hb,hr,hn,and_self,if_true,h1,oBs,v1,v6,v2,v3,v4,v5,beq_self_eq_true,decide_true,Bool.and_self,Bool.and_true,Bool.true_and]
end
end Go.AM
