import Derived.Test.YtaadjlpfdajggaaGreatDoorFjAm9b
import Derived.OrdersHeld
set_option linter.unusedVariables false
set_option linter.unusedSimpArgs false
namespace Go.AM
open Go
def goHeld2 (ops:Array Oper):List Nat -> Array Bool -> Bool
  | [],listed=>(Region.ready .any ops listed).isEmpty
  | i :: r,listed=>(Region.ready .any ops listed == [i]) && goHeld2 ops r (listed.setIfInBounds i true)
def goHeld1 (ops:Array Oper) (p2:List Nat):List Nat -> Array Bool -> Bool
  | [],listed=>goHeld2 ops p2 listed
  | i :: r,listed=>Region.free .any ops listed i && (Region.ready .any ops listed).contains i && goHeld1 ops p2 r (listed.setIfInBounds i true)
def chkHeld (ops:Array Oper) (p1 p2:List Nat):Bool:=Region.noSelect ops && decide (p1.length + p2.length = ops.size) && goHeld1 ops p2 p1 (Array.replicate ops.size false)
def pickO (ops:Array Oper):List Nat -> Option (List Oper)
  | []=>some []
  | i :: r=>(ops[i]?).bind fun o=>(pickO ops r).map (o :: ·)
section
variable {M:Mach} {call:CallF} {nb ro:Nat} {s s':St}
theorem wrB_eq {H H':Hp} {ro b o:Nat} {vs:List Value} (h:wrB H ro b o vs = some H'):∃ cs e,H[b]? = some (.cells cs e) /\ H' = H.set b (.cells (wrs cs o vs) e):=by
  unfold wrB at h
  split at h
  · split at h
    · rename_i cs e hcs
      split at h
      · simp only [oIq] at h
        exact ⟨cs,e,hcs,h.symm⟩
      · cases h
    · cases h
  · cases h
theorem heldL_cons {o:AOp} {r:List AOp} {x:List Nat × St} (h:heldL M call nb ro (o :: r) s = some x):o.guard = none /\
    ((∃ t y p v q,o.op = .load t y /\ ev s.env y = some (.pointer (some p)) /\ ldVar M.P s.hp t p = some v /\ heldL M call nb ro r ⟨put o.dst v s.env,s.hp,s.dirty⟩ = some q /\ x = (p.block :: q.1,q.2)) \/
     (∃ t y n fs f a,o.op = .fieldAddr t y n /\ M.P.underlying t = some (.struct fs) /\ ev s.env y = some (.pointer (some a)) /\ fs[n]? = some f /\ (szO M.P f.type).getD 0 ≠ 0 /\ a.spot = none /\
      heldL M call nb ro r ⟨put o.dst (.pointer (some ⟨a.block,a.off + f.offset,none⟩)) s.env,s.hp,s.dirty⟩ = some x)):=by
  unfold heldL at h
  split at h
  · rename_i t y hg ho
    refine ⟨hg,.inl ?_⟩
    split at h
    case h_2=>cases h
    rename_i p hp
    simp only [oBe,oMe] at h;obtain ⟨v,hv,q,hq,rfl⟩:=h;exact ⟨t,y,p,v,q,ho,hp,hv,hq,rfl⟩
  · rename_i t y n hg ho
    refine ⟨hg,.inr ?_⟩
    split at h
    case h_2=>cases h
    rename_i fs a hu ha
    split at h
    case h_2=>cases h
    rename_i f hf
    split at h
    · cases h
    rename_i hz
    simp only [not_or] at hz;exact ⟨t,y,n,fs,f,a,ho,hu,ha,hf,hz.1,by cases hh:a.spot <;> simp_all,h⟩
  · cases h
theorem heldL_steps:∀ {l:List AOp} {s:St} {x:List Nat × St},heldL M call nb ro l s = some x -> stepsA M call nb ro false l s = some x.2 /\ x.2.hp = s.hp
  | [],s,x,h=>by simp only [heldL,oIq] at h; subst h; exact ⟨rfl,rfl⟩
  | o :: r,s,x,h=>by
    obtain ⟨hg,⟨t,y,p,v,q,ho,hp,hv,hq,rfl⟩ | ⟨t,y,n,fs,f,a,ho,hu,ha,hf,hz,hs,hq⟩⟩:=heldL_cons h
    · obtain ⟨g1,g2⟩:=heldL_steps hq
      refine ⟨?_,g2⟩;simp only [stepsA,step1,hg,run1,ho,opA,hp,hv,oMs,oBs];exact g1
    · obtain ⟨g1,g2⟩:=heldL_steps hq
      refine ⟨?_,g2⟩;simp only [stepsA,step1,hg,run1,ho,opA,hu,ha,hf,hz,hs,Option.isSome_none,bFt,or_self,if_false,oBs];exact g1
theorem heldS_cons {bs:List Nat} {o:AOp} {r:List AOp} {x:St} (h:heldS M call nb ro bs (o :: r) s = some x) :
    ∃ s',step1 M call nb ro false o s = some s' /\ heldS M call nb ro bs r s' = some x /\ s'.hp.length = s.hp.length /\ ∀ b ∈ bs,s'.hp[b]? = s.hp[b]?:=by
  unfold heldS at h
  split at h
  · rename_i t a y hg ho
    split at h
    case h_2=>cases h
    rename_i p hp
    split at h
    · cases h
    rename_i hb
    simp only [oBe] at h;obtain ⟨s',h1,h2⟩:=h;refine ⟨s',h1,h2,?_⟩;have hb':∀ b ∈ bs,b ≠ p.block:=fun b hb' e=>hb (by subst e; simpa using hb');simp only [step1,hg,run1,ho,hp] at h1
    split at h1
    · rename_i a' v ha' hv
      injection ha' with ha'; injection ha' with ha'; injection ha' with ha'; subst ha'
      simp only [oMe] at h1;obtain ⟨H,hH,rfl⟩:=h1;obtain ⟨cs,e,hcs,rfl⟩:=wrB_eq (stVar_wr hH);refine ⟨by simp,fun b hb=>?_⟩;exact List.getElem?_set_ne (Ne.symm (hb' b hb))
    · cases h1
  · rename_i t a n hg ho
    simp only [oBe] at h;obtain ⟨s',h1,h2⟩:=h;obtain ⟨e1,_,_⟩:=step1_silent (by rw [ho]; rfl) h1;exact ⟨s',h1,h2,by rw [e1],fun b _=>by rw [e1]⟩
  · cases h
theorem heldS_steps {bs:List Nat}:∀ {l:List AOp} {s x:St},heldS M call nb ro bs l s = some x -> stepsA M call nb ro false l s = some x
  | [],s,x,h=>h
  | o :: r,s,x,h=>by
    obtain ⟨s',h1,h2,_,_⟩:=heldS_cons h;simp only [stepsA,h1,oBs];exact heldS_steps h2
theorem held_steps {l1 l2:List AOp} {x:List Nat × St} (h1:heldL M call nb ro l1 s = some x) (h2:heldS M call nb ro x.1 l2 x.2 = some s'):stepsA M call nb ro false (l1 ++ l2) s = some s':=by
  have e1:=(heldL_steps h1).1;have e2:=heldS_steps h2
  clear h1 h2
  induction l1 generalizing s with
  | nil=>simp only [stepsA,oIq] at e1; subst e1; exact e2
  | cons o r ih =>
    simp only [stepsA,oBe] at e1;obtain ⟨s1,g1,g2⟩:=e1;simp only [List.cons_append,stepsA,g1,oBs];exact ih g2
end
section
variable {M:Mach} {call:CallF} {c:Ctx} {ρ:Rho} {w:World} {s s':St} {a:Act} {ops:Array Oper}
def HeldW (P:Program) (c:Ctx) (ρ0:Rho) (hp0:Hp) (bs:List Nat) (w:World):Prop :=
  ∃ ρ' H',HOk P ρ' (DD c.D0 c.nb hp0.length) H' w c.ro c.N c.W0 /\ Agree (DD c.D0 c.nb hp0.length) ρ0 ρ' /\ ∀ b ∈ bs,H'[b]? = hp0[b]?
theorem held2 (hM:MOk M) (hcall:CallOk M call) {Q:Exit -> Act -> World -> Prop} {bs:List Nat} {hp0:Hp} {ρ0:Rho} {s2:St}
    (hQ:∀ ρ' a' w',SRel M.P c ρ' s2 a' w' -> Q .normal a' w'):∀ (p:List Nat) (o2:List Oper) (l2:List AOp) (s:St) (a:Act) (w:World) (ρ:Rho) (fuel:Nat) (listed:Array Bool),
    pickO ops p = some o2 -> convOps M.P c.nt ops o2 = some l2 -> heldS M call c.nb c.ro bs l2 s = some s2 -> SRel M.P c ρ s a w -> Agree (DD c.D0 c.nb hp0.length) ρ0 ρ -> s.hp.length = hp0.length ->
    (∀ b ∈ bs,s.hp[b]? = hp0[b]?) -> goHeld2 ops p listed = true -> p.length <= fuel -> wpAnyH M.P .any ops Q (HeldW M.P c ρ0 hp0 bs) fuel listed a w
  | [],o2,l2,s,a,w,ρ,fuel,listed,hp,hc,hs,hr,hag,hlen,hbs,hgo,hf=>by
    simp only [pickO,oIq] at hp; subst hp;simp only [convOps,oIq] at hc; subst hc;simp only [heldS,oIq] at hs; subst hs;exact wpAnyH_done (by simpa [goHeld2] using hgo) (hQ _ _ _ hr) fuel
  | i :: p,o2,l2,s,a,w,ρ,fuel,listed,hp,hc,hs,hr,hag,hlen,hbs,hgo,hf=>by
    simp only [pickO,oBe,oMe] at hp;obtain ⟨o,hi,o2,hp,rfl⟩:=hp;simp only [convOps,oBe,oMe] at hc;obtain ⟨ao,hao,l2,hc,rfl⟩:=hc;obtain ⟨s1,h1,h2,e1,e2⟩:=heldS_cons hs;simp only [goHeld2,Bool.and_eq_true,beq_iff_eq] at hgo
    obtain ⟨fuel,rfl⟩:∃ k,fuel = k + 1:=⟨fuel - 1,by simp only [List.length_cons] at hf; omega⟩
    refine wpAnyH_all hgo.1 (by simp) fun j hj=>?_;simp only [List.mem_singleton] at hj; subst hj;obtain ⟨c1,c2,c3,c4,c5⟩:=convOp_eq hao
    have hro:roOf false ao.op c.ro s = c.ro:=by simp [roOf]
    have ham:=step1_am hcall h1 (nLt hr.ron hr.le) hr.le;rw [hro,c4] at ham
    obtain ⟨v,v1,_,v2⟩:=step1_sound (a:=a) (D:=DD c.D0 c.nb s.hp.length) hM hcall h1 hao (by rw [hro]; exact hr.hok) hr.glob (nLt hr.ron hr.le)
      (fun x hx=>rel1_of (okOp_x c1 x hx) hr.env hr.glob) (fun t want u _ hu=>(hr.env t u hu).1)
    have:=v2 (fun a' w'=>HeldW M.P c ρ0 hp0 bs w' /\ wpAnyH M.P .any ops Q (HeldW M.P c ρ0 hp0 bs) fuel (listed.setIfInBounds j true) a' w') Q fun ρ' w' g1 g2 g3=>by
      rw [hro] at g1;have hn:=hr.next ham v1 (okOp_dst c1) g1 g2 g3
      have hag':Agree (DD c.D0 c.nb hp0.length) ρ0 ρ':=hag.trans g2 fun b hb=>by rw [hlen]; exact hb
      have hb':∀ b ∈ bs,s1.hp[b]? = hp0[b]?:=fun b hb=>(e2 b hb).trans (hbs b hb);refine ⟨⟨ρ',s1.hp,?_,hag',hb'⟩,held2 hM hcall hQ p o2 l2 s1 _ w' ρ' fuel _ hp hc h2 hn hag' (e1.trans hlen) hb' hgo.2 (by simp only [List.length_cons] at hf; omega)⟩
      have:=hn.hok
      rw [e1,hlen] at this;exact this
    unfold wpOp;simp only [hi];exact this
theorem held1 (hM:MOk M) (hcall:CallOk M call) {Q:Exit -> Act -> World -> Prop} {p2:List Nat} {bs:List Nat} {s1:St} {n:Nat}
    (hno:Region.noSelect ops = true) (hQp:∀ c a w,¬ Q (.panic c) a w) {ρ0:Rho} {hp0:Hp}
    (hK:∀ a' listed fuel,SRel M.P c ρ0 s1 a' w -> goHeld2 ops p2 listed = true -> n <= fuel -> wpAnyH M.P .any ops Q (HeldW M.P c ρ0 hp0 bs) fuel listed a' w) :
    ∀ (p:List Nat) (o1:List Oper) (l1:List AOp) (s:St) (a:Act) (fuel:Nat) (listed:Array Bool) (x:List Nat × St),
    pickO ops p = some o1 -> convOps M.P c.nt ops o1 = some l1 -> heldL M call c.nb c.ro l1 s = some x -> x.2 = s1 -> (∀ b ∈ x.1,b ∈ bs) -> SRel M.P c ρ0 s a w -> s.hp = hp0 -> goHeld1 ops p2 p listed = true -> p.length + n <= fuel ->
    wpAnyH M.P .any ops Q (HeldW M.P c ρ0 hp0 bs) fuel listed a w
  | [],o1,l1,s,a,fuel,listed,x,hp,hc,hl,hx,hbs,hr,hhp,hgo,hf=>by
    simp only [pickO,oIq] at hp; subst hp;simp only [convOps,oIq] at hc; subst hc;simp only [heldL,oIq] at hl; subst hl;subst hx;exact hK a listed fuel hr hgo (by simpa using hf)
  | i :: p,o1,l1,s,a,fuel,listed,x,hp,hc,hl,hx,hbs,hr,hhp,hgo,hf=>by
    simp only [pickO,oBe,oMe] at hp;obtain ⟨o,hi,o1,hp,rfl⟩:=hp;simp only [convOps,oBe,oMe] at hc;obtain ⟨ao,hao,l1,hc,rfl⟩:=hc;simp only [goHeld1,Bool.and_eq_true] at hgo
    obtain ⟨fuel,rfl⟩:∃ k,fuel = k + 1:=⟨fuel - 1,by simp only [List.length_cons] at hf; omega⟩
    obtain ⟨c1,c2,c3,c4,c5⟩:=convOp_eq hao;have hst:=(heldL_steps hl).1
    have hS:HeldW M.P c ρ0 hp0 bs w:=⟨ρ0,s.hp,by rw [<- hhp]; exact hr.hok,.refl _ _,fun b _=>by rw [hhp]⟩
    have go:∀ (v:Value) (q:List Nat × St),step1 M call c.nb c.ro false ao s = some ⟨put ao.dst v s.env,s.hp,s.dirty⟩ -> Cl (DD c.D0 c.nb s.hp.length) v -> heldL M call c.nb c.ro l1 ⟨put ao.dst v s.env,s.hp,s.dirty⟩ = some q -> q.2 = s1 -> (∀ b ∈ q.1,b ∈ bs) ->
        YieldsIf M.P ops (HeldW M.P c ρ0 hp0 bs) o (ρ0.val v) a -> wpAnyH M.P .any ops Q (HeldW M.P c ρ0 hp0 bs) (fuel + 1) listed a w:=fun v q h1 hcl hq hq2 hqb hy=>by
      have hro:roOf false ao.op c.ro s = c.ro:=by simp [roOf]
      have ham:=step1_am hcall h1 (nLt hr.ron hr.le) hr.le;rw [hro,c4] at ham;rw [c4] at hq
      have hn:SRel M.P c ρ0 ⟨put o.dst v s.env,s.hp,s.dirty⟩ (a.put o.dst (ρ0.val v)) w :=
        hr.next ham rfl (okOp_dst c1) (by simp only [Dn_eq]; exact hr.hok) (.refl _ _) (by simp only [Dn_eq]; exact hcl)
      exact wpAnyH_take hi hno hgo.1.1 hgo.1.2 (fun c a w h=>absurd h (hQp _ _ _)) hy hS (held1 hM hcall hno hQp hK p o1 l1 _ _ fuel _ q hp hc hq hq2 hqb hn hhp hgo.2 (by simp only [List.length_cons] at hf; omega))
    have hwant:ao.guard = none -> Region.wanted o (yielded ops a.tmps) = true:=fun hg=>wanted_none (by rw [c5,hg]) _;obtain ⟨hg,⟨t,y,pp,v,q,ho,hpp,hv,hq,rfl⟩ | ⟨t,y,n',fs,f,aa,ho,hu,ha,hff,hz,hs,hq⟩⟩:=heldL_cons hl
    · have hrel:=rel1_of (okOp_x c1 y (by rw [<- c2,ho]; simp [Op.operands])) hr.env hr.glob _ hpp
      have hin:pp.block ∈ bs:=hbs _ (by simp);have hDp:DD c.D0 c.nb s.hp.length pp.block:=hrel.2 _ (by simp);obtain ⟨_,hvc,_⟩:=run_ldVar hr.hok hDp hv;refine go v q (by simp only [step1,hg,run1,ho,opA,hpp,hv,oMs,oBs]) hvc hq hx (fun b hb=>hbs b (by simp [hb])) (.inl ⟨hwant hg,fun w' ⟨ρ',H',k1,k2,k3⟩=>?_⟩);subst hhp
      have hld:ldVar M.P H' t pp = some v:=by
        unfold ldVar at hv ⊢;rw [k3 _ hin]; exact hv
      obtain ⟨r1,r2,r3⟩:=run_ldVar k1 hDp hld;unfold execOp;rw [<- c2,ho];simp only [hrel.1];rw [<- k2.val (v:=.pointer (some pp)) hrel.2,<- k2.val r2];simp only [Rho.val,vmap_pointer,Instr.loadAt,Instr.sureAddr,Sem.run_bind,Sem.run_pure,Result.andThen_ok] at r1 ⊢;rw [r1];rfl
    · have hrel:=rel1_of (okOp_x c1 y (by rw [<- c2,ho]; simp [Op.operands])) hr.env hr.glob _ ha
      have hDp:DD c.D0 c.nb s.hp.length aa.block:=hrel.2 _ (by simp);refine go _ x (by simp only [step1,hg,run1,ho,opA,hu,ha,hff,hz,hs,Option.isSome_none,bFt,or_self,if_false,oBs]) (fun b hb=>by simp at hb; subst hb; exact hDp) hq hx hbs (.inl ⟨hwant hg,fun w' _=>?_⟩);unfold execOp;rw [<- c2,ho];simp only [hrel.1]
      obtain ⟨n,hn⟩:∃ n,szO M.P f.type = some n:=by cases hn:szO M.P f.type with | none=>simp [hn] at hz | some n=>exact ⟨n,rfl⟩
      have hn0:n ≠ 0:=by simpa [hn] using hz
      simp [Instr.fieldAt,run_underlying hu,hff,Rho.val,Instr.sureAddr,fieldPlace,run_sizeOf' hn,hn0,hs,add_none,Nat.add_right_comm]
theorem held_sound (hM:MOk M) (hcall:CallOk M call) (hmix:M.P.follows .mixedOrders = true) {Q:Exit -> Act -> World -> Prop} {id:Nat} {p1 p2:List Nat} {o1 o2:List Oper} {l1 l2:List AOp} {x:List Nat × St} {s2:St}
    (hchk:chkHeld ops p1 p2 = true) (h1:pickO ops p1 = some o1) (h2:pickO ops p2 = some o2) (c1:convOps M.P c.nt ops o1 = some l1) (c2:convOps M.P c.nt ops o2 = some l2)
    (hL:heldL M call c.nb c.ro l1 s = some x) (hS:heldS M call c.nb c.ro x.1 l2 x.2 = some s2) (hr:SRel M.P c ρ s a { w with drawn:=w.drawn + 1 }) (hQ:∀ ρ' a' w',SRel M.P c ρ' s2 a' w' -> Q .normal a' w'):(Code.region id ops true).wp M.P Q a w:=by
  simp only [chkHeld,Bool.and_eq_true,decide_eq_true_eq] at hchk;refine wp_mono (Q:=fun e a w=>e = .normal /\ Q e a w) ?_ fun e a w h=>h.2;have hhp:=(heldL_steps hL).2;refine wp_region_held (S:=HeldW M.P c ρ s.hp x.1) hmix (held1 hM hcall (n:=p2.length) hchk.1.1 (fun c a w h=>by cases h.1) (fun a' listed fuel hr' hgo hf=>?_) p1 o1 l1 s a _ _ x h1 c1 hL rfl (fun _ h=>h) hr rfl hchk.2 (by omega));exact held2 hM hcall (fun ρ' a' w' h=>⟨rfl,hQ ρ' a' w' h⟩) p2 o2 l2 x.2 a' _ ρ fuel listed h2 c2 hS hr' (.refl _ _) (by rw [hhp]) (fun b _=>by rw [hhp]) hgo hf
end
end Go.AM
