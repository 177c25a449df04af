import Derived.Test.YtaadjlpfdajggaaGreatDoorFjAm11
set_option linter.unusedVariables false
set_option linter.unusedSimpArgs false
namespace Go.AM
open Go
def isGo:AC -> Bool
 | .goto _=>true
 | _=>false
structure FunOk (P:Program) (g:FuncId) (af:AFun):Prop where
 ok : ∃ fn code hint, P.funcs[g]? = some fn /\ (fn.name == "runtime.NumGoroutine") = false /\ fn.body = some code /\ fn.ntmps = af.nt /\ fn.results.toList = af.results /\
  (conv P af.nt code hint = some af.body \/ isGo af.body = true)
structure MachOk (M:Mach):Prop where
 F:∀ g af,M.F g = some af -> FunOk M.P g af
 X:∀ g ex (args:List Value) v,M.X g = some ex -> ex args = some v -> (∀ x ∈ args,flat x = true) -> ∀ w,(callFunc g args.toArray).run M.P w = .ok (.value v) w
 mix:M.P.follows .mixedOrders = true
 small:M.P.funcs.size <= PB
theorem MachOk.mok {M:Mach} (h:MachOk M):MOk M:=⟨fun g af hg=>by
 obtain ⟨fn,code,hint,h1,_⟩:=(h.F g af hg).ok
 exact Nat.lt_of_lt_of_le (Array.getElem?_eq_some_iff.1 h1).1 h.small,fun g af hg=>by
 obtain ⟨fn,code,hint,h1,h2,h3,_⟩:=(h.F g af hg).ok
 exact ⟨fn,h1,h2,by rw [h3]; rfl⟩,h.X⟩
section
variable {P:Program} {ρ:Rho} {D:Nat -> Prop} {H:Hp} {w:World} {ro:Nat} {N:Nat -> Prop} {W0:Old} {σ:Env} {tm:Array Value}
theorem run_resOf (h:HOk P ρ D H w ro N W0) (he:ER ρ D σ tm):∀ {l:List ResultVar} {vs:List Value},resOf P σ H l = some vs ->
  (l.mapM (fun (r:ResultVar)=>(match r with | .tmp t=>pure (tm.getD t undef) | .cell a t=>do loadVar t (<- asAddr (tm.getD a undef)):Sem Value))).run P w = .ok (vs.map ρ.val) w /\ ∀ v ∈ vs,Cl D v
 | [],vs,hr=>by
  simp only [resOf,oIq] at hr; subst hr
  simp
 | .tmp t :: r,vs,hr=>by
  simp only [resOf,oBe,oIq] at hr;obtain ⟨v,h1,us,h2,rfl⟩:=hr;obtain ⟨g1,g2⟩:=run_resOf h he h2;obtain ⟨e1,e2⟩:=he t v h1
  have e3:tm.getD t undef = ρ.val v:=by simp [Array.getD_eq_getD_getElem?,e1]
  refine ⟨by simp only [List.mapM_cons,Sem.run_bind,Sem.run_pure,Result.andThen_ok,g1,e3,List.map_cons],fun u hu=>?_⟩
  rcases List.mem_cons.1 hu with rfl | hu
  ·exact e2
  ·exact g2 u hu
 | .cell a t :: r,vs,hr=>by
  simp only [resOf] at hr
  split at hr
  case h_2=>simp at hr
  rename_i p hp
  simp only [oBe,oIq] at hr;obtain ⟨v,h1,us,h2,rfl⟩:=hr;obtain ⟨g1,g2⟩:=run_resOf h he h2;obtain ⟨e1,e2⟩:=he a _ hp;obtain ⟨l1,l2,l3⟩:=run_ldVar h (e2 _ (by simp)) h1
  have e3:tm.getD a undef = ρ.val (.pointer (some p)):=by simp [Array.getD_eq_getD_getElem?,e1]
  refine ⟨?_,fun u hu=>?_⟩
  ·have hh:(do loadVar t (<- asAddr (tm.getD a undef)):Sem Value).run P w = .ok (ρ.val v) w:=by
    rw [e3];simp only [Rho.val,vmap_pointer,asAddr,Sem.run_pure,Sem.run_bind,Result.andThen_ok] at l1 ⊢;exact l1
   simp only [List.mapM_cons,Sem.run_bind] at hh ⊢;rw [hh];simp only [Result.andThen_ok,g1,Sem.run_pure,List.map_cons]
  ·rcases List.mem_cons.1 hu with rfl | hu
   ·exact l2
   ·exact g2 u hu
end
theorem look_args:∀ {l:List Value} {k t:Nat} {v:Value},look ((List.range' k l.length).zip l) t = some v -> k <= t /\ l[t - k]? = some v
 | [],k,t,v,h=>by simp [look] at h
 | x :: r,k,t,v,h=>by
  simp only [List.length_cons,List.range'_succ,List.zip_cons_cons,look] at h
  split at h
  ·rename_i hk; subst hk
   simp only [oIq] at h; subst h;exact ⟨Nat.le_refl _,by simp⟩
  ·rename_i hk
   obtain ⟨h1,h2⟩:=look_args h;refine ⟨by omega,?_⟩
   have:t - k = (t - (k + 1)) + 1:=by omega
   rw [this]; simpa using h2
theorem one_rel (ρ:Rho) (vs:List Value):(if h:(vs.map ρ.val).toArray.size = 1 then (vs.map ρ.val).toArray[0] else .tuple (vs.map ρ.val).toArray) = ρ.val (one vs):=by
 match vs with
 | []=>simp [one,Rho.val]
 | [v]=>simp [one]
 | u :: v :: r=>simp [one,Rho.val]
theorem one_cl {D:Nat -> Prop} {vs:List Value} (h:∀ v ∈ vs,Cl D v):Cl D (one vs):=by
 match vs with
 | []=>exact .flat (by simp [flat_eq,one])
 | [v]=>exact h v (by simp)
 | u :: v :: r =>
  intro b hb;simp only [one,addrs_tuple,List.mem_flatMap] at hb;obtain ⟨x,hx,hb⟩:=hb;exact h x (by simpa using hx) b hb
theorem body_ret {M:Mach} {call:CallF} {n:Nat} (hM:MachOk M) (ih:CallOk M call) {ro:Nat} {f:FuncId} {args:List Value} {H:Hp} {v:Value} {H':Hp} {d:List Nat} {af:AFun} (haf:M.F f = some af) (hnt:¬ af.nt < args.length) {e:Out} {s:St}
  (hx:execN M call n H.length ro af.body ⟨args0 args,H,[]⟩ = some (e,s)) (he:e = .ret \/ e = .normal) (hfin:finish M.P H.length af.results s = some (v,H',d)) (hro:ro <= H.length):CallAm ro H H' d /\
  ∀ ρ D w N W0,HOk M.P ρ D H w ro N W0 -> Glob M.P ρ D -> (∀ a ∈ args,Cl D a) -> Calls M.P f (args.map ρ.val).toArray w fun e w' =>
   ∃ ρ',e = .returned (ρ'.val v) /\ HOk M.P ρ' (Dn D H.length H'.length) H' w' ro N W0 /\ Agree D ρ ρ' /\ Cl (Dn D H.length H'.length) v:=by
  obtain ⟨fn,code,hint,f1,f2,f3,f4,f5,f6⟩:=(hM.F f af haf).ok
  replace f6:conv M.P af.nt code hint = some af.body:=f6.elim id fun hg=>by
   cases hb:af.body <;> rw [hb] at hg hx <;> simp only [isGo,bFt] at hg
   simp only [execN,oIq,pIq] at hx;obtain ⟨rfl,_⟩:=hx
   rcases he with h | h <;> cases h
  unfold finish at hfin;simp only [oBe,oMe,Prod.exists,pIq] at hfin;obtain ⟨vs,hvs,vs',H1,hgc,rfl,rfl,rfl⟩:=hfin;have ham:=execN_am ih hro af.body hx (Nat.le_refl _) (by simp);obtain ⟨g1,g2⟩:=gc_am hgc ham.le;refine ⟨⟨g1,fun b hb=>?_,ham.dirt,ham.kept.trans (d':=s.dirty) (fun b hb hn cs e hk=>⟨cs,by rw [<- g2 b hb hn]; exact hk,fun v hv=>.inl hv⟩) fun b hb=>hb⟩,?_⟩
  ·rw [g2 b (by omega) fun hbd=>by have:=ham.dirt b hbd; omega]; exact ham.old b hb
  intro ρ D w N W0 hok hglob hargs
  have hDD:DD D H.length H.length = D:=by
   funext b; apply propext
   constructor
   ·rintro (h | h)
    ·exact h.2
    ·omega
   ·exact fun h=>.inl ⟨hok.lt h,h⟩
  let c:Ctx:=⟨af.nt,D,H.length,ro,N,W0,ρ,[]⟩
  have hsz:(args.map ρ.val).toArray.size = args.length:=by simp
  have hrel:SRel M.P c ρ ⟨args0 args,H,[]⟩ { tmps:=(args.map ρ.val).toArray ++ Array.replicate (fn.ntmps - (args.map ρ.val).toArray.size) undef,defers:=[] } w:=by
   refine ⟨by simp only [c,hDD]; exact hok,fun t u hu=>?_,Nat.le_refl _,hro,fun b hb hD hn cs e hk u hu i hi=>?_,by simp,?_,rfl,.refl _ _,fun g hg=>?_⟩
   ·have hu':look ((List.range' 0 args.length).zip args) t = some u:=by simpa [args0,List.range_eq_range'] using hu
    obtain ⟨_,h2⟩:=look_args hu';simp only [Nat.sub_zero] at h2;refine ⟨?_,?_⟩
    ·have ht:=(lGs.1 h2).1;rw [Array.getElem?_append_left (by simpa using ht)];simp [h2]
    ·simp only [c,hDD]; exact hargs u (List.mem_of_getElem? h2)
   ·exact hok.lt (((hok.at_ hD hk).2 u hu).1 i hi)
   ·simp only [c,Array.size_append,Array.size_replicate,hsz,f4]; omega
   ·exact ⟨hok.lt (hglob g hg).1,(hglob g hg).1,(hglob g hg).2⟩
  refine calls_of_wp f1 f3 (execN_sound (c:=c) hM.mok hM.mix ih code f6 hx hrel fun ρ1 a' w' q=>?_);have hres:=run_resOf q.hok q.env hvs;obtain ⟨k1,k2,k3,ρ2,k4,k5,k6⟩:=gc_sound hgc q.hok q.le q.ron q.clean q.dirt hres.2
  have hvs':vs'.map ρ2.val = vs.map ρ1.val:=by
   apply List.ext_getElem?;intro i;simp only [List.getElem?_map]
   cases hi:vs'[i]? with
   | none =>
    have:vs[i]? = none:=by
     rw [List.getElem?_eq_none_iff] at hi ⊢; omega
    simp [this]
   | some u =>
    obtain ⟨u0,u1,u2,_⟩:=k6 i u hi;simp [u1,u2]
  have hcl:∀ v ∈ vs',Cl (DD D H.length H1.length) v:=fun v hv=>by
   obtain ⟨i,hi⟩:=List.mem_iff_getElem?.1 hv;obtain ⟨_,_,_,u3⟩:=k6 i v hi;exact u3
  have hD2:Dn D H.length H1.length = DD D H.length H1.length:=by
   have:=Dn_DD (D0:=D) (Nat.le_refl H.length) k1
   rw [hDD] at this; exact this
  have hrun:(results fn a'.tmps).run M.P w' = .ok (ρ2.val (one vs')) w':=by
   unfold results
   have:fn.results = af.results.toArray:=by rw [<- f5]
   rw [this];have hres':=hres.1;rw [<- hvs'] at hres';simp only [List.mapM_toArray,Sem.run_bind,Sem.run_map,Sem.run_pure];refine Eq.trans (congrArg (fun r:Result (List Value)=>(r.andThen fun a w'=>Result.ok a.toArray w').andThen fun (a:Array Value) w'=>Result.ok (if h:a.size = 1 then a[0] else .tuple a) w') hres') ?_;exact congrArg (Result.ok · w') (one_rel ρ2 vs')
  have hpost:a'.defers = [] /\ ∃ v,(results fn a'.tmps).run M.P w' = .ok v w' /\ ∃ ρ',Ending.returned v = .returned (ρ'.val (one vs')) /\ HOk M.P ρ' (Dn D H.length H1.length) H1 w' ro N W0 /\ Agree D ρ ρ' /\ Cl (Dn D H.length H1.length) (one vs'):=by
   refine ⟨q.defs,_,hrun,ρ2,rfl,by rw [hD2]; exact k4,?_,by rw [hD2]; exact one_cl hcl⟩
   have hsub:∀ b,D b -> b < H.length /\ D b:=fun b hb=>⟨hok.lt hb,hb⟩
   intro b hb
   have:=(q.agree.trans k5 fun b hb=>hb) b (hsub b hb)
   exact this
  rcases he with rfl | rfl <;> exact hpost
theorem body_pan {M:Mach} {call:CallF} {n:Nat} (hM:MachOk M) (ih:CallOk M call) {ro:Nat} {f:FuncId} {args:List Value} {H:Hp} {v:Value} {H':Hp} {l:List Value} {af:AFun} (haf:M.F f = some af) (hnt:¬ af.nt < args.length) {s:St}
  (hx:execN M call n H.length ro af.body ⟨args0 args,H,[]⟩ = some (.panic v,s)) (hgc:gc H.length [] s.dirty s.hp = some (l,H')) (hv:flat v = true) (hro:ro <= H.length):CallAm ro H H' s.dirty /\
  ∀ ρ D w N W0,HOk M.P ρ D H w ro N W0 -> Glob M.P ρ D -> (∀ a ∈ args,Cl D a) -> Calls M.P f (args.map ρ.val).toArray w fun e w' =>
   ∃ ρ',e = .panicked [{ v:=v,recovered:=false }] /\ HOk M.P ρ' (Dn D H.length H'.length) H' w' ro N W0 /\ Agree D ρ ρ':=by
  obtain ⟨fn,code,hint,f1,f2,f3,f4,f5,f6⟩:=(hM.F f af haf).ok
  replace f6:conv M.P af.nt code hint = some af.body:=f6.elim id fun hg=>by
   cases hb:af.body <;> rw [hb] at hg hx <;> simp only [isGo,bFt] at hg
   simp only [execN,oIq,pIq] at hx;obtain ⟨h,_⟩:=hx
   cases h
  have ham:=execN_am ih hro af.body hx (Nat.le_refl _) (by simp);obtain ⟨g1,g2⟩:=gc_am hgc ham.le;refine ⟨⟨g1,fun b hb=>?_,ham.dirt,ham.kept.trans (d':=s.dirty) (fun b hb hn cs e hk=>⟨cs,by rw [<- g2 b hb hn]; exact hk,fun v hv=>.inl hv⟩) fun b hb=>hb⟩,?_⟩
  ·rw [g2 b (by omega) fun hbd=>by have:=ham.dirt b hbd; omega]; exact ham.old b hb
  intro ρ D w N W0 hok hglob hargs
  have hDD:DD D H.length H.length = D:=by
   funext b; apply propext
   constructor
   ·rintro (h | h)
    ·exact h.2
    ·omega
   ·exact fun h=>.inl ⟨hok.lt h,h⟩
  let c:Ctx:=⟨af.nt,D,H.length,ro,N,W0,ρ,[]⟩
  have hsz:(args.map ρ.val).toArray.size = args.length:=by simp
  have hrel:SRel M.P c ρ ⟨args0 args,H,[]⟩ { tmps:=(args.map ρ.val).toArray ++ Array.replicate (fn.ntmps - (args.map ρ.val).toArray.size) undef,defers:=[] } w:=by
   refine ⟨by simp only [c,hDD]; exact hok,fun t u hu=>?_,Nat.le_refl _,hro,fun b hb hD hn cs e hk u hu i hi=>?_,by simp,?_,rfl,.refl _ _,fun g hg=>?_⟩
   ·have hu':look ((List.range' 0 args.length).zip args) t = some u:=by simpa [args0,List.range_eq_range'] using hu
    obtain ⟨_,h2⟩:=look_args hu';simp only [Nat.sub_zero] at h2;refine ⟨?_,?_⟩
    ·have ht:=(lGs.1 h2).1;rw [Array.getElem?_append_left (by simpa using ht)];simp [h2]
    ·simp only [c,hDD]; exact hargs u (List.mem_of_getElem? h2)
   ·exact hok.lt (((hok.at_ hD hk).2 u hu).1 i hi)
   ·simp only [c,Array.size_append,Array.size_replicate,hsz,f4]; omega
   ·exact ⟨hok.lt (hglob g hg).1,(hglob g hg).1,(hglob g hg).2⟩
  refine calls_of_wp f1 f3 (execN_sound (c:=c) hM.mok hM.mix ih code f6 hx hrel fun ρ1 a' w' q=>?_);obtain ⟨k1,k2,k3,ρ2,k4,k5,k6⟩:=gc_sound hgc q.hok q.le q.ron q.clean q.dirt (fun v hv=>by cases hv)
  have hD2:Dn D H.length H'.length = DD D H.length H'.length:=by
   have:=Dn_DD (D0:=D) (Nat.le_refl H.length) k1
   rw [hDD] at this; exact this
  refine ⟨q.defs,ρ2,rfl,by rw [hD2]; exact k4,?_⟩;intro b hb;exact (q.agree.trans k5 fun b hb=>hb) b ⟨hok.lt hb,hb⟩
theorem bodyC_ok {M:Mach} {call:CallF} {n:Nat} (hM:MachOk M) (ih:CallOk M call):CallOk M (bodyC M call n):=by
  intro ro f args H v H' d h hro;simp only [bodyC] at h
  split at h
  ·rename_i hpb
   have hreal:realF f = f - PB:=by unfold realF; rw [if_pos hpb]
   rw [hreal]
   split at h
   ·cases h
   rename_i af haf
   split at h
   ·cases h
   rename_i hnt
   have ret:∀ {e:Out} {s:St},execN M call n H.length ro af.body ⟨args0 args,H,[]⟩ = some (e,s) -> (e = .ret \/ e = .normal) -> (finish M.P H.length af.results s).map (fun (v,H,d)=>(tagV true v,H,d)) = some (v,H',d) -> (CallAm ro H H' d /\ ∀ ρ D w N W0,HOk M.P ρ D H w ro N W0 -> Glob M.P ρ D -> (∀ a ∈ args,Cl D a) -> Calls M.P (f - PB) (args.map ρ.val).toArray w fun e w' =>
    ∃ ρ',EndsAs f v ρ' e /\ HOk M.P ρ' (Dn D H.length H'.length) H' w' ro N W0 /\ Agree D ρ ρ' /\ Cl (Dn D H.length H'.length) v):=fun {e s} hx he h=>by
    simp only [oMe,Prod.exists,pIq] at h;obtain ⟨u,H1,d1,hf,rfl,rfl,rfl⟩:=h
    have:=body_ret hM ih haf hnt hx he hf hro
    exact (show CallAm ro H H1 d1 /\ ∀ ρ D w N W0,HOk M.P ρ D H w ro N W0 -> Glob M.P ρ D -> (∀ a ∈ args,Cl D a) -> Calls M.P (f - PB) (args.map ρ.val).toArray w fun e w' =>
     ∃ ρ',EndsAs f (tagV true u) ρ' e /\ HOk M.P ρ' (Dn D H.length H1.length) H1 w' ro N W0 /\ Agree D ρ ρ' /\ Cl (Dn D H.length H1.length) (tagV true u) from
     ⟨this.1,fun ρ D w N W0 a b c=>(this.2 ρ D w N W0 a b c).mono fun e w' ⟨ρ',q1,q2,q3,q4⟩=>⟨ρ',.inr ⟨hpb,u,.inl ⟨rfl,q1⟩⟩,q2,q3,cl_tag.2 q4⟩⟩)
   split at h
   ·exact ret (by assumption) (.inl rfl) h
   ·exact ret (by assumption) (.inr rfl) h
   ·rename_i u s hx
    split at h
    case isFalse=>cases h
    rename_i hfl
    simp only [oMe,Prod.exists,pIq] at h;obtain ⟨l,H1,hgc,rfl,rfl,rfl⟩:=h
    have:=body_pan hM ih haf hnt hx hgc hfl hro
    exact ⟨this.1,fun ρ D w N W0 a b c=>(this.2 ρ D w N W0 a b c).mono fun e w' ⟨ρ',q1,q2,q3⟩=>⟨ρ',.inr ⟨hpb,u,.inr ⟨rfl,hfl,q1⟩⟩,q2,q3,cl_tag.2 (.flat hfl)⟩⟩
   ·cases h
  ·rename_i hpb
   have hlt:f < PB:=Nat.not_le.1 hpb;rw [realF_lt hlt]
   split at h
   ·simp at h
   rename_i af haf
   split at h
   ·simp at h
   rename_i hnt
   have fin:∀ {e:Out} {s:St},execN M call n H.length ro af.body ⟨args0 args,H,[]⟩ = some (e,s) -> (e = .ret \/ e = .normal) -> finish M.P H.length af.results s = some (v,H',d) -> (CallAm ro H H' d /\ ∀ ρ D w N W0,HOk M.P ρ D H w ro N W0 -> Glob M.P ρ D -> (∀ a ∈ args,Cl D a) -> Calls M.P (f) (args.map ρ.val).toArray w fun e w' =>
    ∃ ρ',EndsAs f v ρ' e /\ HOk M.P ρ' (Dn D H.length H'.length) H' w' ro N W0 /\ Agree D ρ ρ' /\ Cl (Dn D H.length H'.length) v):=fun {e s} hx he h=>by
    have:=body_ret hM ih haf hnt hx he h hro
    exact (show CallAm ro H H' d /\ ∀ ρ D w N W0,HOk M.P ρ D H w ro N W0 -> Glob M.P ρ D -> (∀ a ∈ args,Cl D a) -> Calls M.P f (args.map ρ.val).toArray w fun e w' =>
     ∃ ρ',EndsAs f v ρ' e /\ HOk M.P ρ' (Dn D H.length H'.length) H' w' ro N W0 /\ Agree D ρ ρ' /\ Cl (Dn D H.length H'.length) v from
     ⟨this.1,fun ρ D w N W0 a b c=>(this.2 ρ D w N W0 a b c).mono fun e w' ⟨ρ',q1,q2,q3,q4⟩=>⟨ρ',.inl ⟨hlt,q1⟩,q2,q3,q4⟩⟩)
   split at h
   ·exact fin (by assumption) (.inl rfl) h
   ·exact fin (by assumption) (.inr rfl) h
   ·simp at h
theorem callN_ok {M:Mach} (hM:MachOk M):∀ n,CallOk M (callN M n)
 | 0=>by intro ro f args H v H' d h; simp [callN] at h
 | n + 1=>bodyC_ok hM (callN_ok hM n)
theorem noC_ok {M:Mach}:CallOk M noC:=by intro ro f args H v H' d h; simp [noC] at h
theorem orC_ok {M:Mach} {c1 c2:CallF} (h1:CallOk M c1) (h2:CallOk M c2):CallOk M (orC c1 c2):=by
 intro ro f args H v H' d h hro;unfold orC at h
 split at h
 ·rename_i r hr
  rw [h] at hr;exact h1 _ _ _ _ _ _ _ hr hro
 ·exact h2 _ _ _ _ _ _ _ h hro
end Go.AM
