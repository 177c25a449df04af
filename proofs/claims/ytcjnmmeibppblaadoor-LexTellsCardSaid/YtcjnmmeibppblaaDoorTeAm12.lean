import Derived.Test.YtcjnmmeibppblaaDoorTeAm11
set_option linter.unusedVariables false
set_option linter.unusedSimpArgs false
namespace Go.AM
open Go
structure FunOk (P:Program) (g:FuncId) (af:AFun):Prop where
 ok : ∃ fn code hint, P.funcs[g]? = some fn ∧ (fn.name == "runtime.NumGoroutine") = false ∧ fn.body = some code ∧ fn.ntmps = af.nt ∧ fn.results.toList = af.results ∧
  conv P af.nt code hint = some af.body
structure MachOk (M:Mach):Prop where
 F:∀ g af,M.F g = some af → FunOk M.P g af
 X:∀ g ex (args:List Value) v,M.X g = some ex → ex args = some v → (∀ x ∈ args,flat x = true) → ∀ w,(callFunc g args.toArray).run M.P w = .ok (.value v) w
 mix:M.P.follows .mixedOrders = true
 small:M.P.funcs.size ≤ PB
theorem MachOk.mok {M:Mach} (h:MachOk M):MOk M:=⟨fun g af hg=>by
 obtain ⟨fn,code,hint,h1,_⟩:=(h.F g af hg).ok
 exact Nat.lt_of_lt_of_le (Array.getElem?_eq_some_iff.1 h1).1 h.small,fun g af hg=>by
 obtain ⟨fn,code,hint,h1,h2,h3,_⟩:=(h.F g af hg).ok
 exact ⟨fn,h1,h2,by rw [h3]; rfl⟩,h.X⟩
section
variable {P:Program} {ρ:Rho} {D:Nat → Prop} {H:Hp} {w:World} {ro:Nat} {N:Nat → Prop} {W0:Old} {σ:Env} {tm:Array Value}
theorem run_resOf (h:HOk P ρ D H w ro N W0) (he:ER ρ D σ tm):∀ {l:List ResultVar} {vs:List Value},resOf P σ H l = some vs →
  (l.mapM (fun (r:ResultVar)=>(match r with | .tmp t=>pure (tm.getD t undef) | .cell a t=>do loadVar t (← asAddr (tm.getD a undef)):Sem Value))).run P w = .ok (vs.map ρ.val) w ∧ ∀ v ∈ vs,Cl D v
 | [],vs,hr=>by
  simp only [resOf,Option.some.injEq] at hr; subst hr
  simp
 | .tmp t :: r,vs,hr=>by
  simp only [resOf,Option.bind_eq_some_iff,Option.some.injEq] at hr
  obtain ⟨v,h1,us,h2,rfl⟩:=hr
  obtain ⟨g1,g2⟩:=run_resOf h he h2
  obtain ⟨e1,e2⟩:=he t v h1
  have e3:tm.getD t undef = ρ.val v:=by simp [Array.getD_eq_getD_getElem?,e1]
  refine ⟨by simp only [List.mapM_cons,Sem.run_bind,Sem.run_pure,Result.andThen_ok,g1,e3,List.map_cons],fun u hu=>?_⟩
  rcases List.mem_cons.1 hu with rfl | hu
  ·exact e2
  ·exact g2 u hu
 | .cell a t :: r,vs,hr=>by
  simp only [resOf] at hr
  split at hr
  case h_2=>simp at hr
  rename_i p hp
  simp only [Option.bind_eq_some_iff,Option.some.injEq] at hr
  obtain ⟨v,h1,us,h2,rfl⟩:=hr
  obtain ⟨g1,g2⟩:=run_resOf h he h2
  obtain ⟨e1,e2⟩:=he a _ hp
  obtain ⟨l1,l2,l3⟩:=run_ldVar h (e2 _ (by simp)) h1
  have e3:tm.getD a undef = ρ.val (.pointer (some p)):=by simp [Array.getD_eq_getD_getElem?,e1]
  refine ⟨?_,fun u hu=>?_⟩
  ·have hh:(do loadVar t (← asAddr (tm.getD a undef)):Sem Value).run P w = .ok (ρ.val v) w:=by
    rw [e3]
    simp only [Rho.val,vmap_pointer,asAddr,Sem.run_pure,Sem.run_bind,Result.andThen_ok] at l1 ⊢
    exact l1
   simp only [List.mapM_cons,Sem.run_bind] at hh ⊢
   rw [hh]
   simp only [Result.andThen_ok,g1,Sem.run_pure,List.map_cons]
  ·rcases List.mem_cons.1 hu with rfl | hu
   ·exact l2
   ·exact g2 u hu
end
theorem look_args:∀ {l:List Value} {k t:Nat} {v:Value},look ((List.range' k l.length).zip l) t = some v → k ≤ t ∧ l[t - k]? = some v
 | [],k,t,v,h=>by simp [look] at h
 | x :: r,k,t,v,h=>by
  simp only [List.length_cons,List.range'_succ,List.zip_cons_cons,look] at h
  split at h
  ·rename_i hk; subst hk
   simp only [Option.some.injEq] at h; subst h
   exact ⟨Nat.le_refl _,by simp⟩
  ·rename_i hk
   obtain ⟨h1,h2⟩:=look_args h
   refine ⟨by omega,?_⟩
   have:t - k = (t - (k + 1)) + 1:=by omega
   rw [this]; simpa using h2
theorem one_rel (ρ:Rho) (vs:List Value):(if h:(vs.map ρ.val).toArray.size = 1 then (vs.map ρ.val).toArray[0] else .tuple (vs.map ρ.val).toArray) = ρ.val (one vs):=by
 match vs with
 | []=>simp [one,Rho.val]
 | [v]=>simp [one]
 | u :: v :: r=>simp [one,Rho.val]
theorem one_cl {D:Nat → Prop} {vs:List Value} (h:∀ v ∈ vs,Cl D v):Cl D (one vs):=by
 match vs with
 | []=>exact .flat (by simp [flat_eq,one])
 | [v]=>exact h v (by simp)
 | u :: v :: r =>
  intro b hb
  simp only [one,addrs_tuple,List.mem_flatMap] at hb
  obtain ⟨x,hx,hb⟩:=hb
  exact h x (by simpa using hx) b hb
theorem noC_ok {M:Mach}:CallOk M noC:=by intro ro f args H v H' d h; simp [noC] at h
end Go.AM
