import Derived.Test.YtaadjlpfdajggaaGreatDoorFjAm12
import Derived.Recover
set_option linter.unusedVariables false
set_option linter.unusedSimpArgs false
namespace Go.AM
open Go
structure DFun where
 nt:Nat
 results:List ResultVar
 pre:List AOp
 mkf:List AOp
 t:Nat
 post:AC
 g:FuncId
 nt2:Nat
 rt:Nat
 first:List AOp
 rest:AC
def recOf:Out -> Option Value
 | .normal=>some .nilIface
 | .ret=>some .nilIface
 | .panic v=>if flat v then some v else none
 | _=>none
def dEnd (M:Mach) (D:DFun) (nb:Nat) (s2:St):Option (Out × St) -> Option (Value × Hp × List Nat)
 | some (.normal,s4)=>if (s2.dirty ++ s4.dirty).all (fun b=>decide (nb <= b)) then finish M.P nb D.results ⟨s2.env,s4.hp,[]⟩ else none
 | some (.ret,s4)=>if (s2.dirty ++ s4.dirty).all (fun b=>decide (nb <= b)) then finish M.P nb D.results ⟨s2.env,s4.hp,[]⟩ else none
 | _=>none
def dbody (M:Mach) (call:CallF) (n:Nat) (D:DFun) (ro:Nat) (args:List Value) (H:Hp):Option (Value × Hp × List Nat) :=
 if D.nt < args.length then none else
 (stepsA M call H.length ro false D.pre ⟨args0 args,H,[]⟩).bind fun s0 =>
 (stepsA M call H.length ro false D.mkf s0).bind fun s1 =>
 match look s1.env D.t with
 | some (.func (.func g) f c) =>
  if g = D.g /\ f.size = 0 /\ c.size <= D.nt2 /\ s1.dirty.isEmpty = true then
   (execN M call n s1.hp.length ro D.post ⟨s1.env,s1.hp,[]⟩).bind fun r =>
   (recOf r.1).bind fun rv =>
   (stepsA M call r.2.hp.length ro false D.first ⟨put (some D.rt) rv (args0 c.toList),r.2.hp,[]⟩).bind fun s3 =>
   dEnd M D H.length r.2 (execN M call n r.2.hp.length ro D.rest s3)
  else none
 | _=>none
structure DOk (P:Program) (f:FuncId) (D:DFun):Prop where
 ok:∃ fn i0 ops0 i1 mk df rest hint fn2 i2 ops2 rc more rest2 hint2,
  P.funcs[f]? = some fn /\ fn.body = some (.seq (.region i0 ops0 false) (.seq (.region i1 #[mk,df] false) rest)) /\ fn.ntmps = D.nt /\ fn.results.toList = D.results /\
  convOps P D.nt ops0 ops0.toList = some D.pre /\ convOps P D.nt #[mk,df] [mk] = some D.mkf /\
  df.op = .defer { callee:=.value (.tmp D.t),args:=#[],argTypes:=#[] } /\ df.dst = none /\ df.guard = none /\ conv P D.nt rest hint = some D.post /\
  P.funcs[D.g]? = some fn2 /\ (fn2.name == "runtime.NumGoroutine") = false /\ fn2.body = some (.seq (.region i2 ops2 false) rest2) /\ fn2.ntmps = D.nt2 /\ fn2.results = #[] /\
  ops2.toList = rc :: more /\ rc.op = .call { callee:=.builtin .recover,args:=#[],argTypes:=#[] } /\ rc.dst = some D.rt /\ rc.guard = none /\
  convOps P D.nt2 ops2 more = some D.first /\ conv P D.nt2 rest2 hint2 = some D.rest /\ D.rt < D.nt2
theorem upon_mono {P:Program} {o:Oper} {a:Act} {K K':Act -> World -> Prop} {Q Q':Exit -> Act -> World -> Prop} (hno:¬ LetsOut Q) (hK:∀ a w,K a w -> K' a w) (hQ:∀ e a w,Q e a w -> Q' e a w) {r:Result Next}
  (h:o.upon P a K Q r):o.upon P a K' Q' r:=by
 unfold Oper.upon at h ⊢
 split at h
 ·exact hK _ _ h
 ·exact hK _ _ h
 ·exact hK _ _ h
 ·refine h.mono fun e w' h=>?_
  cases e with
  | returned v=>exact hK _ _ h
  | panicked c=>exact hQ _ _ _ h
  | outgrown=>exact absurd h hno
 ·exact h.mono fun v w' h=>hK _ _ h
 ·exact hQ _ _ _ h
 ·exact h.elim
theorem wpOpsS_of_list {P:Program} {ops:Array Oper} {Q:Exit -> Act -> World -> Prop} {Qs:Exit -> Act -> List Frame -> World -> Prop} {cs:List Frame} (hno:¬ LetsOut Q) (hm:∀ e a w,Q e a w -> Qs e a cs w) :
  ∀ (l:List Oper) (k:Nat),(∀ j,l[j]? = ops[k + j]?) -> ∀ a w,wpList P ops Q l a w -> wpOpsS P ops Qs (List.range' k l.length) a cs w
 | [],k,h,a,w,hw=>by simpa [wpOpsS] using hm _ _ _ hw
 | o :: l,k,h,a,w,hw=>by
  have h0:ops[k]? = some o:=by simpa using (h 0).symm
  have ih:=wpOpsS_of_list (P:=P) (ops:=ops) hno hm l (k + 1) (fun j=>by have:=h (j + 1); simpa [Nat.add_assoc,Nat.add_comm 1 j] using this);simp only [List.length_cons,List.range'_succ,wpOpsS,h0];simp only [wpList] at hw
  split at hw
  ·rename_i hwant
   rw [if_pos hwant]
   rcases hw with hw | ⟨_,hw⟩
   ·unfold Oper.wp at hw;have hw':=upon_mono (K':=fun a' w'=>wpOpsS P ops Qs (List.range' (k + 1) l.length) a' cs w') (Q':=fun e a' w'=>Qs e a' cs w') hno (fun a w h=>ih a w h) (fun e a w h=>hm e a w h) hw
    split
    ·rename_i w' hr
     rw [hr] at hw;exact hw.elim
    ·exact hw'
   ·exact absurd hw hno
  ·rename_i hwant
   rw [if_neg hwant];exact ih _ _ hw
section
variable {M:Mach} {call:CallF} {c:Ctx} {ρ:Rho} {w:World} {s s':St} {a:Act} {ops:Array Oper}
theorem stepsA_soundK (hM:MOk M) (hcall:CallOk M call) {Q:Exit -> Act -> World -> Prop} {more:List Oper}:∀ (rest:List Oper) (l:List AOp) (s:St) (a:Act) (w:World) (ρ:Rho),
  convOps M.P c.nt ops rest = some l -> stepsA M call c.nb c.ro false l s = some s' -> SRel M.P c ρ s a w ->
  (∀ ρ' a' w',SRel M.P c ρ' s' a' w' -> wpList M.P ops Q more a' w') -> wpList M.P ops Q (rest ++ more) a w
 | [],l,s,a,w,ρ,hc,hs,h,hQ=>by
  simp only [convOps,oIq] at hc; subst hc;simp only [stepsA,oIq] at hs; subst hs;exact hQ ρ a w h
 | o :: rest,l,s,a,w,ρ,hc,hs,h,hQ=>by
  simp only [convOps,oBe,oMe] at hc;obtain ⟨ao,hao,l',hl',rfl⟩:=hc;simp only [stepsA,oBe] at hs;obtain ⟨s1,h1,hs⟩:=hs;obtain ⟨c1,c2,c3,c4,c5⟩:=convOp_eq hao
  have hro:roOf false ao.op c.ro s = c.ro:=by simp [roOf]
  have ham:=step1_am hcall h1 (nLt h.ron h.le) h.le;rw [hro,c4] at ham
  obtain ⟨v,v1,_,v2⟩:=step1_sound (a:=a) (D:=DD c.D0 c.nb s.hp.length) hM hcall h1 hao (by rw [hro]; exact h.hok) h.glob (nLt h.ron h.le)
   (fun x hx=>rel1_of (okOp_x c1 x hx) h.env h.glob) (fun t want u _ hu=>(h.env t u hu).1)
  change Step M.P ops o a w (wpList M.P ops Q (rest ++ more)) Q;refine v2 _ _ fun ρ' w' g1 g2 g3=>?_;rw [hro] at g1;exact stepsA_soundK hM hcall rest l' s1 _ w' ρ' hl' hs (h.next ham v1 (okOp_dst c1) g1 g2 g3) hQ
end
theorem run_defer {P:Program} {a:Act} {o:Oper} {t:Nat} {fn:Fn} {cap:Array Value} {w:World} (ho:o.op = .defer { callee:=.value (.tmp t),args:=#[],argTypes:=#[] }) (ht:a.tmps[t]? = some (.func fn #[] cap)) :
  (execOp a.eval o).run P w = .ok (.defer { target:=.fn fn cap,args:=#[] }) w:=by
 unfold execOp;rw [ho];simp [resolve,Act.eval,ht,Deferred.ofValue]
theorem run_recover {P:Program} {ρ:Operand -> Value} {o:Oper} {w:World} (ho:o.op = .call { callee:=.builtin .recover,args:=#[],argTypes:=#[] }):(execOp ρ o).run P w = .ok .recover w:=by
 unfold execOp;rw [ho];simp [resolve,invoke,builtin]
theorem dd_self {ρ:Rho} {P:Program} {D:Nat -> Prop} {H:Hp} {w:World} {ro:Nat} {N:Nat -> Prop} {W0:Old} (h:HOk P ρ D H w ro N W0):DD D H.length H.length = D:=by
 funext b; apply propext
 constructor
 ·rintro (h | h)
  ·exact h.2
  ·omega
 ·exact fun hb=>.inl ⟨h.lt hb,hb⟩
theorem start_rel {P:Program} {ρ:Rho} {D:Nat -> Prop} {H:Hp} {w:World} {ro:Nat} {N:Nat -> Prop} {W0:Old} (hok:HOk P ρ D H w ro N W0) (hg:Glob P ρ D) (hro:ro <= H.length) {nt:Nat} {dfs:List Deferred} {σ:Env} {a:Act} (he:ER ρ D σ a.tmps) (hsz:a.tmps.size = nt) (hd:a.defers = dfs) :
  SRel P ⟨nt,D,H.length,ro,N,W0,ρ,dfs⟩ ρ ⟨σ,H,[]⟩ a w:=by
 have hDD:=dd_self hok;refine ⟨by simp only [hDD]; exact hok,by simp only [hDD]; exact he,Nat.le_refl _,hro,fun b hb hD hn cs e hk u hu i hi=>?_,by simp,hsz,hd,.refl _ _,fun g hg'=>?_⟩
 ·exact hok.lt (((hok.at_ hD hk).2 u hu).1 i hi)
 ·exact ⟨hok.lt (hg g hg').1,(hg g hg').1,(hg g hg').2⟩
theorem er_args {ρ:Rho} {D:Nat -> Prop} {args:List Value} {n:Nat} (h:∀ a ∈ args,Cl D a):ER ρ D (args0 args) ((args.map ρ.val).toArray ++ Array.replicate n undef):=fun t u hu=>by
 have hu':look ((List.range' 0 args.length).zip args) t = some u:=by simpa [args0,List.range_eq_range'] using hu
 obtain ⟨_,h2⟩:=look_args hu';simp only [Nat.sub_zero] at h2;refine ⟨?_,h u (List.mem_of_getElem? h2)⟩;have ht:=(lGs.1 h2).1;rw [Array.getElem?_append_left (by simpa using ht)];simp [h2]
theorem dEnd_eq {M:Mach} {D:DFun} {nb:Nat} {s2:St} {r:Option (Out × St)} {x:Value × Hp × List Nat} (h:dEnd M D nb s2 r = some x):∃ e s4,r = some (e,s4) /\ (e = .normal \/ e = .ret) /\ (∀ b ∈ s2.dirty,nb <= b) /\ (∀ b ∈ s4.dirty,nb <= b) /\ finish M.P nb D.results ⟨s2.env,s4.hp,[]⟩ = some x:=by
 unfold dEnd at h
 split at h
 ·rename_i s4
  split at h
  ·rename_i hh
   simp only [List.all_append,Bool.and_eq_true,List.all_eq_true,decide_eq_true_eq] at hh;exact ⟨_,s4,rfl,.inl rfl,hh.1,hh.2,h⟩
  ·cases h
 ·rename_i s4
  split at h
  ·rename_i hh
   simp only [List.all_append,Bool.and_eq_true,List.all_eq_true,decide_eq_true_eq] at hh;exact ⟨_,s4,rfl,.inr rfl,hh.1,hh.2,h⟩
  ·cases h
 ·cases h
theorem finish_rel {M:Mach} {fn:Func} {ρ1:Rho} {D:Nat -> Prop} {nb ro:Nat} {N:Nat -> Prop} {W0:Old} {w:World} {s:St} {rs:List ResultVar} {v:Value} {H':Hp} {d:List Nat} {tm:Array Value}
  (h:finish M.P nb rs s = some (v,H',d)) (hok:HOk M.P ρ1 (DD D nb s.hp.length) s.hp w ro N W0) (he:ER ρ1 (DD D nb s.hp.length) s.env tm) (hrs:fn.results.toList = rs) (hle:nb <= s.hp.length) (hron:ro <= nb)
  (hclean:∀ b,b < nb -> D b -> b ∉ s.dirty -> ∀ cs e,s.hp[b]? = some (.cells cs e) -> ∀ v ∈ cs,∀ i ∈ addrs v,i < nb) (hdirt:∀ b ∈ s.dirty,b < nb /\ ro <= b) :
  ∃ ρ2,(results fn tm).run M.P w = .ok (ρ2.val v) w /\ HOk M.P ρ2 (DD D nb H'.length) H' w ro N W0 /\ Agree (fun b=>b < nb /\ D b) ρ1 ρ2 /\ Cl (DD D nb H'.length) v:=by
 unfold finish at h;simp only [oBe,oMe,Prod.exists,pIq] at h;obtain ⟨vs,hvs,vs',H1,hgc,rfl,rfl,rfl⟩:=h;have hres:=run_resOf hok he hvs;obtain ⟨k1,k2,k3,ρ2,k4,k5,k6⟩:=gc_sound hgc hok hle hron hclean hdirt hres.2
 have hvs':vs'.map ρ2.val = vs.map ρ1.val:=by
  apply List.ext_getElem?;intro i;simp only [List.getElem?_map]
  cases hi:vs'[i]? with
  | none =>
   have:vs[i]? = none:=by
    rw [List.getElem?_eq_none_iff] at hi ⊢; omega
   simp [this]
  | some u =>
   obtain ⟨u0,u1,u2,_⟩:=k6 i u hi;simp [u1,u2]
 have hcl:∀ v ∈ vs',Cl (DD D nb H1.length) v:=fun v hv=>by
  obtain ⟨i,hi⟩:=List.mem_iff_getElem?.1 hv;obtain ⟨_,_,_,u3⟩:=k6 i v hi;exact u3
 refine ⟨ρ2,?_,k4,k5,one_cl hcl⟩;unfold results
 have:fn.results = rs.toArray:=by rw [<- hrs]
 rw [this];have hres':=hres.1;rw [<- hvs'] at hres';simp only [List.mapM_toArray,Sem.run_bind,Sem.run_map,Sem.run_pure];refine Eq.trans (congrArg (fun r:Result (List Value)=>(r.andThen fun a w'=>Result.ok a.toArray w').andThen fun (a:Array Value) w'=>Result.ok (if h:a.size = 1 then a[0] else .tuple a) w') hres') ?_;exact congrArg (Result.ok · w) (one_rel ρ2 vs')
theorem dbody_am {M:Mach} {call:CallF} {n:Nat} {D:DFun} (ih:CallOk M call) {ro:Nat} {args:List Value} {H:Hp} {v:Value} {H':Hp} {d:List Nat}
  (h:dbody M call n D ro args H = some (v,H',d)) (hro:ro <= H.length) :
  ¬ D.nt < args.length /\ d = [] /\ ∃ s0 s1 f c e s2 rv s3 e' s4,stepsA M call H.length ro false D.pre ⟨args0 args,H,[]⟩ = some s0 /\ stepsA M call H.length ro false D.mkf s0 = some s1 /\ s1.dirty = [] /\
   look s1.env D.t = some (.func (.func D.g) f c) /\ f = #[] /\ c.size <= D.nt2 /\ execN M call n s1.hp.length ro D.post ⟨s1.env,s1.hp,[]⟩ = some (e,s2) /\ recOf e = some rv /\
   stepsA M call s2.hp.length ro false D.first ⟨put (some D.rt) rv (args0 c.toList),s2.hp,[]⟩ = some s3 /\ execN M call n s2.hp.length ro D.rest s3 = some (e',s4) /\ (e' = .normal \/ e' = .ret) /\
   finish M.P H.length D.results ⟨s2.env,s4.hp,[]⟩ = some (v,H',d) /\ H.length <= s1.hp.length /\ s1.hp.length <= s2.hp.length /\ s2.hp.length <= s4.hp.length /\
   (∀ b,b < ro -> s4.hp[b]? = H[b]?) /\ Kept H.length [] H s4.hp:=by
 unfold dbody at h
 split at h
 ·cases h
 rename_i hnt
 simp only [oBe] at h;obtain ⟨s0,h0,s1,h1,h⟩:=h
 split at h
 case h_2=>cases h
 rename_i g f c hc
 split at h
 case isFalse=>cases h
 rename_i hg
 obtain ⟨rfl,hf,hcs,hd1⟩:=hg;simp only [oBe] at h;obtain ⟨⟨e,s2⟩,h2,rv,hrv,s3,h3,h4⟩:=h;obtain ⟨e',s4,h4,he',hb2,hb4,hfin⟩:=dEnd_eq h4
 have hd1':s1.dirty = []:=by simpa using hd1
 have a0:=stepsA_am ih h0 (Nat.le_refl _) hro (by simp);have a1:=stepsA_am ih h1 a0.le hro a0.dirt;have a2:=execN_am ih (nLt hro a1.le) D.post h2 (Nat.le_refl _) (by simp);have a3:=stepsA_am ih h3 (Nat.le_refl _) (nLt hro (nLt a1.le a2.le)) (by simp);have a4:=execN_am ih (nLt hro (nLt a1.le a2.le)) D.rest h4 a3.le a3.dirt
 have hdn:d = []:=by
  unfold finish at hfin;simp only [oBe,oMe,Prod.exists,pIq] at hfin;obtain ⟨_,_,_,_,_,_,_,rfl⟩:=hfin;rfl
 refine ⟨hnt,hdn,s0,s1,f,c,e,s2,rv,s3,e',s4,h0,h1,hd1',hc,by simpa using hf,hcs,h2,hrv,h3,h4,he',hfin,a1.le,a2.le,a4.le,fun b hb=>?_,?_⟩
 ·rw [a4.old b hb,a3.old b hb,a2.old b hb,a1.old b hb,a0.old b hb]
 ·have k01:Kept H.length s1.dirty H s1.hp:=a0.kept.trans a1.kept a1.more;rw [hd1'] at k01;have k2:Kept H.length [] s1.hp s2.hp:=fun b hb _ cs e hk=>a2.kept b (Nat.lt_of_lt_of_le hb a1.le) (fun hbd=>absurd (hb2 b hbd) (by omega)) cs e hk;have k34:Kept s2.hp.length s4.dirty s2.hp s4.hp:=a3.kept.trans a4.kept a4.more;have k4:Kept H.length [] s2.hp s4.hp:=fun b hb _ cs e hk=>k34 b (Nat.lt_of_lt_of_le hb (nLt a1.le a2.le)) (fun hbd=>absurd (hb4 b hbd) (by omega)) cs e hk;exact (k01.trans k2 (fun _ h=>h)).trans k4 (fun _ h=>h)
theorem dd_dd {D0:Nat -> Prop} {n m k:Nat} (h1:n <= m) (h2:m <= k):DD (DD D0 n m) m k = DD D0 n k:=by
 funext b; apply propext
 unfold DD
 constructor
 ·rintro (⟨_,h⟩ | h)
  ·rcases h with h | h
   ·exact .inl h
   ·exact .inr ⟨h.1,by omega⟩
  ·exact .inr ⟨by omega,h.2⟩
 ·rintro (h | h)
  ·exact .inl ⟨by omega,.inl h⟩
  ·by_cases hb:b < m
   ·exact .inl ⟨hb,.inr ⟨h.1,hb⟩⟩
   ·exact .inr ⟨by omega,h.2⟩
theorem run_invoke {P : Program} {g : FuncId} {fn2 : Func} {cap : Array Value} {w : World} (h1 : P.funcs[g]? = some fn2) (h2 : (fn2.name == "runtime.NumGoroutine") = false) (h3 : fn2.body.isNone = false) :
  (invoke (.fn (.func g) cap) #[]).run P w = .ok (.enter g cap) w:=by
 simp only [invoke,callFunc,Sem.run_bind,run_program,Result.andThen_ok,h1,h2,h3,bFt,if_false,Sem.run_pure]
 simp
theorem dbody_ok {M:Mach} {call:CallF} {n:Nat} {D:DFun} (hM:MachOk M) (ih:CallOk M call) {f:FuncId} (hD:DOk M.P f D) {ro:Nat} {args:List Value} {H:Hp} {v:Value} {H':Hp} {d:List Nat}
  (h:dbody M call n D ro args H = some (v,H',d)) (hro:ro <= H.length):CallAm ro H H' d /\
  ∀ ρ D0 w N W0,HOk M.P ρ D0 H w ro N W0 -> Glob M.P ρ D0 -> (∀ a ∈ args,Cl D0 a) -> Calls M.P f (args.map ρ.val).toArray w fun e w' =>
   ∃ ρ',e = .returned (ρ'.val v) /\ HOk M.P ρ' (Dn D0 H.length H'.length) H' w' ro N W0 /\ Agree D0 ρ ρ' /\ Cl (Dn D0 H.length H'.length) v:=by
 obtain ⟨hnt,rfl,s0,s1,f',c,e,s2,rv,s3,e',s4,h0,h1,hd1,hlk,rfl,hcs,h2,hrv,h3,h4,he',hfin,l1,l2,l4,hold,hkept⟩:=dbody_am ih h hro;obtain ⟨fn,i0,ops0,i1,mk,df,rest,hint,fn2,i2,ops2,rc,more,rest2,hint2,p1,p2,p3,p4,p5,p6,p7,p8,p9,p10,q1,q2,q3,q4,q5,q6,q7,q8,q9,q10,q11,q12⟩:=hD.ok
 have hgc:H.length <= H'.length /\ (∀ b,b < H.length -> H'[b]? = s4.hp[b]?):=by
  have hf:=hfin;unfold finish at hf;simp only [oBe,oMe,Prod.exists,pIq] at hf;obtain ⟨vs,hvs,vs',H1,hgc,rfl,rfl,_⟩:=hf;obtain ⟨g1,g2⟩:=gc_am hgc (show H.length <= s4.hp.length by omega);exact ⟨g1,fun b hb=>g2 b hb (by simp)⟩
 refine ⟨⟨hgc.1,fun b hb=>by rw [hgc.2 b (by omega)]; exact hold b hb,by simp,fun b hb hd cs e hk=>hkept b hb hd cs e (by rw [<- hgc.2 b hb]; exact hk)⟩,?_⟩;intro ρ D0 w N W0 hok hg hargs
 have r0:SRel M.P ⟨D.nt,D0,H.length,ro,N,W0,ρ,[]⟩ ρ ⟨args0 args,H,[]⟩ { tmps:=(args.map ρ.val).toArray ++ Array.replicate (fn.ntmps - (args.map ρ.val).toArray.size) undef,defers:=[] } w :=
  start_rel hok hg hro (er_args hargs) (by simp [p3]; omega) rfl
 refine calls_of_wp_defers p1 p2 (wp_seq (wp_region_list (stepsA_sound hM.mok ih _ _ _ _ _ _ p5 h0 r0 fun ρ1 a1 w1 r1=>?_)));refine wp_seq (wp_region_list (stepsA_soundK (more:=[df]) hM.mok ih [mk] _ _ _ _ _ p6 h1 r1 fun ρ2 a2 w2 r2=>?_))
 have hw:Region.wanted df (yielded #[mk,df] a2.tmps) = true:=by simp [Region.wanted,p9]
 obtain ⟨t1,t2⟩:=r2.env D.t _ hlk
 have t1':a2.tmps[D.t]? = some (.func (.func D.g) #[] (c.map ρ2.val)):=by
  rw [t1]; simp [Rho.val,fnMap]
 simp only [wpList];rw [if_pos hw]
 left
 unfold Oper.wp;rw [run_defer p7 t1',Oper.upon_defer,p8];show rest.wp M.P _ { tmps:=a2.tmps,defers:=_ :: a2.defers } w2;have hd2:a2.defers = []:=r2.defs;rw [hd2]
 have ccl:∀ x ∈ c.toList,Cl (DD D0 H.length s1.hp.length) x:=fun x hx b hb=>t2 b (by
  simp only [addrs_func,List.mem_append,List.mem_flatMap]
  exact .inr ⟨x,by simpa using hx,hb⟩)
 have r2':SRel M.P ⟨D.nt,DD D0 H.length s1.hp.length,s1.hp.length,ro,N,W0,ρ2,[{ target:=.fn (.func D.g) (c.map ρ2.val),args:=#[] }]⟩ ρ2 ⟨s1.env,s1.hp,[]⟩ { tmps:=a2.tmps,defers:=[{ target:=.fn (.func D.g) (c.map ρ2.val),args:=#[] }] } w2 :=
  start_rel r2.hok r2.glob (nLt hro l1) r2.env r2.size rfl
 refine execN_sound (c:=_) hM.mok hM.mix ih rest p10 h2 r2' fun ρ3 a3 w3 r3=>?_
 have leave:∀ (u u':FrameMode),u ≠ .run -> settle u' = .returning -> (∀ (c0:Frame) (cs:List Frame),c0.mode = u -> recoverD (c0 :: cs) = some (rv,{ c0 with mode:=u' } :: cs) \/ (recoverD (c0 :: cs) = none /\ rv = .nilIface /\ u' = u)) -> flat rv = true ->
   Leaves M.P fn a3.tmps (fun e w'=>∃ ρ',e = .returned (ρ'.val v) /\ HOk M.P ρ' (Dn D0 H.length H'.length) H' w' ro N W0 /\ Agree D0 ρ ρ' /\ Cl (Dn D0 H.length H'.length) v) a3.defers u w3:=fun u u' hu hset hrec hfl=>by
  have hd3:a3.defers = [{ target:=.fn (.func D.g) (c.map ρ2.val),args:=#[] }]:=r3.defs;rw [hd3];refine leaves_cons hu (run_invoke q1 q2 (by rw [q3]; rfl)) (callsD_of_wpS q1 q3 fun c0 cs hc=>?_);refine wpS_seq (wpS_region ?_)
  have hsz:ops2.size = more.length + 1:=by rw [<- Array.length_toList,q6]; rfl
  have hop:ops2[0]? = some rc:=by rw [<- Array.getElem?_toList,q6]; rfl
  have hwr:∀ y:Nat -> Option Bool,Region.wanted rc y = true:=fun y=>by simp [Region.wanted,q9]
  rw [hsz,List.range_eq_range',List.range'_succ];simp only [wpOpsS,hop,hwr,if_true,run_recover q7]
  have cm:c.map ρ2.val = (c.toList.map ρ3.val).toArray:=by
   rw [(show c.toList.map ρ3.val = c.toList.map ρ2.val from List.map_congr_left fun x hx=>(r3.agree.val (v:=x) fun b hb=>⟨show b < s1.hp.length by rcases ccl x hx b hb with h | h <;> omega,ccl x hx b hb⟩))];apply Array.ext'; simp
  have ccl3:∀ x ∈ c.toList,Cl (DD (DD D0 H.length s1.hp.length) s1.hp.length s2.hp.length) x:=fun x hx b hb=>.inl ⟨by rcases ccl x hx b hb with h | h <;> omega,ccl x hx b hb⟩
  have main:wpOpsS M.P ops2 (Exit.thenS (rest2.wpS M.P (bodyPostS M.P fn2 c0 cs fun
    | .returned _,u',w'=>Leaves M.P fn a3.tmps (fun e w'=>∃ ρ',e = .returned (ρ'.val v) /\ HOk M.P ρ' (Dn D0 H.length H'.length) H' w' ro N W0 /\ Agree D0 ρ ρ' /\ Cl (Dn D0 H.length H'.length) v) [] (settle u') w'
    | .panicked chain,u',w'=>Leaves M.P fn a3.tmps (fun e w'=>∃ ρ',e = .returned (ρ'.val v) /\ HOk M.P ρ' (Dn D0 H.length H'.length) H' w' ro N W0 /\ Agree D0 ρ ρ' /\ Cl (Dn D0 H.length H'.length) v) [] (raised u' chain) w'
    | .outgrown,_,w'=>∃ ρ',Ending.outgrown = .returned (ρ'.val v) /\ HOk M.P ρ' (Dn D0 H.length H'.length) H' w' ro N W0 /\ Agree D0 ρ ρ' /\ Cl (Dn D0 H.length H'.length) v))
    (bodyPostS M.P fn2 c0 cs fun
    | .returned _,u',w'=>Leaves M.P fn a3.tmps (fun e w'=>∃ ρ',e = .returned (ρ'.val v) /\ HOk M.P ρ' (Dn D0 H.length H'.length) H' w' ro N W0 /\ Agree D0 ρ ρ' /\ Cl (Dn D0 H.length H'.length) v) [] (settle u') w'
    | .panicked chain,u',w'=>Leaves M.P fn a3.tmps (fun e w'=>∃ ρ',e = .returned (ρ'.val v) /\ HOk M.P ρ' (Dn D0 H.length H'.length) H' w' ro N W0 /\ Agree D0 ρ ρ' /\ Cl (Dn D0 H.length H'.length) v) [] (raised u' chain) w'
    | .outgrown,_,w'=>∃ ρ',Ending.outgrown = .returned (ρ'.val v) /\ HOk M.P ρ' (Dn D0 H.length H'.length) H' w' ro N W0 /\ Agree D0 ρ ρ' /\ Cl (Dn D0 H.length H'.length) v))
    (List.range' (0 + 1) more.length) (({ tmps:=c.map ρ2.val ++ Array.replicate (fn2.ntmps - (c.map ρ2.val).size) undef,defers:=[] }:Act).put rc.dst rv) ({ c0 with mode:=u' } :: cs) w3:=by
   have hrel:SRel M.P ⟨D.nt2,DD (DD D0 H.length s1.hp.length) s1.hp.length s2.hp.length,s2.hp.length,ro,N,W0,ρ3,[]⟩ ρ3 ⟨put (some D.rt) rv (args0 c.toList),s2.hp,[]⟩ (({ tmps:=c.map ρ2.val ++ Array.replicate (fn2.ntmps - (c.map ρ2.val).size) undef,defers:=[] }:Act).put rc.dst rv) w3:=by
    refine start_rel r3.hok r3.glob (nLt hro (nLt l1 l2)) ?_ ?_ (by rw [q8]; rfl)
    ·rw [q8];have hv:rv = ρ3.val rv:=(Rho.val_flat hfl).symm
     conv=>rhs; rw [hv]
     refine ER.put (ρ:=ρ3) ?_ (.refl _ _) (fun _ h=>h) (.flat hfl) fun t ht=>?_
     ·rw [cm]; exact er_args ccl3
     ·simp only [oIq] at ht; subst ht;simp only [Array.size_append,Array.size_replicate,Array.size_map,q4]; omega
    ·rw [q8]; simp only [Act.put,Array.size_setIfInBounds,Array.size_append,Array.size_replicate,Array.size_map,q4]; omega
   generalize hB:bodyPostS M.P fn2 c0 cs _ = B
   refine wpOpsS_of_list (Q:=fun e a w=>e = .normal /\ rest2.wpS M.P B a ({ c0 with mode:=u' } :: cs) w) (fun ⟨_,_,hh,_⟩=>by cases hh) (fun e a w hh=>by obtain ⟨rfl,hh⟩:=hh; exact hh) more (0 + 1) (fun j=>?_) _ _
    (stepsA_sound hM.mok ih more _ _ _ _ _ q10 h3 hrel fun ρ5 a5 w5 r5=>⟨rfl,wpS_of_wp (execN_sound (c:=_) hM.mok hM.mix ih rest2 q11 h4 r5 fun ρ6 a6 w6 r6=>?_)⟩)
   ·rw [<- Array.getElem?_toList,q6,Nat.zero_add,Nat.add_comm 1 j]; rfl
   subst hB
   have hdd:DD (DD (DD D0 H.length s1.hp.length) s1.hp.length s2.hp.length) s2.hp.length s4.hp.length = DD D0 H.length s4.hp.length:=by
    rw [dd_dd l1 l2,dd_dd (nLt l1 l2) l4]
   have hok6:HOk M.P ρ6 (DD D0 H.length s4.hp.length) s4.hp w6 ro N W0:=by have:=r6.hok; simp only [hdd] at this; exact this
   have her:ER ρ6 (DD D0 H.length s4.hp.length) s2.env a3.tmps:=by
    refine r3.env.mono (fun b hb=>r6.agree b ⟨?_,hb⟩) fun b hb=>?_
    ·rcases hb with hb | hb
     ·exact Nat.lt_of_lt_of_le hb.1 l2
     ·exact hb.2
    ·rw [<- hdd];refine .inl ⟨?_,hb⟩
     rcases hb with hb | hb
     ·exact Nat.lt_of_lt_of_le hb.1 l2
     ·exact hb.2
   obtain ⟨ρ7,f1,f2,f3,f4⟩:=finish_rel (fn:=fn) hfin hok6 her p4 (by simp only; omega) hro (fun b hb hDb hn cs ee hk u hu i hi=>by
    obtain ⟨cs0,k1,k2⟩:=hkept b hb (by simp) cs ee hk
    rcases k2 u hu with k2 | k2
    ·exact hok.lt (((hok.at_ hDb k1).2 u k2).1 i hi)
    ·have:addrs u = []:=by simpa [flat_eq] using k2
     rw [this] at hi; cases hi) (by simp)
   have hDn:Dn D0 H.length H'.length = DD D0 H.length H'.length:=by
    have:=Dn_DD (D0:=D0) (Nat.le_refl H.length) hgc.1
    rw [dd_self hok] at this; exact this
   have hag:Agree D0 ρ ρ7:=fun b hb=>by
    have hlt:=hok.lt hb;have b2:DD D0 H.length s1.hp.length b:=.inl ⟨hlt,hb⟩;have b3:DD (DD D0 H.length s1.hp.length) s1.hp.length s2.hp.length b:=.inl ⟨Nat.lt_of_lt_of_le hlt l1,b2⟩;have g2:=r2.agree b ⟨hlt,hb⟩;have g3:=r3.agree b ⟨Nat.lt_of_lt_of_le hlt l1,b2⟩;have g6:=r6.agree b ⟨Nat.lt_of_lt_of_le hlt (nLt l1 l2),b3⟩;have g7:=f3 b ⟨hlt,hb⟩;exact ⟨g7.1.trans (g6.1.trans (g3.1.trans g2.1)),g7.2.1.trans (g6.2.1.trans (g3.2.1.trans g2.2.1)),g7.2.2.trans (g6.2.2.trans (g3.2.2.trans g2.2.2))⟩
   have hres2:(results fn2 a6.tmps).run M.P w6 = .ok (.tuple #[]) w6:=by
    unfold results; rw [q5]; simp
   have fin:Leaves M.P fn a3.tmps (fun e w'=>∃ ρ',e = .returned (ρ'.val v) /\ HOk M.P ρ' (Dn D0 H.length H'.length) H' w' ro N W0 /\ Agree D0 ρ ρ' /\ Cl (Dn D0 H.length H'.length) v) [] (settle u') w6:=by
    rw [hset];exact ⟨_,f1,ρ7,rfl,by rw [hDn]; exact f2,hag,by rw [hDn]; exact f4⟩
   rcases he' with rfl | rfl
   ·exact ⟨r6.defs,u',rfl,_,hres2,fin⟩
   ·exact ⟨r6.defs,u',rfl,_,hres2,fin⟩
  rcases hrec c0 cs hc with hr | ⟨hr,rfl,rfl⟩
  ·simp only [hr]; exact main
  ·have hcc:({ c0 with mode:=u' }:Frame) = c0:=by subst hc; rfl
   rw [hcc] at main;simp only [hr]; exact main
 cases e with
 | normal =>
  simp only [recOf,oIq] at hrv; subst hrv;exact leave .returning .returning (by simp) rfl (fun c0 cs hc=>.inr ⟨by simp [recoverD,hc],rfl,rfl⟩) rfl
 | ret =>
  simp only [recOf,oIq] at hrv; subst hrv;exact leave .returning .returning (by simp) rfl (fun c0 cs hc=>.inr ⟨by simp [recoverD,hc],rfl,rfl⟩) rfl
 | panic u =>
  simp only [recOf] at hrv
  split at hrv
  case isFalse=>cases hrv
  rename_i hfl
  simp only [oIq] at hrv; subst hrv;exact leave (.panicking [{ v:=u,recovered:=false }]) (.panicking [{ v:=u,recovered:=true }]) (by simp) (by simp [settle]) (fun c0 cs hc=>.inl (by simp [recoverD,hc])) hfl
 | exit id=>simp [recOf] at hrv
 | goto l=>simp [recOf] at hrv
def callD (M:Mach) (Df:FuncId -> Option DFun):Nat -> CallF
 | 0=>noC
 | n + 1=>fun ro f args H =>
  match Df f with
  | some D=>if f < PB then dbody M (callD M Df n) n D ro args H else none
  | none=>bodyC M (callD M Df n) n ro f args H
theorem callD_ok {M:Mach} (hM:MachOk M) {Df:FuncId -> Option DFun} (hD:∀ f D,Df f = some D -> DOk M.P f D):∀ n,CallOk M (callD M Df n)
 | 0=>noC_ok
 | n + 1=>by
  intro ro f args H v H' d h hro;simp only [callD] at h
  split at h
  ·rename_i D hf
   split at h
   case isFalse=>cases h
   rename_i hlt
   obtain ⟨h1,h2⟩:=dbody_ok hM (callD_ok hM hD n) (hD f D hf) h hro;rw [realF_lt hlt];exact ⟨h1,fun ρ D0 w N W0 a b c=>(h2 ρ D0 w N W0 a b c).mono fun e w' ⟨ρ',q1,q2,q3,q4⟩=>⟨ρ',.inl ⟨hlt,q1⟩,q2,q3,q4⟩⟩
  ·exact bodyC_ok hM (callD_ok hM hD n) _ _ _ _ _ _ _ h hro
end Go.AM
