import Derived.Test.YtaadjlpfdajggaaGreatDoorFjAm4
set_option linter.unusedVariables false
set_option linter.unusedSimpArgs false
namespace Go.AM
open Go
structure MOk (M:Mach):Prop where
  small:∀ g af,M.F g = some af -> g < PB
  F : ∀ g af, M.F g = some af -> ∃ fn, M.P.funcs[g]? = some fn /\ (fn.name == "runtime.NumGoroutine") = false /\ fn.body.isNone = false
  X:∀ g ex (args:List Value) v,M.X g = some ex -> ex args = some v -> (∀ x ∈ args,flat x = true) -> ∀ w,(callFunc g args.toArray).run M.P w = .ok (.value v) w
section
variable {M:Mach} {ρ:Rho} {D:Nat -> Prop} {H:Hp} {w:World} {ro:Nat} {N:Nat -> Prop} {W0:Old} {σ:Env} {e:Operand -> Value}
theorem op_copy {P:Program} {nb:Nat} {ts:Array TypeId} {ty:TypeId} {s x r:Value} {H':Hp} (h:HOk P ρ D H w ro N W0) (hcs:Cl D s) (hcx:Cl D x) (hr:copyA P nb ro H ts s x = some (r,H')) :
    OpRes P ρ D H w ro N W0 (do pure (.value (<- Builtin.copy_ ts ty #[ρ.val s,ρ.val x])):Sem Next) (.val r) H':=by
  unfold copyA at hr
  split at hr
  case h_2=>simp at hr
  rename_i t ht0
  split at hr
  case h_2=>simp at hr
  rename_i el hut
  have hint:∀ n:Int,ρ.val (.int .i64 n) = .int .i64 n:=fun n=>by simp [Rho.val]
  split at hr
  · rename_i a n q b m q'
    split at hr
    · simp at hr
    rename_i hsp
    simp only [Bool.or_eq_true,not_or] at hsp
    have hsa:a.spot = none:=by cases hh:a.spot <;> simp_all
    have hsb:b.spot = none:=by cases hh:b.spot <;> simp_all
    simp only [oBe] at hr;obtain ⟨z,hz,new,hnew,hr⟩:=hr
    split at hr
    case isFalse=>simp at hr
    simp only [oMe,pIq] at hr;obtain ⟨H1,hw,rfl,rfl⟩:=hr;obtain ⟨s1,s2,s3⟩:=rdN_run h (hcx b.block (by simp)) hnew;obtain ⟨w',w1,w2,w3⟩:=run_wr h (hcs a.block (by simp)) hw fun v hv=>(s3 v hv).1;refine ⟨ρ,w',?_,by rw [w3,Dn_eq]; exact w2,.refl _ _,.flat (by simp [flat_eq])⟩
    have e0:ρ.val (.slice (some a) n q) = .slice (some ⟨ρ.blk a.block,a.off + ρ.off a.block,none⟩) n (ρ.cap a.block - q):=by simp [Rho.val,hsa]
    have e1:ρ.val (.slice (some b) m q') = .slice (some ⟨ρ.blk b.block,b.off + ρ.off b.block,none⟩) m (ρ.cap b.block - q'):=by simp [Rho.val,hsb]
    rw [e0,e1,hint];have f0:(#[Value.slice (some ⟨ρ.blk a.block,a.off + ρ.off a.block,none⟩) n (ρ.cap a.block - q),Value.slice (some ⟨ρ.blk b.block,b.off + ρ.off b.block,none⟩) m (ρ.cap b.block - q')]:Array Value)[0]? = some (Value.slice (some ⟨ρ.blk a.block,a.off + ρ.off a.block,none⟩) n (ρ.cap a.block - q)):=rfl;have f1:(#[Value.slice (some ⟨ρ.blk a.block,a.off + ρ.off a.block,none⟩) n (ρ.cap a.block - q),Value.slice (some ⟨ρ.blk b.block,b.off + ρ.off b.block,none⟩) m (ρ.cap b.block - q')]:Array Value)[1]? = some (Value.slice (some ⟨ρ.blk b.block,b.off + ρ.off b.block,none⟩) m (ρ.cap b.block - q')):=rfl;have s1':(loadCells ⟨ρ.blk b.block,b.off + ρ.off b.block,none⟩ (Nat.min m n * z)).run P w = .ok (new.map ρ.val).toArray w:=s1;simp only [Builtin.copy_,ht0,f0,f1,Sem.run_bind,run_underlying hut,Result.andThen_ok,Builtin.lenOf,Sem.run_pure,run_sizeOf' hz,Builtin.firstCells,s1',w1]
    have hm:((Nat.min m n:Nat):Int) = min (m:Int) n:=by change ((min m n:Nat):Int) = _; omega
    simp only [goInt,hm]
  · rename_i n q c m q'
    split at hr
    · rename_i hn
      simp only [oMe,pIq] at hr;obtain ⟨z,hz,rfl,rfl⟩:=hr;refine .same h ?_ (.flat (by simp [flat_eq]));rw [hint];subst hn
      cases c with
      | none=>simp [Builtin.copy_,ht0,run_underlying hut,Builtin.lenOf,run_sizeOf' hz,Builtin.firstCells,Rho.val,goInt]
      | some b=>simp [Builtin.copy_,ht0,run_underlying hut,Builtin.lenOf,run_sizeOf' hz,Builtin.firstCells,Rho.val,goInt,loadCells,loadCellsFrom]
    · simp at hr
  · rename_i c n q m q' hx
    split at hr
    · rename_i hn
      simp only [oMe,pIq] at hr;obtain ⟨z,hz,rfl,rfl⟩:=hr;refine .same h ?_ (.flat (by simp [flat_eq]));rw [hint];subst hn
      cases c with
      | none=>simp [Builtin.copy_,ht0,run_underlying hut,Builtin.lenOf,run_sizeOf' hz,Builtin.firstCells,Rho.val,goInt]
      | some b=>simp [Builtin.copy_,ht0,run_underlying hut,Builtin.lenOf,run_sizeOf' hz,Builtin.firstCells,Rho.val,goInt,storeCells]
    · simp at hr
  · simp at hr
theorem toArray_of_map {f:Operand -> Value} {c:Array Operand} {vs:List Value} (h:c.toList.map f = vs.map ρ.val):c.map f = (vs.map ρ.val).toArray:=by
  apply Array.ext'; simp [h]
theorem all_flat {vs:List Value} (h:vs.all flat = true):vs.map ρ.val = vs /\ ∀ v ∈ vs,flat v = true:=by
  have h':∀ v ∈ vs,flat v = true:=fun v hv=>List.all_eq_true.1 h v hv;refine ⟨?_,h'⟩
  conv=>rhs; rw [<- List.map_id vs]
  exact List.map_congr_left fun v hv=>Rho.val_flat (h' v hv)
theorem op_call {nb:Nat} {c:Call} {ty:TypeId} {r:R1} {H':Hp} (hM:MOk M) (h:HOk M.P ρ D H w ro N W0) (he:∀ x ∈ c.operands.toList,Rel1 ρ D σ e x) (hr:callA M σ nb ro H ty c = some (r,H')) :
    OpRes M.P ρ D H w ro N W0 (do let d <- resolve e c ty; invoke d.target d.args) r H':=by
  unfold callA at hr;simp only [oBe] at hr;obtain ⟨args,hargs,hr⟩:=hr;obtain ⟨a1,a2⟩:=evs_rel (ρ:=ρ) (D:=D) (e:=e) hargs fun x hx=>he x (by simp only [Call.operands,Array.toList_append,List.mem_append]; first | done | exact .inr hx);have a1':=toArray_of_map a1
  cases hc:c.callee with
  | invoke x m=>simp [hc] at hr
  | value f =>
    simp only [hc] at hr;have hf:Rel1 ρ D σ e f:=he f (by simp [Call.operands,hc])
    split at hr
    case h_2=>simp at hr
    rename_i g first captured hev
    obtain ⟨f1,f2⟩:=hf _ hev
    have f1':e f = .func (.func g) (first.map ρ.val) (captured.map ρ.val):=by rw [f1]; simp only [Rho.val,vmap_func,fnMap]
    have hall:∀ v ∈ first.toList ++ args ++ captured.toList,Cl D v:=fun v hv b hb=>by
      simp only [List.mem_append] at hv
      rcases hv with (hv | hv) | hv
      · exact f2 b (by simp only [addrs_func,List.mem_append,List.mem_flatMap]; exact .inl (.inr ⟨v,hv,hb⟩))
      · exact a2 v hv b hb
      · exact f2 b (by simp only [addrs_func,List.mem_append,List.mem_flatMap]; exact .inr ⟨v,hv,hb⟩)
    have harr:first.map ρ.val ++ c.args.map e ++ captured.map ρ.val = ((first.toList ++ args ++ captured.toList).map ρ.val).toArray:=by
      rw [a1']; apply Array.ext'; simp
    have hrun:(do let d <- resolve e c ty; invoke d.target d.args:Sem Next).run M.P w = (callFunc g ((first.toList ++ args ++ captured.toList).map ρ.val).toArray).run M.P w:=by
      rw [<- harr];simp only [resolve,hc,f1',Deferred.ofValue,Sem.run_bind,Sem.run_pure,Result.andThen_ok,invoke]
    split at hr
    · rename_i af haf
      simp only [oIq,pIq] at hr;obtain ⟨rfl,rfl⟩:=hr;obtain ⟨fn,g1,g2,g3⟩:=hM.F g af haf;refine ⟨rfl,hrun.trans ?_,hall,hM.small g af haf⟩;simp only [callFunc,Sem.run_bind,run_program,Result.andThen_ok,g1,g2,g3,bFt,if_false,Sem.run_pure]
    · split at hr
      case h_2=>simp at hr
      rename_i ex hex
      split at hr
      case isFalse=>simp at hr
      rename_i hfl
      simp only [oMe,pIq] at hr;obtain ⟨v,hv,rfl,rfl⟩:=hr;obtain ⟨v1,v2⟩:=flat_of_flatten1 hv;obtain ⟨l1,l2⟩:=all_flat (ρ:=ρ) hfl;refine .same h (hrun.trans ?_) (.flat v2);rw [l1,hM.X g ex _ v hex v1 l2,Rho.val_flat v2]
  | builtin b =>
    simp only [hc] at hr
    have hrun:∀ s:Sem Value,builtin b c.argTypes ty (c.args.map fun | .const _=>true | _=>false) (args.map ρ.val).toArray = (do pure (.value (<- s))) ->
        (do let d <- resolve e c ty; invoke d.target d.args:Sem Next).run M.P w = (do pure (.value (<- s)):Sem Next).run M.P w:=fun s hs=>by
      rw [<- hs];simp only [resolve,hc,Sem.run_bind,Sem.run_pure,Result.andThen_ok,invoke,a1'];rfl
    have via:∀ {s:Sem Value} {v:Value} {H':Hp},builtin b c.argTypes ty (c.args.map fun | .const _=>true | _=>false) (args.map ρ.val).toArray = (do pure (.value (<- s))) ->
        OpRes M.P ρ D H w ro N W0 (do pure (.value (<- s)):Sem Next) (.val v) H' -> OpRes M.P ρ D H w ro N W0 (do let d <- resolve e c ty; invoke d.target d.args) (.val v) H':=fun hs ⟨ρ',w',g1,g2⟩ =>
      ⟨ρ',w',(hrun _ hs).trans g1,g2⟩
    cases b with
    | len =>
      simp only at hr
      split at hr
      case h_2=>simp at hr
      rename_i x t ht
      simp only [oMe,pIq] at hr;obtain ⟨v,hv,rfl,rfl⟩:=hr;exact via (s:=Builtin.len_ c.argTypes ty #[ρ.val x]) rfl (op_len h ht hv)
    | append =>
      simp only at hr
      split at hr
      case h_2=>simp at hr
      rename_i s x
      simp only [oMe,pIq,Prod.exists] at hr;obtain ⟨v,H1,hv,rfl,rfl⟩:=hr;exact via (s:=Builtin.append_ c.argTypes ty #[ρ.val s,ρ.val x]) rfl (op_append h (a2 s (by simp)) (a2 x (by simp)) hv)
    | copy =>
      simp only at hr
      split at hr
      case h_2=>simp at hr
      rename_i s x
      simp only [oMe,pIq,Prod.exists] at hr;obtain ⟨v,H1,hv,rfl,rfl⟩:=hr;exact via (s:=Builtin.copy_ c.argTypes ty #[ρ.val s,ρ.val x]) rfl (op_copy h (a2 s (by simp)) (a2 x (by simp)) hv)
    | min =>
      simp only at hr
      split at hr
      case isFalse=>simp at hr
      rename_i hfl
      simp only [oMe,pIq] at hr;obtain ⟨v,hv,rfl,rfl⟩:=hr;obtain ⟨l1,l2⟩:=all_flat (ρ:=ρ) hfl;exact via (s:=Builtin.min_ c.argTypes ty args.toArray) (by rw [l1]; rfl) (op_pure h hv)
    | max =>
      simp only at hr
      split at hr
      case isFalse=>simp at hr
      rename_i hfl
      simp only [oMe,pIq] at hr;obtain ⟨v,hv,rfl,rfl⟩:=hr;obtain ⟨l1,l2⟩:=all_flat (ρ:=ρ) hfl;exact via (s:=Builtin.max_ c.argTypes ty args.toArray) (by rw [l1]; rfl) (op_pure h hv)
    | _=>simp at hr
theorem fillL_length {pl:Nat -> Option (Nat × Nat)}:∀ {ps:List (Nat × Value)} {cs r:List Value},fillL pl cs ps = some r -> r.length = cs.length
  | [],cs,r,h=>by simp only [fillL,oIq] at h; subst h; rfl
  | (i,v) :: rest,cs,r,h=>by
    simp only [fillL] at h
    split at h
    · simp at h
    · split at h
      · rename_i hc
        rw [fillL_length h,wrs_length (by omega)]
      · simp at h
theorem op_sound {nb:Nat} {o:Oper} {r:R1} {H':Hp} (hM:MOk M) (h:HOk M.P ρ D H w ro N W0)
    (he:∀ x ∈ o.op.operands.toList,Rel1 ρ D σ e x) (hr:opA M σ nb ro H o.type o.op = some (r,H')):OpRes M.P ρ D H w ro N W0 (execOp e o) r H':=by
  obtain ⟨dst,op,ty,pos,after,gd⟩:=o;simp only at he hr
  have two:∀ {x y:Operand},(∀ z ∈ (#[x,y]:Array Operand).toList,Rel1 ρ D σ e z) -> Rel1 ρ D σ e x /\ Rel1 ρ D σ e y:=fun h=>⟨h _ (by simp),h _ (by simp)⟩
  have oneO:∀ {x:Operand},(∀ z ∈ (#[x]:Array Operand).toList,Rel1 ρ D σ e z) -> Rel1 ρ D σ e x:=fun h=>h _ (by simp)
  cases op with
  | move x =>
    simp only [opA,oMe,pIq] at hr;obtain ⟨v,hv,rfl,rfl⟩:=hr;exact op_move h (oneO he) hv
  | assign x =>
    simp only [opA,oMe,pIq] at hr;obtain ⟨v,hv,rfl,rfl⟩:=hr;exact op_move h (oneO he) hv
  | pick c a b =>
    simp only [opA] at hr
    split at hr
    case h_2=>simp at hr
    rename_i t u v hc ha hb
    simp only [oIq,pIq] at hr;obtain ⟨rfl,rfl⟩:=hr;obtain ⟨c1,c2⟩:=he c (by simp [Op.operands]) _ hc;obtain ⟨a1,a2⟩:=he a (by simp [Op.operands]) _ ha;obtain ⟨b1,b2⟩:=he b (by simp [Op.operands]) _ hb;refine .same h ?_ (by cases t <;> simpa);simp only [execOp,c1,a1,b1]
    cases t <;> simp [Rho.val,asBool]
  | alloc t =>
    simp only [opA,oMe,pIq] at hr;obtain ⟨cs,hz,rfl,rfl⟩:=hr;exact op_alloc h hz
  | box t x =>
    simp only [opA,oBe] at hr;obtain ⟨v,hv,hr⟩:=hr
    split at hr
    case isFalse=>simp at hr
    rename_i hb
    simp only [oIq,pIq] at hr;obtain ⟨rfl,rfl⟩:=hr;obtain ⟨c1,c2⟩:=oneO he _ hv;simp only [execOp,c1];exact op_box h hb.1 hb.2 c2
  | build t parts =>
    simp only [opA,oBe] at hr;obtain ⟨ps,hps,z,hz,hr⟩:=hr;obtain ⟨p1,p2⟩:=evParts_rel (ρ:=ρ) (D:=D) (e:=e) hps fun x hx=>he x.2 (by simp [Op.operands]; exact ⟨x.1,by simpa using hx⟩)
    have p1':(parts.map fun (i,x)=>(i,e x)).toList = ps.map fun x=>(x.1,ρ.val x.2):=by rw [<- p1]; simp
    have key:∀ cs,(match M.P.underlying t with
      | some (.struct fs)=>(placesO M.P fs.toList).bind fun pl=>(fillL (fun (i:Nat)=>pl[i]?) z ps)
      | some (.array _ e)=>(szO M.P e).bind fun n=>(fillL (fun i=>some (i * n,n)) z ps)
      | _=>none) = some cs -> OpRes M.P ρ D H w ro N W0 (execOp e ⟨dst,.build t parts,ty,pos,after,gd⟩) (.val (.agg cs.toArray)) H:=fun cs hcs=>op_build h p1' p2 hz hcs
    cases hu:M.P.underlying t with
    | none=>simp [hu] at hr
    | some d =>
      cases d <;> simp only [hu] at hr key <;> first
        | (simp at hr; done)
        | (simp only [oBe,oMe,pIq] at hr
           obtain ⟨n,hn,cs,hcs,rfl,rfl⟩:=hr
           exact key cs (by simp [hn,hcs]))
  | buildSlice t n parts =>
    simp only [opA,oBe] at hr;obtain ⟨ps,hps,hr⟩:=hr;obtain ⟨p1,p2⟩:=evParts_rel (ρ:=ρ) (D:=D) (e:=e) hps fun x hx=>he x.2 (by simp [Op.operands]; exact ⟨x.1,by simpa using hx⟩)
    have p1':(parts.map fun (i,x)=>(i,e x)).toList = ps.map fun x=>(x.1,ρ.val x.2):=by rw [<- p1]; simp
    split at hr
    case h_2=>simp at hr
    rename_i el hu
    simp only [oBe] at hr;obtain ⟨z,hz,hr⟩:=hr
    split at hr
    case isFalse=>simp at hr
    rename_i hn
    simp only [oBe] at hr;obtain ⟨cs,hcs,hr⟩:=hr
    split at hr
    case isFalse=>simp at hr
    rename_i hone
    simp only [oIq,pIq] at hr;obtain ⟨rfl,rfl⟩:=hr;exact op_buildSlice h p1' p2 hu hz hn hcs hone (by rw [fillL_length hcs]; simp [List.length_flatten])
  | load t a =>
    simp only [opA] at hr
    split at hr
    case h_2=>simp at hr
    rename_i a' ha
    simp only [oMe,pIq] at hr;obtain ⟨v,hv,rfl,rfl⟩:=hr;obtain ⟨c1,c2⟩:=oneO he _ ha;simp only [execOp,c1];exact op_load h (c2 _ (by simp)) hv
  | nilCheck x =>
    simp only [opA] at hr
    split at hr
    · rename_i a ha
      simp only [oIq,pIq] at hr;obtain ⟨rfl,rfl⟩:=hr;obtain ⟨c1,c2⟩:=oneO he _ ha;exact op_nilCheckP h (c2 _ (by simp)) c1
    · rename_i g f c ha
      simp only [oIq,pIq] at hr;obtain ⟨rfl,rfl⟩:=hr;obtain ⟨c1,c2⟩:=oneO he _ ha;exact op_nilCheckF h c2 c1
    · simp at hr
  | binOp op t x y yt =>
    simp only [opA] at hr
    split at hr
    case h_2=>simp at hr
    rename_i a b ha hb
    simp only [oMe,pIq] at hr;obtain ⟨v,hv,rfl,rfl⟩:=hr;obtain ⟨a1,a2⟩:=(two he).1 _ ha;obtain ⟨b1,b2⟩:=(two he).2 _ hb;simp only [execOp,a1,b1];exact op_bin h hv
  | unOp op t x =>
    simp only [opA,oBe] at hr;obtain ⟨a,ha,hr⟩:=hr
    split at hr
    case isFalse=>simp at hr
    rename_i hf
    simp only [oMe,pIq] at hr;obtain ⟨v,hv,rfl,rfl⟩:=hr;obtain ⟨a1,a2⟩:=oneO he _ ha;simp only [execOp,a1,Rho.val_flat hf];exact op_pure h hv
  | convert src dst' x =>
    simp only [opA,oBe] at hr;obtain ⟨a,ha,hr⟩:=hr;simp only [oMe,pIq,Prod.exists] at hr;obtain ⟨v,H1,hv,rfl,rfl⟩:=hr;obtain ⟨a1,a2⟩:=oneO he _ ha;simp only [execOp,a1];exact op_conv h a2 hv
  | makeInterface t x =>
    simp only [opA] at hr
    split at hr
    · simp at hr
    · rename_i d v hnd hu hv
      simp only [oIq,pIq] at hr;obtain ⟨rfl,rfl⟩:=hr;obtain ⟨a1,a2⟩:=oneO he _ hv;simp only [execOp,a1];exact op_makeInterface h hu (fun ms hm=>hnd ms hm) a2
    · simp at hr
  | makeFunc fn first cap =>
    have key:(∀ l,fn ≠ .yield l) -> ((evs σ first.toList).bind fun f=>(evs σ cap.toList).bind fun c=>some (R1.val (.func fn f.toArray c.toArray),H)) = some (r,H') ->
        OpRes M.P ρ D H w ro N W0 (execOp e ⟨dst,.makeFunc fn first cap,ty,pos,after,gd⟩) r H':=fun hfn hr=>by
      simp only [oBe,oIq,pIq] at hr;obtain ⟨f,hf,c,hc,rfl,rfl⟩:=hr;obtain ⟨f1,f2⟩:=evs_rel (ρ:=ρ) (D:=D) (e:=e) hf fun x hx=>he x (by simp [Op.operands]; exact .inl (by simpa using hx));obtain ⟨c1,c2⟩:=evs_rel (ρ:=ρ) (D:=D) (e:=e) hc fun x hx=>he x (by simp [Op.operands]; exact .inr (by simpa using hx));simp only [execOp,toArray_of_map f1,toArray_of_map c1];exact op_makeFunc h (by cases fn <;> simp_all [fnAddrs]) f2 c2
    cases fn <;> simp only [opA] at hr <;> first
      | (simp at hr; done)
      | exact key (by simp) hr
  | makeSlice t l c =>
    simp only [opA] at hr
    split at hr
    case h_2=>simp at hr
    rename_i el k n k' m hu hl hc
    simp only [oBe] at hr;obtain ⟨by_,hb,hr⟩:=hr
    split at hr
    case isFalse=>simp at hr
    rename_i hb'
    simp only [oMe,pIq] at hr;obtain ⟨z,hz,rfl,rfl⟩:=hr;obtain ⟨l1,_⟩:=(two he).1 _ hl;obtain ⟨c1,_⟩:=(two he).2 _ hc
    have i1:∀ k n,ρ.val (.int k n) = .int k n:=fun k n=>by simp [Rho.val]
    simp only [execOp,l1,c1,i1];exact op_makeSlice h hu hz hb hb'.1 hb'.2.1 hb'.2.2.1 hb'.2.2.2
  | slice t x lo hi mx =>
    cases mx with
    | some m=>simp [opA] at hr
    | none =>
      simp only [opA] at hr
      split at hr
      case h_2=>simp at hr
      rename_i v l h' hx hlo hhi
      simp only [oMe,pIq,Prod.exists] at hr;obtain ⟨v',H1,hv,rfl,rfl⟩:=hr;obtain ⟨x1,x2⟩:=he x (by simp [Op.operands]) _ hx
      have bnd:∀ {b:Option Operand} {u:Option Value},(∀ y ∈ b,Rel1 ρ D σ e y) -> (match b with | some l=>(ev σ l).map some | none=>some none) = some u -> b.map e = u.map ρ.val:=fun {b u} hb hu=>by
        cases b with
        | none=>simp at hu; subst hu; rfl
        | some y =>
          simp only [oMe] at hu;obtain ⟨v,hv,rfl⟩:=hu;obtain ⟨y1,_⟩:=hb y (by simp) _ hv;simp [y1]
      have l1:=bnd (fun y hy=>he y (by cases lo <;> simp_all [Op.operands])) hlo;have h1:=bnd (fun y hy=>he y (by cases hi <;> simp_all [Op.operands])) hhi;simp only [execOp,x1,l1,h1,Option.map_none];exact op_slice h x2 hv
  | fieldAddr s x f =>
    simp only [opA] at hr
    split at hr
    case h_2=>simp at hr
    rename_i fs a hu ha
    split at hr
    case h_2=>simp at hr
    rename_i f' hf
    split at hr
    · simp at hr
    rename_i hz
    simp only [oIq,pIq] at hr;obtain ⟨rfl,rfl⟩:=hr;obtain ⟨a1,a2⟩:=oneO he _ ha;simp only [execOp,a1];simp only [not_or] at hz;exact op_fieldAddr h hu hf hz.1 (by cases hh:a.spot <;> simp_all) (a2 _ (by simp))
  | field t x f =>
    simp only [opA] at hr
    split at hr
    case h_2=>simp at hr
    rename_i fs cs hu ha
    split at hr
    case h_2=>simp at hr
    rename_i f' hf
    simp only [oMe,pIq] at hr;obtain ⟨v,hv,rfl,rfl⟩:=hr;obtain ⟨a1,a2⟩:=oneO he _ ha;simp only [execOp,a1];exact op_field h hu hf hv a2
  | indexAddr t x ix =>
    have i1:∀ k n,ρ.val (.int k n) = .int k n:=fun k n=>by simp [Rho.val]
    simp only [opA] at hr
    split at hr
    · rename_i n el a k i hu ha hi
      split at hr
      case isFalse=>simp at hr
      rename_i hb
      simp only [oMe,pIq] at hr;obtain ⟨z,hz,rfl,rfl⟩:=hr;obtain ⟨a1,a2⟩:=(two he).1 _ ha;obtain ⟨b1,_⟩:=(two he).2 _ hi;simp only [execOp,a1,b1,i1];exact op_indexAddrA h hu hz hb.1 hb.2.1 hb.2.2 (a2 _ (by simp))
    · rename_i el a n q k i hu ha hi
      split at hr
      case isFalse=>simp at hr
      rename_i hb
      simp only [oMe,pIq] at hr;obtain ⟨z,hz,rfl,rfl⟩:=hr;obtain ⟨a1,a2⟩:=(two he).1 _ ha;obtain ⟨b1,_⟩:=(two he).2 _ hi;simp only [execOp,a1,b1,i1];exact op_indexAddrS h hu hz hb.1 hb.2.1 hb.2.2 (a2 _ (by simp))
    · simp at hr
  | index t x ix =>
    have i1:∀ k n,ρ.val (.int k n) = .int k n:=fun k n=>by simp [Rho.val]
    simp only [opA] at hr
    split at hr
    · rename_i n el cs k i hu ha hi
      split at hr
      case isFalse=>simp at hr
      rename_i hb
      simp only [oBe,oMe,pIq] at hr;obtain ⟨z,hz,v,hv,rfl,rfl⟩:=hr;obtain ⟨a1,a2⟩:=(two he).1 _ ha;obtain ⟨b1,_⟩:=(two he).2 _ hi;simp only [execOp,a1,b1,i1];exact op_index h hu hb.1 hb.2 hz hv a2
    · rename_i s k i hu ha hi
      split at hr
      case isFalse=>simp at hr
      rename_i hb
      simp only [oMe,pIq] at hr;obtain ⟨b,hbb,rfl,rfl⟩:=hr;obtain ⟨a1,a2⟩:=(two he).1 _ ha;obtain ⟨b1,_⟩:=(two he).2 _ hi
      have s1:ρ.val (.string s) = .string s:=by simp [Rho.val]
      simp only [execOp,a1,b1,i1,s1];exact op_indexStr h hu hb hbb
    · simp at hr
  | range t x =>
    simp only [opA] at hr
    split at hr
    case h_2=>simp at hr
    rename_i s hu ha
    simp only [oIq,pIq] at hr;obtain ⟨rfl,rfl⟩:=hr;obtain ⟨a1,a2⟩:=oneO he _ ha
    have s1:ρ.val (.string s) = .string s:=by simp [Rho.val]
    simp only [execOp,a1,s1];exact op_range h hu
  | next it isS =>
    cases isS with
    | false=>simp [opA] at hr
    | true =>
      simp only [opA] at hr
      split at hr
      case h_2=>simp at hr
      rename_i b sp ha
      split at hr
      case h_2=>simp at hr
      rename_i s p hk
      split at hr
      case isFalse=>simp at hr
      rename_i hro
      obtain ⟨a1,a2⟩:=oneO he _ ha;have hD:D b:=a2 _ (by simp)
      split at hr
      · rename_i hp
        simp only [oIq,pIq] at hr;obtain ⟨rfl,rfl⟩:=hr;simp only [execOp,a1];exact op_next h hD hro hk hp
      · rename_i hp
        simp only [oIq,pIq] at hr;obtain ⟨rfl,rfl⟩:=hr;simp only [execOp,a1];exact op_nextEnd h hD hk hp
  | typeAssert x xt t ok =>
    cases ok with
    | false=>simp [opA] at hr
    | true =>
      simp only [opA] at hr
      split at hr
      · simp at hr
      · rename_i d u v hnd hu ha
        obtain ⟨a1,a2⟩:=oneO he _ ha;simp only [execOp,a1]
        split at hr
        · rename_i hut
          simp only [oIq,pIq] at hr;obtain ⟨rfl,rfl⟩:=hr;exact op_typeAssert h hu (fun ms hm=>hnd ms hm) a2 (by simp [hut])
        · rename_i hut
          simp only [oBe] at hr;obtain ⟨z,hz,hr⟩:=hr
          split at hr
          case isFalse=>simp at hr
          rename_i hzf
          simp only [oIq,pIq] at hr;obtain ⟨rfl,rfl⟩:=hr;exact op_typeAssert h hu (fun ms hm=>hnd ms hm) a2 (by simp only [hut,if_false]; rw [oBe]; exact ⟨z,oBe.2 hz,by simp [hzf]⟩)
      · rename_i d hnd hu ha
        obtain ⟨a1,a2⟩:=oneO he _ ha;simp only [execOp,a1];simp only [oBe] at hr;obtain ⟨z,hz,hr⟩:=hr
        split at hr
        case isFalse=>simp at hr
        rename_i hzf
        simp only [oIq,pIq] at hr;obtain ⟨rfl,rfl⟩:=hr;exact op_typeAssert h hu (fun ms hm=>hnd ms hm) a2 (by simp only; rw [oBe]; exact ⟨z,oBe.2 hz,by simp [hzf]⟩)
      · simp at hr
  | extract x i =>
    simp only [opA] at hr
    split at hr
    case h_2=>simp at hr
    rename_i vs ha
    simp only [oMe,pIq] at hr;obtain ⟨v,hv,rfl,rfl⟩:=hr;obtain ⟨a1,a2⟩:=oneO he _ ha;simp only [execOp,a1];exact op_extract h hv a2
  | call c=>exact op_call hM h he hr
  | _=>simp [opA] at hr
end
end Go.AM
