import Derived.Test.YtaadjlpfdajggaaGreatDoorFjAm2
import Derived.Lib.ConvBytes
import Derived.Laws.BytesString
import Derived.Laws.RangeString
set_option linter.unusedVariables false
set_option linter.unusedSimpArgs false
namespace Go.AM
open Go
section
variable {P:Program} {ρ:Rho} {D:Nat -> Prop} {H:Hp} {w:World} {ro:Nat} {N:Nat -> Prop} {W0:Old} {σ:Env} {e:Operand -> Value}
def Rel1 (ρ:Rho) (D:Nat -> Prop) (σ:Env) (e:Operand -> Value) (x:Operand):Prop:=∀ v,ev σ x = some v -> e x = ρ.val v /\ Cl D v
def OpRes (P:Program) (ρ:Rho) (D:Nat -> Prop) (H:Hp) (w:World) (ro:Nat) (N:Nat -> Prop) (W0:Old) (s:Sem Next) (r:R1) (H':Hp):Prop :=
 match r with
 | .val v=>∃ ρ' w',s.run P w = .ok (.value (ρ'.val v)) w' /\ HOk P ρ' (Dn D H.length H'.length) H' w' ro N W0 /\ Agree D ρ ρ' /\ Cl (Dn D H.length H'.length) v
 | .enter f args=>H' = H /\ s.run P w = .ok (.enter f (args.map ρ.val).toArray) w /\ (∀ v ∈ args,Cl D v) /\ f < PB
theorem OpRes.same {s:Sem Next} {v:Value} (h:HOk P ρ D H w ro N W0) (hr:s.run P w = .ok (.value (ρ.val v)) w) (hc:Cl D v):OpRes P ρ D H w ro N W0 s (.val v) H :=
 ⟨ρ,w,hr,by rw [Dn_eq]; exact h,.refl _ _,by rw [Dn_eq]; exact hc⟩
theorem evs_rel:∀ {l:List Operand} {vs:List Value},evs σ l = some vs -> (∀ x ∈ l,Rel1 ρ D σ e x) -> l.map e = vs.map ρ.val /\ ∀ v ∈ vs,Cl D v
 | [],vs,h,_=>by simp [evs] at h; subst h; simp
 | x :: r,vs,h,hr=>by
  simp only [evs,oBe] at h;obtain ⟨v,hv,us,hu,h⟩:=h;simp only [oIq] at h; subst h;obtain ⟨h1,h2⟩:=evs_rel hu fun y hy=>hr y (by simp [hy]);obtain ⟨h3,h4⟩:=hr x (by simp) v hv;exact ⟨by simp [h1,h3],fun u hu=>by rcases List.mem_cons.1 hu with rfl | hu; exact h4; exact h2 u hu⟩
theorem evParts_rel:∀ {l:List (Nat × Operand)} {vs:List (Nat × Value)},evParts σ l = some vs -> (∀ x ∈ l,Rel1 ρ D σ e x.2) ->
  (l.map fun x=>(x.1,e x.2)) = (vs.map fun x=>(x.1,ρ.val x.2)) /\ ∀ v ∈ vs,Cl D v.2
 | [],vs,h,_=>by simp [evParts] at h; subst h; simp
 | (i,x) :: r,vs,h,hr=>by
  simp only [evParts,oBe] at h;obtain ⟨v,hv,us,hu,h⟩:=h;simp only [oIq] at h; subst h;obtain ⟨h1,h2⟩:=evParts_rel hu fun y hy=>hr y (by simp [hy]);obtain ⟨h3,h4⟩:=hr (i,x) (by simp) v hv;exact ⟨by simp [h1,h3],fun u hu=>by rcases List.mem_cons.1 hu with rfl | hu; exact h4; exact h2 u hu⟩
theorem op_move {x:Operand} {v:Value} (h:HOk P ρ D H w ro N W0) (hx:Rel1 ρ D σ e x) (hv:ev σ x = some v) :
  OpRes P ρ D H w ro N W0 (pure (.value (e x)):Sem Next) (.val v) H:=by
 obtain ⟨h1,h2⟩:=hx v hv;exact .same h (by rw [h1]; rfl) h2
theorem flat_of_flatten1 {o:Option Value} {v:Value} (h:flatten1 o = some v):o = some v /\ flat v = true:=by
 unfold flatten1 at h
 cases o with
 | none=>simp at h
 | some u =>
  simp only [oBs] at h
  split at h
  ·simp only [oIq] at h; subst h; exact ⟨rfl,by assumption⟩
  ·simp at h
theorem op_pure {s:Sem Value} {v:Value} (h:HOk P ρ D H w ro N W0) (hv:flatten1 (pureRun P s) = some v) :
  OpRes P ρ D H w ro N W0 (do pure (.value (<- s)):Sem Next) (.val v) H:=by
 obtain ⟨h1,h2⟩:=flat_of_flatten1 hv;refine .same h ?_ (.flat h2);rw [Sem.run_bind,pureRun_run h1,Rho.val_flat h2]; rfl
theorem fold_set (cells:Array Value) (off:Nat):∀ (vs:List Value) (k:Nat) (cells:Array Value),off + k + vs.length <= cells.size ->
  ((vs.zipIdx k).foldl (fun cs (p:Value × Nat)=>cs.setIfInBounds (off + p.2) p.1) cells).toList = cells.toList.take (off + k) ++ vs ++ cells.toList.drop (off + k + vs.length)
 | [],k,cells,_=>by simp
 | v :: r,k,cells,h=>by
  simp only [List.length_cons] at h;simp only [List.zipIdx_cons,List.foldl_cons];rw [fold_set cells off r (k + 1) _ (by simp; omega)];have e:=list_seg_step cells.toList (off + k) v r (by simp; omega);simp only [Array.toList_setIfInBounds,List.length_cons]
  simpa [Nat.add_assoc] using e
theorem wrs_map (f:Value -> Value) (cs vs:List Value) (o:Nat):(wrs cs o vs).map f = wrs (cs.map f) o (vs.map f):=by
 simp [wrs,List.map_take,List.map_drop]
theorem wrs_length {cs vs:List Value} {o:Nat} (h:o + vs.length <= cs.length):(wrs cs o vs).length = cs.length:=by
 simp [wrs]; omega
theorem mem_wrs {cs vs:List Value} {o:Nat} {v:Value} (h:v ∈ wrs cs o vs):v ∈ cs \/ v ∈ vs:=by
 simp only [wrs,List.mem_append] at h
 rcases h with (h | h) | h
 ·exact .inl (List.mem_of_mem_take h)
 ·exact .inr h
 ·exact .inl (List.mem_of_mem_drop h)
theorem fill_rel (pl:Nat -> Option (Nat × Nat)):∀ (ps:List (Nat × Value)) (cs r:List Value),fillL pl cs ps = some r ->
  Instr.fill pl (cs.map ρ.val).toArray (ps.map fun x=>(x.1,ρ.val x.2)) = some (r.map ρ.val).toArray /\
   ((∀ v ∈ cs,Cl D v) -> (∀ p ∈ ps,Cl D p.2) -> ∀ v ∈ r,Cl D v)
 | [],cs,r,h=>by simp only [fillL,oIq] at h; subst h; exact ⟨rfl,fun h _=>h⟩
 | (i,v) :: rest,cs,r,h=>by
  simp only [fillL] at h
  cases hp:pl i with
  | none=>simp [hp] at h
  | some x =>
   obtain ⟨off,size⟩:=x;simp only [hp] at h
   split at h
   ·rename_i hc
    obtain ⟨hc1,hc2⟩:=hc;obtain ⟨h1,h2⟩:=fill_rel pl rest _ _ h
    have hl:v.cells.size = size:=by simpa using hc1
    refine ⟨?_,fun hcs hps=>h2 (fun u hu=>?_) fun p hp'=>hps p (by simp [hp'])⟩
    ·simp only [List.map_cons,Instr.fill,hp,Rho.val_cells,Array.size_map,hl,List.size_toArray,List.length_map];rw [if_neg (by simp; omega)];rw [<- h1]
     congr 1
     apply Array.ext';have hf:=fold_set (cs.map ρ.val).toArray off (v.cells.toList.map ρ.val) 0 (cs.map ρ.val).toArray (by simp [hl]; omega)
     have e1:((Array.map ρ.val v.cells).zipIdx.foldl (fun cs (x:Value × Nat)=>cs.setIfInBounds (off + x.2) x.1) (cs.map ρ.val).toArray).toList =
       (((v.cells.toList.map ρ.val).zipIdx 0).foldl (fun cs (p:Value × Nat)=>cs.setIfInBounds (off + p.2) p.1) (cs.map ρ.val).toArray).toList:=by
      rw [<- Array.foldl_toList,Array.toList_zipIdx,Array.toList_map]
     refine e1.trans (hf.trans ?_);simp [wrs,List.map_take,List.map_drop]
    ·rcases mem_wrs hu with hu | hu
     ·exact hcs u hu
     ·have:=hps (i,v) (by simp)
      intro b hb;exact this b (by rw [<- addrs_cells]; exact List.mem_flatMap.2 ⟨u,hu,hb⟩)
   ·simp at h
theorem run_places:∀ (fs:List Field) (pl:List (Nat × Nat)) (w:World),placesO P fs = some pl ->
  (fs.mapM (fun f=>do pure (f.offset,<- sizeOf f.type)):Sem (List (Nat × Nat))).run P w = .ok pl w
 | [],pl,w,h=>by simp only [placesO,oIq] at h; subst h; simp
 | f :: r,pl,w,h=>by
  simp only [placesO,oBe,oMe] at h;obtain ⟨n,hn,pl',hp,rfl⟩:=h;simp only [List.mapM_cons,Sem.run_bind,run_sizeOf' hn,Result.andThen_ok,Sem.run_pure,run_places r pl' w hp]
theorem op_build {t:TypeId} {ps:List (Nat × Value)} {z cs:List Value} {parts:Array (Nat × Value)} (h:HOk P ρ D H w ro N W0)
  (hp:parts.toList = ps.map fun x=>(x.1,ρ.val x.2)) (hps:∀ p ∈ ps,Cl D p.2) (hz:zc P t = some z)
  (hc:(match P.underlying t with
   | some (.struct fs)=>(placesO P fs.toList).bind fun pl=>(fillL (fun (i:Nat)=>pl[i]?) z ps)
   | some (.array _ e)=>(szO P e).bind fun n=>(fillL (fun i=>some (i * n,n)) z ps)
   | _=>none) = some cs) :
  OpRes P ρ D H w ro N W0 (do pure (.value (<- Instr.build t parts)):Sem Next) (.val (.agg cs.toArray)) H:=by
 obtain ⟨z0,hz0,hz1,hz2,hz3⟩:=run_zero' hz w
 have hzv:z.map ρ.val = z:=by
  conv=>rhs; rw [<- List.map_id z]
  exact List.map_congr_left fun v hv=>Rho.val_flat (hz3 v hv).2
 have hz4:(z.map ρ.val).toArray = z0.cells:=by rw [hzv,<- hz1]
 cases hu:P.underlying t with
 | none=>simp [hu] at hc
 | some d =>
  rw [hu] at hc
  cases d with
  | struct fs =>
   simp only [oBe] at hc;obtain ⟨pl,hpl,hf⟩:=hc;obtain ⟨h1,h2⟩:=fill_rel (ρ:=ρ) (D:=D) _ ps z cs hf;refine .same h ?_ ?_
   ·have hm:(fs.mapM (fun f=>do pure (f.offset,<- sizeOf f.type)):Sem (Array (Nat × Nat))).run P w = .ok pl.toArray w:=by
     rw [<- Array.toArray_toList (xs:=fs),List.mapM_toArray,Sem.run_map,run_places _ _ _ hpl]; rfl
    have hg:(fun (i:Nat)=>pl.toArray[i]?) = fun (i:Nat)=>pl[i]?:=by funext i; simp
    simp only [Instr.build,Sem.run_bind,hz0,Result.andThen_ok,run_underlying hu,hm,hp];rw [hg,<- hz4,h1];simp [Rho.val,Sem.run_pure]
   ·intro b hb;simp only [addrs_agg,List.mem_flatMap] at hb;obtain ⟨v,hv,hb⟩:=hb;exact h2 (fun v hv=>.flat (hz3 v hv).2) hps v hv b hb
  | array n e =>
   simp only [oBe] at hc;obtain ⟨k,hk,hf⟩:=hc;obtain ⟨h1,h2⟩:=fill_rel (ρ:=ρ) (D:=D) _ ps z cs hf;refine .same h ?_ ?_
   ·simp only [Instr.build,Sem.run_bind,hz0,Result.andThen_ok,run_underlying hu,run_sizeOf' hk,hp];rw [<- hz4,h1];simp [Rho.val,Sem.run_pure]
   ·intro b hb;simp only [addrs_agg,List.mem_flatMap] at hb;obtain ⟨v,hv,hb⟩:=hb;exact h2 (fun v hv=>.flat (hz3 v hv).2) hps v hv b hb
  | _=>simp at hc
theorem map_toArray' (f:Value -> Value) (cs:Array Value):cs.map f = (cs.toList.map f).toArray:=by
 apply Array.ext'; simp
theorem map_val_flat {z:List Value} (h:∀ v ∈ z,oneB v = true /\ flat v = true):z.map ρ.val = z:=by
 conv=>rhs; rw [<- List.map_id z]
 exact List.map_congr_left fun v hv=>Rho.val_flat (h v hv).2
theorem val_new {ρ:Rho} {n B C:Nat}:(ρ.set n B C).val (.pointer (some ⟨n,0,none⟩)) = .pointer (some ⟨B,0,none⟩):=by simp [Rho.val,Rho.set]
theorem val_newRow {ρ:Rho} {n B C m:Nat}:(ρ.set n B C).val (.slice (some ⟨n,0,none⟩) m 0) = .slice (some ⟨B,0,none⟩) m C:=by simp [Rho.val,Rho.set]
theorem cl_new {n m:Nat} (h:n < m):Cl (Dn D n m) (.pointer (some ⟨n,0,none⟩)):=fun b hb=>by simp at hb; subst hb; exact .inr ⟨Nat.le_refl _,h⟩
theorem cl_newRow {n m k q:Nat} (h:n < m):Cl (Dn D n m) (.slice (some ⟨n,0,none⟩) k q):=fun b hb=>by simp at hb; subst hb; exact .inr ⟨Nat.le_refl _,h⟩
theorem op_alloc {t:TypeId} {cs:List Value} (h:HOk P ρ D H w ro N W0) (hz:zc P t = some cs) :
  OpRes P ρ D H w ro N W0 (do pure (.value (<- Instr.alloc t true (.tuple #[]))):Sem Next) (.val (.pointer (some ⟨H.length,0,none⟩))) (H ++ [.cells cs t]):=by
 obtain ⟨z0,hz0,hz1,hz2,hz3⟩:=run_zero' hz w
 obtain ⟨h1,h2⟩:=h.allocCells (w':=w.alloc (.cells z0.cells t)) cs [] t cs.length 1 (0,0) alloc_old
  (by rw [alloc_new,map_val_flat hz3,List.append_nil,<- hz1]) (by simp) (.inl (Nat.le_refl _)) hz2 (by simp) (fun v hv=>⟨.flat (hz3 v hv).2,(hz3 v hv).1⟩)
 refine ⟨_,_,?_,h1,h2,cl_new (by simp)⟩;rw [val_new];simp [Instr.alloc,hz0,newVar,newRow]
theorem op_box {t:TypeId} {v:Value} (h:HOk P ρ D H w ro N W0) (hs:szO P t = some v.cells.toList.length) (h1:v.cells.toList.all oneB = true) (hc:Cl D v) :
  OpRes P ρ D H w ro N W0 (do pure (.value (<- Instr.box t (ρ.val v))):Sem Next) (.val (.pointer (some ⟨H.length,0,none⟩))) (H ++ [.cells v.cells.toList t]):=by
 obtain ⟨h1,h2⟩:=h.allocCells (w':=w.alloc (.cells (ρ.val v).cells t)) v.cells.toList [] t v.cells.toList.length 1 (0,0) alloc_old
  (by rw [alloc_new,List.append_nil,Rho.val_cells,map_toArray']) (by simp) (.inl (Nat.le_refl _)) hs (by simp)
  (fun u hu=>⟨fun b hb=>hc b (by rw [<- addrs_cells]; exact List.mem_flatMap.2 ⟨u,hu,hb⟩),by simpa using List.all_eq_true.1 h1 u hu⟩)
 refine ⟨_,_,?_,h1,h2,cl_new (by simp)⟩;rw [val_new];simp [Instr.box,newVar,newRow]
theorem range_mod_map (z:List Value) (d:Value) (n:Nat):(List.range (n * z.length)).map (fun i=>z.getD (i % z.length) d) = (List.replicate n z).flatten:=by
 induction n with
 | zero=>simp
 | succ n ih =>
  rw [Nat.succ_mul,Nat.add_comm,List.range_add,List.map_append,List.replicate_succ,List.flatten_cons]
  congr 1
  ·apply List.ext_getElem?;intro i
   by_cases hi:i < z.length
   ·simp [hi,Nat.mod_eq_of_lt hi]
   ·simp [hi]
  ·rw [<- ih,List.map_map];apply List.map_congr_left;intro i _
   simp
theorem zero_rows (z:List Value) (n:Nat):((Array.range (n * z.length)).map (fun i=>(z.toArray)[i % z.toArray.size]!)).toList = (List.replicate n z).flatten:=by
 rw [<- range_mod_map z default n];simp [Array.toList_map,Array.toList_range]
theorem op_buildSlice {t el:TypeId} {n:Nat} {ps:List (Nat × Value)} {z cs:List Value} {parts:Array (Nat × Value)} (h:HOk P ρ D H w ro N W0)
  (hp:parts.toList = ps.map fun x=>(x.1,ρ.val x.2)) (hps:∀ p ∈ ps,Cl D p.2) (hu:P.underlying t = some (.slice el)) (hz:zc P el = some z)
  (hn:n * z.length <= 2 ^ 24) (hc:fillL (fun i=>some (i * z.length,z.length)) (List.replicate n z).flatten ps = some cs) (h1:cs.all oneB = true) (hl:cs.length = n * z.length) :
  OpRes P ρ D H w ro N W0 (do pure (.value (<- Instr.buildSlice t n parts)):Sem Next) (.val (.slice (some ⟨H.length,0,none⟩) n 0)) (H ++ [.cells cs el]):=by
 obtain ⟨z0,hz0,hz1,hz2,hz3⟩:=run_zero' hz w
 have hrep:((List.replicate n z).flatten).map ρ.val = (List.replicate n z).flatten:=map_val_flat fun v hv=>by
  obtain ⟨l,hl,hv⟩:=List.mem_flatten.1 hv;rw [List.eq_of_mem_replicate hl] at hv;exact hz3 v hv
 obtain ⟨f1,f2⟩:=fill_rel (ρ:=ρ) (D:=D) _ ps _ cs hc
 have hcl:∀ v ∈ cs,Cl D v:=f2 (fun v hv=>by
  obtain ⟨l,hl,hv⟩:=List.mem_flatten.1 hv;rw [List.eq_of_mem_replicate hl] at hv
  exact .flat (hz3 v hv).2) hps
 obtain ⟨a1,a2⟩:=h.allocCells (w':=w.alloc (.cells (cs.map ρ.val).toArray el)) cs [] el z.length n (0,0) alloc_old
  (by rw [alloc_new,List.append_nil]) (by simp) (.inl (Nat.le_refl _)) hz2 (by simpa using hl)
  (fun u hu=>⟨hcl u hu,by simpa using List.all_eq_true.1 h1 u hu⟩)
 refine ⟨_,_,?_,a1,a2,cl_newRow (by simp)⟩;rw [val_newRow]
 have hza:z0.cells = z.toArray:=by rw [<- hz1]
 have harr:(Array.range (n * z.length)).map (fun i=>z.toArray[i % z.toArray.size]!) = ((List.replicate n z).flatten.map ρ.val).toArray:=by
  apply Array.ext'; rw [zero_rows,hrep]
 have hbig:¬ n * z.length > 2 ^ 24:=by omega
 by_cases h0:n * z.length = 0
 ·have e1:(List.replicate n z).flatten = []:=by
   rw [<- List.length_eq_zero_iff]; simpa [List.length_flatten] using h0
  rw [e1] at f1;simp only [List.map_nil] at f1
  have e2:(Array.map (fun i=>(#[]:Array Value)[i % (#[]:Array Value).size]!) (Array.range 0)) = #[]:=by simp
  simp only [Instr.buildSlice,Sem.run_bind,run_underlying hu,Result.andThen_ok,run_sizeOf' hz2,hbig,if_false,h0,if_true,hp,Sem.run_pure,e2,f1,gt_iff_lt,
   show ¬ (2 ^ 24 < 0) by omega]
  simp [newRow,f1]
 ·simp only [Instr.buildSlice,Sem.run_bind,run_underlying hu,Result.andThen_ok,run_sizeOf' hz2,hbig,if_false,h0,hp,hz0,hza,Sem.run_pure,harr,f1];simp [newRow]
theorem map_take_drop (f:Value -> Value) (cs:List Value) (o n:Nat):((cs.drop o).take n).map f = ((cs.map f).drop o).take n:=by simp [List.map_take,List.map_drop]
theorem cl_of_agg {cs:List Value} (h:∀ v ∈ cs,Cl D v):Cl D (.agg cs.toArray):=fun b hb=>by
 simp only [addrs_agg,List.mem_flatMap] at hb;obtain ⟨v,hv,hb⟩:=hb;exact h v (by simpa using hv) b hb
theorem run_ldVar {t:TypeId} {a:Addr} {v:Value} (h:HOk P ρ D H w ro N W0) (hb:D a.block) (hv:ldVar P H t a = some v) :
  (loadVar t ⟨ρ.blk a.block,a.off + ρ.off a.block,a.spot⟩).run P w = .ok (ρ.val v) w /\ Cl D v /\ a.spot = none:=by
 unfold ldVar at hv
 split at hv
 ·simp at hv
 ·rename_i hsp
  have hsp':a.spot = none:=by cases hs:a.spot <;> simp_all
  cases hk:H[a.block]? with
  | none=>simp [hk] at hv
  | some k =>
   cases k with
   | iter s p=>simp [hk] at hv
   | dead=>simp [hk] at hv
   | view cs el =>
    simp only [hk] at hv;obtain ⟨_,h2⟩:=h.at_ hb hk;rw [hsp']
    cases hagg:aggO P t with
    | none=>simp [hagg] at hv
    | some b =>
     cases b with
     | true =>
      cases hsz:szO P t with
      | none=>simp [hagg,hsz] at hv
      | some n =>
       simp only [hagg,hsz] at hv
       split at hv
       ·rename_i hle
        simp only [oIq] at hv; subst hv
        have hin:∀ j v,((cs.drop a.off).take n)[j]? = some v -> cs[a.off + j]? = some v:=fun j v hv=>by
         rw [List.getElem?_take] at hv
         split at hv
         ·rwa [List.getElem?_drop] at hv
         ·cases hv
        have hfl:∀ v ∈ (cs.drop a.off).take n,flat v = true:=fun v hv=>by
         obtain ⟨j,hj⟩:=List.mem_iff_getElem?.1 hv;exact (h2 _ _ (hin j v hj)).2.1
        have hl:((cs.drop a.off).take n).length = n:=by simp; omega
        have hrun:=run_loadCells_list (P:=P) w ⟨ρ.blk a.block,a.off + ρ.off a.block,none⟩ ((cs.drop a.off).take n) (fun j v hv=>by
         rw [add_none,show a.off + ρ.off a.block + j = a.off + j + ρ.off a.block by omega]
         exact (h2 _ _ (hin j v hv)).1)
        rw [hl] at hrun;refine ⟨?_,cl_of_agg fun v hv=>.flat (hfl v hv),rfl⟩;simp only [loadVar,Sem.run_bind,run_isAgg' hagg,Result.andThen_ok,if_true,run_sizeOf' hsz,hrun,Sem.run_pure];simp only [Rho.val,vmap_agg,List.map_toArray,Result.ok.injEq,Value.agg.injEq,and_true]
        congr 1
        conv=>lhs; rw [<- List.map_id ((cs.drop a.off).take n)]
        exact List.map_congr_left fun v hv=>(Rho.val_flat (ρ:=ρ) (hfl v hv)).symm
       ·simp at hv
     | false =>
      simp only [hagg] at hv;obtain ⟨hc,hf,_⟩:=h2 _ _ hv;refine ⟨?_,.flat hf,rfl⟩;simp only [loadVar,Sem.run_bind,run_isAgg' hagg,Result.andThen_ok,Rho.val_flat hf];simp [hc]
   | tab cs =>
    simp only [hk] at hv;obtain ⟨⟨_,h0⟩,h2⟩:=h.at_ hb hk;rw [hsp',h0,Nat.add_zero]
    split at hv
    ·rename_i hagg
     obtain ⟨hc,hf⟩:=h2 _ _ hv;refine ⟨?_,.flat hf,rfl⟩;simp only [loadVar,Sem.run_bind,run_isAgg' hagg,Result.andThen_ok,Rho.val_flat hf];simp [hc]
    ·cases hv
   | cells cs el =>
    simp only [hk] at hv;obtain ⟨⟨rest,fr,z,h1,h2,h3,h4,h0⟩,h5⟩:=h.at_ hb hk;rw [hsp',h0,Nat.add_zero]
    cases hagg:aggO P t with
    | none=>simp [hagg] at hv
    | some b =>
     cases b with
     | true =>
      cases hsz:szO P t with
      | none=>simp [hagg,hsz] at hv
      | some n =>
       simp only [hagg,hsz] at hv
       split at hv
       ·rename_i hle
        simp only [oIq] at hv; subst hv;refine ⟨?_,cl_of_agg fun v hv=>(h5 v (List.mem_of_mem_drop (List.mem_of_mem_take hv))).1,rfl⟩
        simp only [loadVar,Sem.run_bind,run_isAgg' hagg,Result.andThen_ok,if_true,run_sizeOf' hsz,
         run_loadCells_at w _ a.off n el fr _ h1 (by simp; omega),Sem.run_pure]
        simp only [Rho.val,vmap_agg,List.map_toArray,map_take_drop,Result.ok.injEq,Value.agg.injEq,and_true]
        congr 1
        rw [List.drop_append_of_le_length (by simp; omega),List.take_append_of_le_length (by simp; omega)]
       ·simp at hv
     | false =>
      simp only [hagg] at hv;have hlt:=(lGs.1 hv).1;refine ⟨?_,(h5 v (List.mem_of_getElem? hv)).1,rfl⟩;simp only [loadVar,Sem.run_bind,run_isAgg' hagg,Result.andThen_ok]
      have hcell:w.cell? ⟨ρ.blk a.block,a.off,none⟩ = some (ρ.val v):=by
       have hg:(cs.map ρ.val ++ rest)[a.off]? = some (ρ.val v):=by
        rw [lGl (by simpa using hlt),List.getElem?_map,hv]; rfl
       simp only [World.cell?,h1]
       simpa using hg
      simp [hcell]
theorem op_load {t:TypeId} {a:Addr} {v:Value} (h:HOk P ρ D H w ro N W0) (hb:D a.block) (hv:ldVar P H t a = some v) :
  OpRes P ρ D H w ro N W0 (do pure (.value (<- Instr.loadAt t (ρ.val (.pointer (some a))))):Sem Next) (.val v) H:=by
 obtain ⟨h1,h2,h3⟩:=run_ldVar h hb hv;refine .same h ?_ h2;simp only [Rho.val,vmap_pointer,Instr.loadAt,Instr.sureAddr,Sem.run_bind,Sem.run_pure,Result.andThen_ok,h1]
theorem run_part {t:TypeId} {cs:List Value} {off:Nat} {v:Value} (hv:partA P t cs off = some v) (hc:∀ v ∈ cs,Cl D v) (w:World) :
  (part t (cs.map ρ.val).toArray off).run P w = .ok (ρ.val v) w /\ Cl D v:=by
 unfold partA at hv
 cases hagg:aggO P t with
 | none=>simp [hagg] at hv
 | some b =>
  cases b with
  | true =>
   cases hsz:szO P t with
   | none=>simp [hagg,hsz] at hv
   | some n =>
    simp only [hagg,hsz,oIq] at hv; subst hv;refine ⟨?_,cl_of_agg fun v hv=>hc v (List.mem_of_mem_drop (List.mem_of_mem_take hv))⟩;simp only [part,Sem.run_bind,run_isAgg' hagg,Result.andThen_ok,if_true,run_sizeOf' hsz,Sem.run_pure];simp only [Rho.val,vmap_agg,List.map_toArray,map_take_drop,Result.ok.injEq,Value.agg.injEq,and_true];apply Array.ext';simp [List.extract_eq_take_drop]
  | false =>
   simp only [hagg] at hv;refine ⟨?_,hc v (List.mem_of_getElem? hv)⟩;simp only [part,Sem.run_bind,run_isAgg' hagg,Result.andThen_ok];simp [hv]
theorem cl_agg {cs:Array Value} (h:Cl D (.agg cs)):∀ v ∈ cs.toList,Cl D v:=fun v hv b hb=>h b (by
 simp only [addrs_agg,List.mem_flatMap]; exact ⟨v,hv,hb⟩)
theorem cl_tuple {cs:Array Value} (h:Cl D (.tuple cs)):∀ v ∈ cs.toList,Cl D v:=fun v hv b hb=>h b (by
 simp only [addrs_tuple,List.mem_flatMap]; exact ⟨v,hv,hb⟩)
theorem op_field {t:TypeId} {fs:Array Field} {cs:Array Value} {i:Nat} {f:Field} {v:Value} (h:HOk P ρ D H w ro N W0) (hu:P.underlying t = some (.struct fs))
  (hf:fs[i]? = some f) (hv:partA P f.type cs.toList f.offset = some v) (hc:Cl D (.agg cs)) :
  OpRes P ρ D H w ro N W0 (do pure (.value (<- Instr.field t (ρ.val (.agg cs)) i)):Sem Next) (.val v) H:=by
 obtain ⟨h1,h2⟩:=run_part (ρ:=ρ) hv (cl_agg hc) w;refine .same h ?_ h2;simp only [Instr.field,Sem.run_bind,run_underlying hu,Result.andThen_ok,hf,Rho.val,vmap_agg,asAgg,Sem.run_pure];rw [map_toArray'];change Result.andThen ((part f.type (cs.toList.map ρ.val).toArray f.offset).run P w) _ = _;rw [h1]; rfl
theorem op_index {t el:TypeId} {n z:Nat} {cs:Array Value} {k:IntKind} {i:Int} {v:Value} (h:HOk P ρ D H w ro N W0) (hu:P.underlying t = some (.array n el))
  (h0:0 <= i) (hn:i < n) (hz:szO P el = some z) (hv:partA P el cs.toList (i.toNat * z) = some v) (hc:Cl D (.agg cs)) :
  OpRes P ρ D H w ro N W0 (do pure (.value (<- Instr.index t (ρ.val (.agg cs)) (.int k i))):Sem Next) (.val v) H:=by
 obtain ⟨h1,h2⟩:=run_part (ρ:=ρ) hv (cl_agg hc) w;refine .same h ?_ h2;simp only [Instr.index,Sem.run_bind,run_underlying hu,Result.andThen_ok,asIntOf,Rho.val,vmap_agg,Sem.run_pure,h0,hn,and_self,if_true,run_sizeOf' hz];rw [map_toArray'];change Result.andThen ((part el (cs.toList.map ρ.val).toArray (i.toNat * z)).run P w) _ = _;rw [h1]; rfl
theorem op_indexStr {t:TypeId} {s:ByteArray} {k:IntKind} {i:Int} {b:UInt8} (h:HOk P ρ D H w ro N W0) (hu:P.underlying t = some .string)
  (h0:0 <= i) (hb:s.data.toList[i.toNat]? = some b) :
  OpRes P ρ D H w ro N W0 (do pure (.value (<- Instr.index t (.string s) (.int k i))):Sem Next) (.val (.int .u8 b.toNat)) H:=by
 have hs:s[i.toNat]? = some b:=by
  have hlt:i.toNat < s.size:=by have:=(lGs.1 hb).1; simpa using this
  rw [getElem?_pos s i.toNat hlt]
  have:=(lGs.1 hb).2
  exact congrArg some this
 refine .same h ?_ (.flat (by simp [flat_eq]));simp only [Instr.index,Sem.run_bind,run_underlying hu,Result.andThen_ok,asIntOf,Sem.run_pure,h0,if_true,hs];simp [Rho.val]
theorem op_nilCheckP {a:Addr} (h:HOk P ρ D H w ro N W0) (hc:D a.block) {x:Operand} {dst:Option Tmp} {ty:TypeId} {pos:String} {after:Array Edge} {gd:Option (Nat × Bool)}
  (he:e x = ρ.val (.pointer (some a))):OpRes P ρ D H w ro N W0 (execOp e ⟨dst,.nilCheck x,ty,pos,after,gd⟩) (.val (.pointer (some a))) H:=by
 refine .same h ?_ (fun b hb=>by simp at hb; subst hb; exact hc);simp only [execOp,he,Rho.val,vmap_pointer,Sem.run_pure]
theorem op_nilCheckF {g:FuncId} {f c:Array Value} (h:HOk P ρ D H w ro N W0) (hc:Cl D (.func (.func g) f c)) {x:Operand} {dst:Option Tmp} {ty:TypeId} {pos:String} {after:Array Edge} {gd:Option (Nat × Bool)}
  (he:e x = ρ.val (.func (.func g) f c)):OpRes P ρ D H w ro N W0 (execOp e ⟨dst,.nilCheck x,ty,pos,after,gd⟩) (.val (.func (.func g) f c)) H:=by
 refine .same h ?_ hc;simp only [execOp,he,Rho.val,vmap_func,fnMap,Sem.run_pure]
theorem run_equal_pn {t el:TypeId} (hu:P.underlying t = some (.pointer el)) (b:Option Addr):(Op.equal t (.pointer none) (.pointer b)).run P w = .ok b.isNone w:=by
 change (Op.equalIn (9999 + 1) t _ _).run P w = _;rw [Op.equalIn]; simp only [Sem.run_bind,run_underlying hu,Result.andThen_ok]; rfl
theorem run_equal_ps {t el:TypeId} (hu:P.underlying t = some (.pointer el)) (a:Addr):(Op.equal t (.pointer (some a)) (.pointer none)).run P w = .ok false w:=by
 change (Op.equalIn (9999 + 1) t _ _).run P w = _;rw [Op.equalIn]; simp only [Sem.run_bind,run_underlying hu,Result.andThen_ok]; rfl
theorem run_equal_sn {t el:TypeId} (hu:P.underlying t = some (.slice el)) (b:Option Addr) (n m n' m':Nat):(Op.equal t (.slice none n m) (.slice b n' m')).run P w = .ok b.isNone w:=by
 change (Op.equalIn (9999 + 1) t _ _).run P w = _;rw [Op.equalIn]; simp only [Sem.run_bind,run_underlying hu,Result.andThen_ok]; rfl
theorem run_equal_ss {t el:TypeId} (hu:P.underlying t = some (.slice el)) (a:Addr) (n m n' m':Nat):(Op.equal t (.slice (some a) n m) (.slice none n' m')).run P w = .ok false w:=by
 change (Op.equalIn (9999 + 1) t _ _).run P w = _;rw [Op.equalIn]; simp only [Sem.run_bind,run_underlying hu,Result.andThen_ok]; rfl
theorem run_eql {op:BinOp} {t:TypeId} {x y:Operand} {a b:Value} {r:Bool} (ho:op = .eql \/ op = .neq) (hg:(eqGuard op t x y a b).run P w = .ok () w)
  (h1:binOp .eql t a b = (do pure (.bool (<- Op.equal t a b)))) (h2:binOp .neq t a b = (do pure (.bool (!(<- Op.equal t a b))))) (hr:(Op.equal t a b).run P w = .ok r w) :
  (do pure (.value (<- (do eqGuard op t x y a b; binOp op t a b))):Sem Next).run P w = .ok (.value (.bool (if op = .eql then r else !r))) w:=by
 rcases ho with rfl | rfl
 ·simp only [Sem.run_bind,hg,Result.andThen_ok,h1,hr,Sem.run_pure,if_true]
 ·simp only [Sem.run_bind,hg,Result.andThen_ok,h2,hr,Sem.run_pure,reduceCtorEq,if_false]
theorem op_bin {op:BinOp} {t:TypeId} {x y:Operand} {a b v:Value} (h:HOk P ρ D H w ro N W0) (hv:binA P op t x y a b = some v) :
  OpRes P ρ D H w ro N W0 (do pure (.value (<- (do eqGuard op t x y (ρ.val a) (ρ.val b); binOp op t (ρ.val a) (ρ.val b)))):Sem Next) (.val v) H:=by
 unfold binA at hv
 split at hv
 ·rename_i hf
  simp only [Bool.and_eq_true] at hf;rw [Rho.val_flat hf.1,Rho.val_flat hf.2];exact op_pure h hv
 ·rename_i hnf
  have vp:∀ b:Option Addr,∃ b',ρ.val (.pointer b) = .pointer b' /\ b'.isNone = b.isNone:=fun b=>by cases b <;> simp [Rho.val]
  have vs:∀ (b:Option Addr) (n m:Nat),∃ b' m',ρ.val (.slice b n m) = .slice b' n m' /\ b'.isNone = b.isNone:=fun b n m=>by cases b <;> simp [Rho.val]
  have vt:∀ b,ρ.val (.bool b) = .bool b:=fun b=>by simp [Rho.val]
  split at hv
  ·rename_i b' hu; injection hv with hv; subst hv
   refine .same h ?_ (.flat (by simp [flat_eq]));obtain ⟨c,hc,hn⟩:=vp none; obtain ⟨d,hd,hm⟩:=vp b'
   obtain rfl:c = none:=by simpa using hn
   rw [hc,hd,run_eql (.inl rfl) (by cases d <;> rfl) (by cases d <;> rfl) (by cases d <;> rfl) (run_equal_pn hu _),vt]; simp [hm]
  ·rename_i a hu; injection hv with hv; subst hv
   refine .same h ?_ (.flat (by simp [flat_eq]));obtain ⟨c,hc,hn⟩:=vp none; obtain ⟨d,hd,hm⟩:=vp (some a)
   obtain rfl:c = none:=by simpa using hn
   obtain ⟨d',rfl⟩:∃ d',d = some d':=by cases d <;> simp_all
   rw [hc,hd,run_eql (.inl rfl) rfl rfl rfl (run_equal_ps hu _),vt]; simp
  ·rename_i b' hu; injection hv with hv; subst hv
   refine .same h ?_ (.flat (by simp [flat_eq]));obtain ⟨c,hc,hn⟩:=vp none; obtain ⟨d,hd,hm⟩:=vp b'
   obtain rfl:c = none:=by simpa using hn
   rw [hc,hd,run_eql (.inr rfl) (by cases d <;> rfl) (by cases d <;> rfl) (by cases d <;> rfl) (run_equal_pn hu _),vt]; simp [hm]
  ·rename_i a hu; injection hv with hv; subst hv
   refine .same h ?_ (.flat (by simp [flat_eq]));obtain ⟨c,hc,hn⟩:=vp none; obtain ⟨d,hd,hm⟩:=vp (some a)
   obtain rfl:c = none:=by simpa using hn
   obtain ⟨d',rfl⟩:∃ d',d = some d':=by cases d <;> simp_all
   rw [hc,hd,run_eql (.inr rfl) rfl rfl rfl (run_equal_ps hu _),vt]; simp
  ·rename_i n m b' n' m' hu; injection hv with hv; subst hv
   refine .same h ?_ (.flat (by simp [flat_eq]));obtain ⟨c,mm,hc,hn⟩:=vs none n m; obtain ⟨d,mm',hd,hm⟩:=vs b' n' m'
   obtain rfl:c = none:=by simpa using hn
   rw [hc,hd,run_eql (.inl rfl) (by cases d <;> rfl) (by cases d <;> rfl) (by cases d <;> rfl) (run_equal_sn hu _ _ _ _ _),vt]; simp [hm]
  ·rename_i a n m n' m' hu; injection hv with hv; subst hv
   refine .same h ?_ (.flat (by simp [flat_eq]));obtain ⟨d,mm',hd,hm⟩:=vs (some a) n m; obtain ⟨c,mm,hc,hn⟩:=vs none n' m'
   obtain rfl:c = none:=by simpa using hn
   obtain ⟨d',rfl⟩:∃ d',d = some d':=by cases d <;> simp_all
   rw [hc,hd,run_eql (.inl rfl) rfl rfl rfl (run_equal_ss hu _ _ _ _ _),vt]; simp
  ·rename_i n m b' n' m' hu; injection hv with hv; subst hv
   refine .same h ?_ (.flat (by simp [flat_eq]));obtain ⟨c,mm,hc,hn⟩:=vs none n m; obtain ⟨d,mm',hd,hm⟩:=vs b' n' m'
   obtain rfl:c = none:=by simpa using hn
   rw [hc,hd,run_eql (.inr rfl) (by cases d <;> rfl) (by cases d <;> rfl) (by cases d <;> rfl) (run_equal_sn hu _ _ _ _ _),vt]; simp [hm]
  ·rename_i a n m n' m' hu; injection hv with hv; subst hv
   refine .same h ?_ (.flat (by simp [flat_eq]));obtain ⟨d,mm',hd,hm⟩:=vs (some a) n m; obtain ⟨c,mm,hc,hn⟩:=vs none n' m'
   obtain rfl:c = none:=by simpa using hn
   obtain ⟨d',rfl⟩:∃ d',d = some d':=by cases d <;> simp_all
   rw [hc,hd,run_eql (.inr rfl) rfl rfl rfl (run_equal_ss hu _ _ _ _ _),vt]; simp
  ·cases hv
theorem op_makeInterface {t:TypeId} {v:Value} {d:TypeDesc} (h:HOk P ρ D H w ro N W0) (hu:P.underlying t = some d) (hd:∀ ms,d ≠ .interface ms) (hc:Cl D v) :
  OpRes P ρ D H w ro N W0 (do pure (.value (<- Instr.makeInterface t (ρ.val v))):Sem Next) (.val (.iface t v)) H:=by
 refine .same h ?_ (fun b hb=>hc b (by simpa using hb))
 cases d <;> first | (exact absurd rfl (hd _)) | simp [Instr.makeInterface,run_underlying hu,Rho.val]
theorem op_makeFunc {fn:Fn} {f c:List Value} (h:HOk P ρ D H w ro N W0) (hfn:fnAddrs fn = []) (hf:∀ v ∈ f,Cl D v) (hc:∀ v ∈ c,Cl D v) :
  OpRes P ρ D H w ro N W0 (do pure (.value (<- Instr.makeFunc fn (f.map ρ.val).toArray (c.map ρ.val).toArray)):Sem Next) (.val (.func fn f.toArray c.toArray)) H:=by
 refine .same h ?_ ?_
 ·have:fnMap ρ.blk fn = fn:=by cases fn <;> simp_all [fnMap,fnAddrs]
  simp [Instr.makeFunc,Rho.val,this]
 ·intro b hb;simp only [addrs_func,hfn,List.nil_append,List.mem_append,List.mem_flatMap] at hb
  rcases hb with ⟨v,hv,hb⟩ | ⟨v,hv,hb⟩
  ·exact hf v hv b hb
  ·exact hc v hv b hb
theorem op_fieldAddr {t:TypeId} {fs:Array Field} {i:Nat} {f:Field} {a:Addr} (h:HOk P ρ D H w ro N W0) (hu:P.underlying t = some (.struct fs)) (hf:fs[i]? = some f)
  (hz:(szO P f.type).getD 0 ≠ 0) (hs:a.spot = none) (hc:D a.block) :
  OpRes P ρ D H w ro N W0 (do pure (.value (<- Instr.fieldAt t (ρ.val (.pointer (some a))) i)):Sem Next) (.val (.pointer (some ⟨a.block,a.off + f.offset,none⟩))) H:=by
 refine .same h ?_ (fun b hb=>by simp at hb; subst hb; exact hc)
 obtain ⟨n,hn⟩:∃ n,szO P f.type = some n:=by cases hn:szO P f.type with | none=>simp [hn] at hz | some n=>exact ⟨n,rfl⟩
 have hn0:n ≠ 0:=by simpa [hn] using hz
 simp [Instr.fieldAt,run_underlying hu,hf,Rho.val,Instr.sureAddr,fieldPlace,run_sizeOf' hn,hn0,hs,add_none,Nat.add_right_comm]
theorem op_indexAddrA {t el:TypeId} {n z:Nat} {a:Addr} {k:IntKind} {i:Int} (h:HOk P ρ D H w ro N W0) (hu:P.underlying t = some (.array n el)) (hz:szO P el = some z)
  (h0:0 <= i) (hn:i < n) (hs:a.spot = none) (hc:D a.block) :
  OpRes P ρ D H w ro N W0 (do pure (.value (<- Instr.indexAt t (ρ.val (.pointer (some a))) (.int k i))):Sem Next) (.val (.pointer (some ⟨a.block,a.off + i.toNat * z,none⟩))) H:=by
 refine .same h ?_ (fun b hb=>by simp at hb; subst hb; exact hc);simp [Instr.indexAt,run_underlying hu,asIntOf,Rho.val,Instr.sureAddr,h0,hn,run_sizeOf' hz,hs,add_none,Nat.add_right_comm]
theorem op_indexAddrS {t el:TypeId} {n q z:Nat} {a:Addr} {k:IntKind} {i:Int} (h:HOk P ρ D H w ro N W0) (hu:P.underlying t = some (.slice el)) (hz:szO P el = some z)
  (h0:0 <= i) (hn:i < n) (hs:a.spot = none) (hc:D a.block) :
  OpRes P ρ D H w ro N W0 (do pure (.value (<- Instr.indexAt t (ρ.val (.slice (some a) n q)) (.int k i))):Sem Next) (.val (.pointer (some ⟨a.block,a.off + i.toNat * z,none⟩))) H:=by
 refine .same h ?_ (fun b hb=>by simp at hb; subst hb; exact hc);simp [Instr.indexAt,run_underlying hu,asIntOf,Rho.val,h0,hn,run_sizeOf' hz,hs,add_none,Nat.add_right_comm]
theorem op_extract {vs:Array Value} {i:Nat} {v:Value} (h:HOk P ρ D H w ro N W0) (hv:vs.toList[i]? = some v) (hc:Cl D (.tuple vs)) :
  OpRes P ρ D H w ro N W0 (do pure (.value (<- Instr.extract (ρ.val (.tuple vs)) i)):Sem Next) (.val v) H:=by
 refine .same h ?_ (cl_tuple hc v (List.mem_of_getElem? hv))
 have hi:vs[i]? = some v:=by rw [<- Array.getElem?_toList,hv]
 simp [Instr.extract,Rho.val,vmap_tuple,Array.getElem?_map,hi]
theorem op_typeAssert {xt t:TypeId} {d:TypeDesc} {x r:Value} (h:HOk P ρ D H w ro N W0) (hu:P.underlying t = some d) (hd:∀ ms,d ≠ .interface ms) (hc:Cl D x)
  (hr:(match x with
   | .iface u v=>if u = t then some (.tuple #[v,.bool true])
     else ((P.info? t).bind (·.zero)).bind fun z=>if flat z then some (.tuple #[z,.bool false]) else none
   | .nilIface=>((P.info? t).bind (·.zero)).bind fun z=>if flat z then some (.tuple #[z,.bool false]) else none
   | _=>none) = some r) :
  OpRes P ρ D H w ro N W0 (do pure (.value (<- Instr.typeAssert (ρ.val x) xt t true)):Sem Next) (.val r) H:=by
 have zero:∀ {r},(((P.info? t).bind (·.zero)).bind fun z=>if flat z then some (Value.tuple #[z,.bool false]) else none) = some r ->
   ∃ z,r = .tuple #[z,.bool false] /\ flat z = true /\ ∀ w,(zeroValue t).run P w = .ok z w:=fun hr=>by
  simp only [oBe] at hr;obtain ⟨z,⟨i,hi,hz⟩,hr⟩:=hr
  split at hr
  ·simp only [oIq] at hr;exact ⟨z,hr.symm,by assumption,fun w=>by simp [zeroValue,typeInfo,hi,hz]⟩
  ·simp at hr
 cases x with
 | iface u v =>
  simp only at hr
  split at hr
  ·rename_i hut
   simp only [oIq] at hr; subst hr;refine .same h ?_ (fun b hb=>hc b (by simpa using hb))
   cases d <;> first | (exact absurd rfl (hd _)) | simp [Instr.typeAssert,run_underlying hu,Rho.val,hut]
  ·rename_i hut
   obtain ⟨z,rfl,hz,hrun⟩:=zero hr;refine .same h ?_ (.flat (by simpa [flat_eq] using hz));have hzv:=Rho.val_flat (ρ:=ρ) hz
   cases d <;> first | (exact absurd rfl (hd _)) | (simp [Instr.typeAssert,run_underlying hu,Rho.val,hut,hrun]; simpa [Rho.val] using hzv.symm)
 | nilIface =>
  obtain ⟨z,rfl,hz,hrun⟩:=zero hr;refine .same h ?_ (.flat (by simpa [flat_eq] using hz));have hzv:=Rho.val_flat (ρ:=ρ) hz
  cases d <;> first | (exact absurd rfl (hd _)) | (simp [Instr.typeAssert,run_underlying hu,Rho.val,hrun]; simpa [Rho.val] using hzv.symm)
 | _=>simp at hr
theorem op_range {t:TypeId} {s:ByteArray} (h:HOk P ρ D H w ro N W0) (hu:P.underlying t = some .string) :
  OpRes P ρ D H w ro N W0 (do pure (.value (<- Instr.range t (.string s))):Sem Next) (.val (.pointer (some ⟨H.length,0,none⟩))) (H ++ [.iter s 0]):=by
 obtain ⟨h1,h2⟩:=h.grow (w':=w.alloc (.stringIter s 0)) (.iter s 0) _ 0 alloc_old alloc_new (by simp)
  (fun ρ' hB _ h0 _=>by simp only [BlkOk]; rw [hB,alloc_new]; exact ⟨rfl,h0⟩)
 refine ⟨_,_,?_,h1,h2,cl_new (by simp)⟩;rw [val_new];simp [Instr.range,run_underlying hu]
theorem run_getIter {b pos:Nat} {s:ByteArray} (hi:w.heap[b]? = some (.stringIter s pos)):(getObj b).run P w = .ok (.stringIter s pos) w:=by
 simp [getObj,Sem.run,hi]
theorem run_setIter {b pos:Nat} {s:ByteArray} {o:Obj} (hi:w.heap[b]? = some (.stringIter s pos)) :
  (setObj b o).run P w = .ok () { w with heap:=w.heap.setIfInBounds b o }:=by
 simp [setObj,Sem.run,hi]
theorem op_next {b:Nat} {sp:Option Nat} {s:ByteArray} {pos:Nat} {ty:TypeId} (h:HOk P ρ D H w ro N W0) (hb:D b) (hr:ro <= b) (hk:H[b]? = some (.iter s pos)) (hp:pos < s.size) :
  OpRes P ρ D H w ro N W0 (do pure (.value (<- Instr.next (ρ.val (.pointer (some ⟨b,0,sp⟩))) true ty)):Sem Next)
   (.val (.tuple #[.bool true,goInt pos,.int .i32 (Utf8.decode s pos).1])) (H.set b (.iter s (pos + (Utf8.decode s pos).2))):=by
 obtain ⟨hi,h0⟩:w.heap[ρ.blk b]? = some (.stringIter s pos) /\ ρ.off b = 0:=h.at_ hb hk;have hlt:=(Array.getElem?_eq_some_iff.1 hi).1
 have h1:=h.set (w':={ w with heap:=w.heap.setIfInBounds (ρ.blk b) (.stringIter s (pos + (Utf8.decode s pos).2)) }) (x:=.iter s (pos + (Utf8.decode s pos).2)) hb hr hk rfl (by simp)
  (fun B hB=>by simp [Array.getElem?_setIfInBounds,Ne.symm hB]) (by simp only [BlkOk]; simp [Array.getElem?_setIfInBounds,hlt,h0])
 refine ⟨ρ,_,?_,by rw [List.length_set,Dn_eq]; exact h1,.refl _ _,.flat (by simp [flat_eq,goInt])⟩;have hv:ρ.val (.tuple #[.bool true,goInt pos,.int .i32 (Utf8.decode s pos).1]) = .tuple #[.bool true,goInt pos,.int .i32 (Utf8.decode s pos).1]:=Rho.val_flat (by simp [flat_eq,goInt]);rw [hv];simp only [Instr.next,Rho.val,vmap_pointer,h0,Nat.add_zero,Sem.run_bind,run_getIter hi,Result.andThen_ok,hp,if_true,run_setIter hi,Sem.run_pure]
theorem op_nextEnd {b:Nat} {sp:Option Nat} {s:ByteArray} {pos:Nat} {ty:TypeId} (h:HOk P ρ D H w ro N W0) (hb:D b) (hk:H[b]? = some (.iter s pos)) (hp:¬ pos < s.size) :
  OpRes P ρ D H w ro N W0 (do pure (.value (<- Instr.next (ρ.val (.pointer (some ⟨b,0,sp⟩))) true ty)):Sem Next) (.val (.tuple #[.bool false])) H:=by
 obtain ⟨hi,h0⟩:w.heap[ρ.blk b]? = some (.stringIter s pos) /\ ρ.off b = 0:=h.at_ hb hk;refine .same h ?_ (.flat (by simp [flat_eq]));have hv:ρ.val (.tuple #[.bool false]) = .tuple #[.bool false]:=Rho.val_flat (by simp [flat_eq]);rw [hv];simp only [Instr.next,Rho.val,vmap_pointer,h0,Nat.add_zero,Sem.run_bind,run_getIter hi,Result.andThen_ok,hp,if_false,Sem.run_pure]
end
end Go.AM
