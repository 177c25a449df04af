import Derived.Test.YtaadjlpfdajggaaGreatDoorFjAm3
import Derived.IntWalk
set_option linter.unusedVariables false
set_option linter.unusedSimpArgs false
namespace Go.AM
open Go
section
variable {P:Program} {ρ:Rho} {D:Nat -> Prop} {H:Hp} {w:World} {ro:Nat} {N:Nat -> Prop} {W0:Old} {σ:Env} {e:Operand -> Value}
theorem byteCells_map {s:ByteArray} (ρ:Rho):(byteCells s).map ρ.val = byteCells s:=by
 simp only [byteCells,List.map_map];apply List.map_congr_left;intro b _;simp [Rho.val]
theorem op_toBytes {src dst el:TypeId} {s:ByteArray} (h:HOk P ρ D H w ro N W0) (hs:P.underlying src = some .string) (hd:P.underlying dst = some (.slice el))
  (he:P.underlying el = some (.int .u8)) (hz:szO P el = some 1) :
  OpRes P ρ D H w ro N W0 (do pure (.value (<- convert src dst (.string s))):Sem Next) (.val (.slice (some ⟨H.length,0,none⟩) s.size 0)) (H ++ [.cells (byteCells s) el]):=by
 have hg:s.size <= grownCap w s.size 0 el:=by unfold grownCap; simp only [Question.cut]; omega
 have hsz:(Lib.bytesCells w el s).size = grownCap w s.size 0 el:=by
  simp [Lib.bytesCells]; omega
 have hbl:(byteCells s).length = s.size:=by simp [byteCells]
 obtain ⟨h1,h2⟩:=h.allocCells (w':=Lib.bytesWorld w el s) (byteCells s) (List.replicate (grownCap w s.size 0 el - s.size) (.int .u8 0)) el 1 (grownCap w s.size 0 el) _
  (fun B hB=>Lib.bytesWorld_at_old w el s B hB)
  (by rw [Lib.bytesWorld_at_new,byteCells_map]; congr 2; apply Array.ext'; simp [Lib.bytesCells,byteCells])
  (by rw [Lib.bytesWorld_size]; omega) (.inr (by rw [hsz]; simp [hbl]; omega)) hz (by simp [hbl]; omega)
  (fun v hv=>by
   simp only [byteCells,List.mem_map] at hv;obtain ⟨b,_,rfl⟩:=hv
   exact ⟨.flat (by simp [flat_eq]),rfl⟩)
 refine ⟨_,_,?_,h1,h2,cl_newRow (by simp)⟩;rw [val_newRow];simp [Lib.run_convert_string_bytes w src dst el s hs hd he]
theorem asBytes_cells:∀ {cs:List Value} {l:List UInt8},asBytes cs = some l -> ∃ ns:List Int,cs = ns.map (Value.int .u8) /\ l = ns.map fun n=>UInt8.ofNat n.toNat
 | [],l,h=>by simp [asBytes] at h; subst h; exact ⟨[],rfl,rfl⟩
 | v :: r,l,h=>by
  cases v with
  | int k n =>
   cases k <;> simp only [asBytes,reduceCtorEq,oMe] at h
   obtain ⟨l',hl',rfl⟩:=h;obtain ⟨ns,rfl,rfl⟩:=asBytes_cells hl';exact ⟨n :: ns,rfl,rfl⟩
  | _=>simp [asBytes] at h
theorem foldl_push (ns:List Int):∀ s:ByteArray,ns.foldl (fun r n=>r.push (UInt8.ofNat n.toNat)) s = ⟨s.data ++ (ns.map fun n=>UInt8.ofNat n.toNat).toArray⟩:=by
 induction ns with
 | nil=>intro s; simp
 | cons n ns ih =>
  intro s;rw [List.foldl_cons,ih];simp [ByteArray.push]
theorem rdN_run {b o n:Nat} {cs:List Value} (h:HOk P ρ D H w ro N W0) (hb:D b) (hr:rdN H b o n = some cs) :
  (loadCells ⟨ρ.blk b,o + ρ.off b,none⟩ n).run P w = .ok (cs.map ρ.val).toArray w /\ cs.length = n /\ ∀ v ∈ cs,Cl D v /\ oneB v = true:=by
 unfold rdN at hr
 cases hk:H[b]? with
 | none=>simp [hk] at hr
 | some k =>
  cases k with
  | iter s p=>simp [hk] at hr
  | dead=>simp [hk] at hr
  | tab cs=>simp [hk] at hr
  | view cs' el =>
   simp only [hk] at hr
   split at hr
   ·rename_i hle
    simp only [oIq] at hr; subst hr;obtain ⟨_,h2⟩:=h.at_ hb hk
    have hin:∀ j v,((cs'.drop o).take n)[j]? = some v -> cs'[o + j]? = some v:=fun j v hv=>by
     rw [List.getElem?_take] at hv
     split at hv
     ·rwa [List.getElem?_drop] at hv
     ·cases hv
    have hfl:∀ v ∈ (cs'.drop o).take n,flat v = true /\ oneB v = true:=fun v hv=>by
     obtain ⟨j,hj⟩:=List.mem_iff_getElem?.1 hv;exact (h2 _ _ (hin j v hj)).2
    have hl:((cs'.drop o).take n).length = n:=by simp; omega
    have hrun:=run_loadCells_list (P:=P) w ⟨ρ.blk b,o + ρ.off b,none⟩ ((cs'.drop o).take n) (fun j v hv=>by
     rw [add_none,show o + ρ.off b + j = o + j + ρ.off b by omega]
     exact (h2 _ _ (hin j v hv)).1)
    rw [hl] at hrun;refine ⟨?_,hl,fun v hv=>⟨.flat (hfl v hv).1,(hfl v hv).2⟩⟩;rw [hrun]
    congr 2
    conv=>lhs; rw [<- List.map_id ((cs'.drop o).take n)]
    exact List.map_congr_left fun v hv=>(Rho.val_flat (ρ:=ρ) (hfl v hv).1).symm
   ·simp at hr
  | cells cs' el =>
   simp only [hk] at hr
   split at hr
   ·rename_i hle
    simp only [oIq] at hr; subst hr;obtain ⟨⟨rest,fr,z,h1,h2,h3,h4,h0⟩,h5⟩:=h.at_ hb hk;rw [h0,Nat.add_zero];refine ⟨?_,by simp; omega,fun v hv=>h5 v (List.mem_of_mem_drop (List.mem_of_mem_take hv))⟩;rw [run_loadCells_at w _ o n el fr _ h1 (by simp; omega)]
    congr 2
    rw [map_take_drop,List.drop_append_of_le_length (by simp; omega),List.take_append_of_le_length (by simp; omega)]
   ·simp at hr
theorem op_toString {src dst el:TypeId} {a:Addr} {n q:Nat} {l:List UInt8} (h:HOk P ρ D H w ro N W0) (hs:P.underlying src = some (.slice el)) (hd:P.underlying dst = some .string)
  (he:P.underlying el = some (.int .u8)) (hsp:a.spot = none) (hc:D a.block) (hr:(rdN H a.block a.off n).bind asBytes = some l) :
  OpRes P ρ D H w ro N W0 (do pure (.value (<- convert src dst (ρ.val (.slice (some a) n q)))):Sem Next) (.val (.string ⟨l.toArray⟩)) H:=by
 simp only [oBe] at hr;obtain ⟨cs,hcs,hl⟩:=hr;obtain ⟨ns,rfl,rfl⟩:=asBytes_cells hl;obtain ⟨h1,h2,h3⟩:=rdN_run h hc hcs
 have hm:(ns.map (Value.int .u8)).map ρ.val = ns.map (Value.int .u8):=by
  rw [List.map_map]; apply List.map_congr_left; intro n _; simp [Rho.val]
 rw [hm] at h1;refine .same h ?_ (.flat (by simp [flat_eq]))
 have hv:ρ.val (.slice (some a) n q) = .slice (some ⟨ρ.blk a.block,a.off + ρ.off a.block,none⟩) n (ρ.cap a.block - q):=by simp [Rho.val,hsp]
 rw [hv,Sem.run_bind,run_convert_bytes_string w src dst el _ n _ hs he hd,run_bytesToString w _ n _ ns h1,foldl_push];simp [Rho.val]
theorem op_conv {src dst:TypeId} {v r:Value} {H':Hp} (h:HOk P ρ D H w ro N W0) (hc:Cl D v) (hr:convA P H src dst v = some (r,H')) :
  OpRes P ρ D H w ro N W0 (do pure (.value (<- convert src dst (ρ.val v))):Sem Next) (.val r) H':=by
 unfold convA at hr
 split at hr
 ·rename_i el s hs hd
  split at hr
  ·rename_i he
   split at hr
   ·rename_i hz
    simp only [oIq,pIq] at hr;obtain ⟨rfl,rfl⟩:=hr
    have:ρ.val (.string s) = .string s:=by simp [Rho.val]
    rw [this];exact op_toBytes h hs hd he hz
   ·simp at hr
  ·simp at hr
 ·rename_i el a n q hs hd
  split at hr
  ·rename_i he
   split at hr
   ·simp at hr
   ·rename_i hsp
    simp only [oMe,pIq] at hr;obtain ⟨l,hl,rfl,rfl⟩:=hr;exact op_toString h hs hd he (by cases hh:a.spot <;> simp_all) (hc a.block (by simp)) hl
  ·simp at hr
 ·rename_i el n q hs hd
  split at hr
  ·rename_i he
   simp only [oIq,pIq] at hr;obtain ⟨rfl,rfl⟩:=hr;refine .same h ?_ (.flat (by simp [flat_eq]))
   have:ρ.val (.slice none n q) = .slice none n q:=by simp [Rho.val]
   rw [this,Sem.run_bind,run_convert_bytes_string w src dst el _ n _ hs he hd];simp [Conv.bytesToString,Rho.val]
  ·simp at hr
 ·simp at hr
 ·split at hr
  ·rename_i hf
   simp only [oMe,pIq] at hr;obtain ⟨u,hu,rfl,rfl⟩:=hr;rw [Rho.val_flat hf];exact op_pure h hu
  ·simp at hr
 ·simp at hr
theorem op_makeSlice {t el:TypeId} {n m:Int} {k k':IntKind} {z:List Value} {by_:Nat} (h:HOk P ρ D H w ro N W0) (hu:P.underlying t = some (.slice el)) (hz:zc P el = some z)
  (hb:bytesO P el = some by_) (h0:0 <= n) (hn:n <= m) (hr:by_ * m <= roomMost) (hm:m <= roomMost) :
  OpRes P ρ D H w ro N W0 (do pure (.value (<- Instr.makeSlice t (.int k n) (.int k' m))):Sem Next) (.val (.slice (some ⟨H.length,0,none⟩) n.toNat 0))
   (H ++ [.cells (List.replicate n.toNat z).flatten el]):=by
 obtain ⟨z0,hz0,hz1,hz2,hz3⟩:=run_zero' hz w
 have hza:z0.cells = z.toArray:=by rw [<- hz1]
 have hflat:∀ n,∀ v ∈ (List.replicate n z).flatten,oneB v = true /\ flat v = true:=fun n v hv=>by
  obtain ⟨l,hl,hv⟩:=List.mem_flatten.1 hv;rw [List.eq_of_mem_replicate hl] at hv;exact hz3 v hv
 have hlen:∀ n,((List.replicate n z).flatten).length = n * z.length:=fun n=>by simp [List.length_flatten]
 have hsplit:(List.replicate m.toNat z).flatten = (List.replicate n.toNat z).flatten ++ (List.replicate (m.toNat - n.toNat) z).flatten:=by
  rw [<- List.flatten_append,List.replicate_append_replicate]; congr 2; omega
 obtain ⟨a1,a2⟩:=h.allocCells (w':=w.alloc (.cells ((List.replicate m.toNat z).flatten).toArray el)) (List.replicate n.toNat z).flatten (List.replicate (m.toNat - n.toNat) z).flatten el z.length m.toNat (0,0) alloc_old
  (by rw [alloc_new,map_val_flat (hflat _),<- hsplit]) (by simp) (.inl (Nat.le_refl _)) hz2 (by rw [hlen,hlen,<- Nat.add_mul]; congr 1; omega)
  (fun v hv=>⟨.flat (hflat _ v hv).2,(hflat _ v hv).1⟩)
 refine ⟨_,_,?_,a1,a2,cl_newRow (by simp)⟩;rw [val_newRow]
 obtain ⟨i,hi,hib⟩:∃ i,P.info? el = some i /\ i.bytes = by_:=by
  unfold bytesO at hb; cases hi:P.info? el with | none=>simp [hi] at hb | some i=>simp [hi] at hb; exact ⟨i,rfl,hb⟩
 unfold roomMost at hr hm;have w1:IntKind.i64.wrap n = n:=IntWalk.i64_in n ⟨by omega,by omega⟩;have w2:IntKind.i64.wrap m = m:=IntWalk.i64_in m ⟨by omega,by omega⟩
 have t1:¬ ((i.bytes:Int) * m > 2 ^ 48):=by rw [hib]; omega
 have c1:((m < 0 || decide ((i.bytes:Int) * m > 2 ^ 48)) || decide (n < 0) || decide (n > m)) = false:=by
  simp only [t1,decide_false,Bool.or_false,Bool.or_eq_false_iff,decide_eq_false_iff_not]; omega
 have harr:(Array.range (m.toNat * z.length)).map (fun i=>z.toArray[i % z.toArray.size]!) = ((List.replicate m.toNat z).flatten).toArray:=by
  apply Array.ext'; rw [zero_rows]
 by_cases hz':m.toNat * z.length = 0
 ·have e1:(List.replicate m.toNat z).flatten = []:=by
   rw [<- List.length_eq_zero_iff,hlen]; exact hz'
  simp only [Instr.makeSlice,Sem.run_bind,run_underlying hu,Result.andThen_ok,asInt,asIntOf,Sem.run_pure,typeInfo,run_program,hi,w1,w2,c1,bFt,if_false,run_askRoom,run_sizeOf' hz2,hz',if_true,e1]
  have e0:Array.range 0 = #[]:=by apply Array.ext'; simp
  simp [newRow,e0]
 ·simp only [Instr.makeSlice,Sem.run_bind,run_underlying hu,Result.andThen_ok,asInt,asIntOf,Sem.run_pure,typeInfo,run_program,hi,w1,w2,c1,bFt,if_false,run_askRoom,run_sizeOf' hz2,hz',hz0,hza,harr];simp [newRow]
theorem op_len {ts:Array TypeId} {t ty:TypeId} {x r:Value} (h:HOk P ρ D H w ro N W0) (ht:ts[0]? = some t) (hr:lenA P t x = some r) :
  OpRes P ρ D H w ro N W0 (do pure (.value (<- Builtin.len_ ts ty #[ρ.val x])):Sem Next) (.val r) H:=by
 unfold lenA at hr
 split at hr
 ·rename_i s hu
  simp only [oIq] at hr; subst hr;refine .same h ?_ (.flat (by simp [flat_eq]));simp [Builtin.len_,ht,Rho.val,run_underlying hu,goInt]
 ·rename_i n el hu
  simp only [oIq] at hr; subst hr;refine .same h ?_ (.flat (by simp [flat_eq]));simp [Builtin.len_,ht,run_underlying hu,goInt,Rho.val]
 ·rename_i el a n q hu
  simp only [oIq] at hr; subst hr;refine .same h ?_ (.flat (by simp [flat_eq]))
  cases a <;> simp [Builtin.len_,ht,Rho.val,run_underlying hu,goInt]
 ·simp at hr
theorem bound_cases {lo:Option Value} {l d:Int} (hl:(match lo with | some (.int _ l)=>some l | none=>some d | _=>none) = some l) :
  (lo = none /\ l = d) \/ ∃ k,lo = some (.int k l):=by
 cases lo with
 | none=>simp at hl; exact .inl ⟨rfl,hl.symm⟩
 | some v =>
  cases v <;> simp at hl
  subst hl; exact .inr ⟨_,rfl⟩
theorem run_sliceBounds {sl:Bool} {n cap:Nat} {lo hi:Option Value} {l h':Int}
  (hl:(match lo with | some (.int _ l)=>some l | none=>some 0 | _=>none) = some l) (hh:(match hi with | some (.int _ h)=>some h | none=>some (n:Int) | _=>none) = some h')
  (h0:0 <= l) (h1:l <= h') (h2:h' <= (cap:Int)) :
  (Instr.sliceBounds sl n cap (lo.map ρ.val) (hi.map ρ.val) none).run P w = .ok (l.toNat,h'.toNat,cap) w:=by
 have e1:l <= (h'.toNat:Int):=by omega
 have e2:0 <= h':=by omega
 rcases bound_cases hl with ⟨rfl,rfl⟩ | ⟨k,rfl⟩ <;> rcases bound_cases hh with ⟨rfl,rfl⟩ | ⟨k',rfl⟩
 ·simp [Instr.sliceBounds]
 ·simp [Instr.sliceBounds,Instr.sliceBound,asIntOf,Rho.val,e2,h2]
 ·have e3:l <= (n:Int):=by omega
  simp [Instr.sliceBounds,Instr.sliceBound,asIntOf,Rho.val,h0,e3]
 ·simp only [Instr.sliceBounds,Instr.sliceBound,asIntOf,Rho.val,oMs,vmap_int,Sem.run_bind,Sem.run_pure,Result.andThen_ok,e2,h2,and_self,if_true,h0,e1]
theorem op_slice {t:TypeId} {x r:Value} {lo hi:Option Value} {H':Hp} (h:HOk P ρ D H w ro N W0) (hc:Cl D x) (hr:sliceA P H t x lo hi = some (r,H')) :
  OpRes P ρ D H w ro N W0 (do pure (.value (<- Instr.sliceAt t (ρ.val x) (lo.map ρ.val) (hi.map ρ.val) none)):Sem Next) (.val r) H':=by
 unfold sliceA at hr
 split at hr
 ·rename_i s hu
  split at hr
  ·rename_i l h' hl hh
   split at hr
   ·rename_i hb
    obtain ⟨h0,h1,h2⟩:=hb;simp only [oIq,pIq] at hr;obtain ⟨rfl,rfl⟩:=hr;refine .same h ?_ (.flat (by simp [flat_eq]))
    have e1:ρ.val (.string s) = .string s:=by simp [Rho.val]
    have e2:ρ.val (.string (s.extract l.toNat h'.toNat)) = .string (s.extract l.toNat h'.toNat):=by simp [Rho.val]
    rw [e1,e2]
    simp only [Instr.sliceAt,Sem.run_bind,run_underlying hu,Result.andThen_ok,Instr.slice,Option.isSome_none,bFt,if_false,
     run_sliceBounds (n:=s.size) (cap:=s.size) hl hh h0 h1 h2,Sem.run_pure]
   ·simp at hr
  ·simp at hr
 ·rename_i el a n q hu
  split at hr
  ·rename_i l h' hl hh
   split at hr
   ·simp at hr
   ·rename_i hsp
    have hsp':a.spot = none:=by cases hh:a.spot <;> simp_all
    split at hr
    ·rename_i cs el' z hk hz
     split at hr
     ·rename_i hb
      obtain ⟨rfl,hoff,hzp,h0,h1,h2⟩:=hb;have ha:D a.block:=hc a.block (by simp);obtain ⟨⟨rest,fr,z',g1,g2,g3,g4,g0⟩,g5⟩:=h.at_ ha hk
      obtain rfl:z' = z:=by rw [hz] at g3; injection g3 with g3; exact g3.symm
      have hcap:q + h'.toNat <= ρ.cap a.block:=by
       have:(q + h'.toNat) * z' <= ρ.cap a.block * z':=by rw [<- g4,Nat.add_mul,<- hoff]; omega
       exact Nat.le_of_mul_le_mul_right this hzp
      have hbd:=run_sliceBounds (P:=P) (w:=w) (ρ:=ρ) (sl:=true) (n:=n) (cap:=ρ.cap a.block - q) hl hh h0 h1 (by omega)
      have e1:ρ.val (.slice (some a) n q) = .slice (some ⟨ρ.blk a.block,a.off,none⟩) n (ρ.cap a.block - q):=by simp [Rho.val,hsp',g0]
      have hrun:(do pure (.value (<- Instr.sliceAt t (ρ.val (.slice (some a) n q)) (lo.map ρ.val) (hi.map ρ.val) none)):Sem Next).run P w =
        .ok (.value (.slice (if ρ.cap a.block - q = l.toNat then some ⟨ρ.blk a.block,a.off,none⟩ else some ⟨ρ.blk a.block,a.off + l.toNat * z',none⟩) (h'.toNat - l.toNat) (ρ.cap a.block - q - l.toNat))) w:=by
       rw [e1];simp only [Instr.sliceAt,Sem.run_bind,run_underlying hu,Result.andThen_ok,Instr.slice,hbd,run_sizeOf' hz,Sem.run_pure,oMs,add_none]
      split at hr
      ·rename_i hl0
       simp only [oIq,pIq] at hr;obtain ⟨rfl,rfl⟩:=hr;refine .same h (hrun.trans ?_) (fun b hb=>hc b (by simpa using hb));simp [hl0,Rho.val,hsp',g0]
      ·rename_i hl0
       split at hr
       ·rename_i hlt
        simp only [oIq,pIq] at hr;obtain ⟨rfl,rfl⟩:=hr;refine .same h (hrun.trans ?_) (fun b hb=>hc b (by simpa using hb));rw [if_neg (by omega)];simp [Rho.val,Nat.sub_sub,g0]
       ·simp at hr
     ·simp at hr
    ·rename_i cs el' z hk hz
     split at hr
     ·rename_i hb
      obtain ⟨rfl,hoff,hzp,rfl,h1,h2⟩:=hb;have ha:D a.block:=hc a.block (by simp);obtain ⟨⟨_,z',g3,g4⟩,g5⟩:=h.at_ ha hk
      obtain rfl:z' = z:=by rw [hz] at g3; injection g3 with g3; exact g3.symm
      have hcap:q + h'.toNat <= ρ.cap a.block:=by
       have:(q + h'.toNat) * z' <= ρ.cap a.block * z':=by rw [Nat.add_mul,<- hoff]; omega
       exact Nat.le_of_mul_le_mul_right this hzp
      have hbd:=run_sliceBounds (P:=P) (w:=w) (ρ:=ρ) (sl:=true) (n:=n) (cap:=ρ.cap a.block - q) hl hh (Int.le_refl 0) h1 (by omega)
      have e1:ρ.val (.slice (some a) n q) = .slice (some ⟨ρ.blk a.block,a.off + ρ.off a.block,none⟩) n (ρ.cap a.block - q):=by simp [Rho.val,hsp']
      simp only [oIq,pIq] at hr;obtain ⟨rfl,rfl⟩:=hr;refine .same h ?_ (fun b hb=>hc b (by simpa using hb));rw [e1];simp only [Instr.sliceAt,Sem.run_bind,run_underlying hu,Result.andThen_ok,Instr.slice,hbd,run_sizeOf' hz,Sem.run_pure,oMs,add_none];simp [Rho.val,hsp']
     ·simp at hr
    ·simp at hr
  ·simp at hr
 ·rename_i el n q hu
  split at hr
  ·rename_i l h' hl hh
   split at hr
   ·rename_i hb
    obtain ⟨rfl,rfl,rfl,rfl,hz⟩:=hb;obtain ⟨z,hz⟩:=Option.isSome_iff_exists.1 hz;simp only [oIq,pIq] at hr;obtain ⟨rfl,rfl⟩:=hr;have hbd:=run_sliceBounds (P:=P) (w:=w) (ρ:=ρ) (sl:=true) (n:=0) (cap:=0) hl hh (Int.le_refl 0) (Int.le_refl 0) (by omega);refine .same h ?_ (.flat (by simp [flat_eq]))
    have e1:ρ.val (.slice none 0 0) = .slice none 0 0:=by simp [Rho.val]
    rw [e1];simp only [Instr.sliceAt,Sem.run_bind,run_underlying hu,Result.andThen_ok,Instr.slice,hbd,run_sizeOf' hz,Sem.run_pure]
    simp
   ·simp at hr
  ·simp at hr
 ·simp at hr
theorem run_wr {b o:Nat} {vs:List Value} {H':Hp} (h:HOk P ρ D H w ro N W0) (hb:D b) (hw:wrB H ro b o vs = some H') (hc:∀ v ∈ vs,Cl D v) :
  ∃ w',(storeCells ⟨ρ.blk b,o + ρ.off b,none⟩ (vs.map ρ.val)).run P w = .ok () w' /\ HOk P ρ D H' w' ro N W0 /\ H'.length = H.length:=by
 unfold wrB at hw
 split at hw
 ·rename_i hone
  simp only [Bool.and_eq_true,List.all_eq_true,decide_eq_true_eq] at hone
  cases hk:H[b]? with
  | none=>simp [hk] at hw
  | some k =>
   cases k with
   | iter s p=>simp [hk] at hw
   | dead=>simp [hk] at hw
   | tab cs=>simp [hk] at hw
   | view cs el=>simp [hk] at hw
   | cells cs el =>
    simp only [hk] at hw
    split at hw
    ·rename_i hle
     simp only [oIq] at hw; subst hw;obtain ⟨⟨rest,fr,z,h1,h2,h3,h4,h0⟩,h5⟩:=h.at_ hb hk;rw [h0,Nat.add_zero]
     have hrun:=run_storeCells_free (P:=P) (ρ.blk b) o el fr (vs.map ρ.val) 0 (cs.map ρ.val ++ rest).toArray w h1 (by simpa using h2) (by simp; omega)
      (fun v hv=>by obtain ⟨u,hu,rfl⟩:=List.mem_map.1 hv; simpa using hone.1 u hu)
     refine ⟨_,hrun,?_,by simp⟩;refine h.set hb hone.2 hk rfl (by simp) (fun B hB=>setRow_other w _ B _ hB) ⟨⟨rest,fr,z,?_,?_,h3,?_⟩,?_⟩
     ·rw [setRow_heap w _ _ _ el fr h1,wrs_map]
      congr 2
      simp only [Nat.add_zero,List.length_map,wrs];rw [List.take_append_of_le_length (by simp; omega),List.drop_append_of_le_length (by simp; omega)]
      simp
     ·rw [wrs_length hle]; exact h2
     ·rw [wrs_length hle]; exact ⟨h4,h0⟩
     ·intro v hv
      rcases mem_wrs hv with hv | hv
      ·exact h5 v hv
      ·exact ⟨hc v hv,hone.1 v hv⟩
    ·simp at hw
 ·simp at hw
theorem op_store {t:TypeId} {a:Addr} {v:Value} {H':Hp} (h:HOk P ρ D H w ro N W0) (ha:D a.block) (hc:Cl D v) (hs:stVar P ro H t a v = some H') :
  ∃ w',(do Instr.storeAt t (ρ.val (.pointer (some a))) (ρ.val v); pure .skip:Sem Next).run P w = .ok .skip w' /\ HOk P ρ D H' w' ro N W0 /\ H'.length = H.length:=by
 unfold stVar at hs
 split at hs
 ·simp at hs
 ·rename_i hsp
  have hsp':a.spot = none:=by cases hh:a.spot <;> simp_all
  split at hs
  ·rename_i hsz
   obtain ⟨w',h1,h2,h3⟩:=run_wr h ha hs (fun u hu b hb=>hc b (by rw [<- addrs_cells]; exact List.mem_flatMap.2 ⟨u,hu,hb⟩));refine ⟨w',?_,h2,h3⟩
   have hsz':(ρ.val v).cells.size = v.cells.toList.length:=by simp
   have hl:(ρ.val v).cells.toList = v.cells.toList.map ρ.val:=by simp
   have hne:¬ ((ρ.val v).cells.size ≠ v.cells.toList.length):=by simp
   have hp:ρ.val (.pointer (some a)) = .pointer (some ⟨ρ.blk a.block,a.off + ρ.off a.block,none⟩):=by simp [Rho.val,hsp']
   rw [hp];simp only [Instr.storeAt,Instr.sureAddr,storeVar,Sem.run_bind,Sem.run_pure,Result.andThen_ok,run_sizeOf' hsz,hsz',ne_eq,not_true_eq_false,if_false,hl,h1]
  ·simp at hs
theorem src_run {z:Nat} {x:Value} {new:List Value} (h:HOk P ρ D H w ro N W0) (hc:Cl D x) (hs:srcCells H z x = some new) (hl:new.length = lenV x * z) :
  (Builtin.firstCells z (lenV x) (ρ.val x)).run P w = .ok (new.map ρ.val).toArray w /\ (Builtin.lenOf (ρ.val x)).run P w = .ok (lenV x) w /\ ∀ v ∈ new,Cl D v:=by
 cases x with
 | slice a n q =>
  cases a with
  | none =>
   simp only [srcCells] at hs
   split at hs
   ·rename_i hn
    simp only [oIq] at hs; subst hs;refine ⟨?_,?_,by simp⟩
    ·simp [Rho.val,Builtin.firstCells]
    ·simp [Rho.val,Builtin.lenOf,lenV]
   ·simp at hs
  | some a =>
   simp only [srcCells] at hs
   split at hs
   ·simp at hs
   ·rename_i hsp
    have hsp':a.spot = none:=by cases hh:a.spot <;> simp_all
    obtain ⟨h1,h2,h3⟩:=rdN_run h (hc a.block (by simp)) hs;refine ⟨?_,?_,fun v hv=>(h3 v hv).1⟩
    ·simp only [Rho.val,vmap_slice,Builtin.firstCells,hsp',lenV]; exact h1
    ·simp [Rho.val,Builtin.lenOf,lenV]
 | string s =>
  simp only [srcCells,oIq] at hs; subst hs;refine ⟨?_,?_,fun v hv=>?_⟩
  ·simp only [Rho.val,vmap_string,Builtin.firstCells,lenV,Sem.run_pure]
   congr 1
   have:=byteCells_map (s:=s) ρ
   simp only [Rho.val] at this;rw [this];apply Array.ext';simp [byteCells]
  ·simp [Rho.val,Builtin.lenOf,lenV]
  ·simp only [byteCells,List.mem_map] at hv;obtain ⟨b,_,rfl⟩:=hv;exact .flat (by simp [flat_eq])
 | _=>simp [srcCells] at hs
theorem nextcap_le (need old:Nat) (h:old < need):Builtin.nextslicecap need old <= 2 * need + 192:=by
 unfold Builtin.nextslicecap
 split
 ·omega
 ·split
  ·omega
  ·simp only [Builtin.growBy]
   split
   ·omega
   ·split
    ·omega
    ·split
     ·omega
     ·split <;> omega
theorem append_room {ts:Array TypeId} {ty t u el:TypeId} {d:TypeDesc} {x:Value} {z:Nat} {new:List Value} (ht0:ts[0]? = some t) (ht1:ts[1]? = some u)
  (hut:P.underlying t = some (.slice el)) (huu:P.underlying u = some d) (hd:rowish d = true) (hz:szO P el = some z)
  (s1:(Builtin.firstCells z (lenV x) (ρ.val x)).run P w = .ok (new.map ρ.val).toArray w) (s2:(Builtin.lenOf (ρ.val x)).run P w = .ok (lenV x) w)
  (base:Option Addr) (n cap:Nat) (hle:n + lenV x <= cap) :
  (Builtin.append_ ts ty #[.slice base n cap,ρ.val x]).run P w =
   (match base with | some a=>(storeCells (a.add (n * z)) (new.map ρ.val)).run P w | none=>.ok () w).andThen fun _ w'=>.ok (.slice base (n + lenV x) cap) w':=by
 have e0:(#[Value.slice base n cap,ρ.val x]:Array Value)[0]? = some (.slice base n cap):=rfl;have e1:(#[Value.slice base n cap,ρ.val x]:Array Value)[1]? = some (ρ.val x):=rfl
 cases d <;> simp only [rowish,bFt] at hd
 all_goals
  simp only [Builtin.append_,ht0,ht1,e0,e1,Sem.run_bind,run_underlying hut,run_underlying huu,Result.andThen_ok,run_sizeOf' hz,Sem.run_pure,bFt,if_false,s2,hle,if_true,
   Bool.not_false,s1]
  cases base <;> simp
theorem append_grow {ts:Array TypeId} {ty t u el:TypeId} {d:TypeDesc} {x:Value} {z by_:Nat} {new zz:List Value} (ht0:ts[0]? = some t) (ht1:ts[1]? = some u)
  (hut:P.underlying t = some (.slice el)) (huu:P.underlying u = some d) (hd:rowish d = true) (hz:szO P el = some z) (hby:bytesO P el = some by_) (hzz:zc P el = some zz) (hpos:0 < by_)
  (s1:(Builtin.firstCells z (lenV x) (ρ.val x)).run P w.drew = .ok (new.map ρ.val).toArray w.drew) (s2:(Builtin.lenOf (ρ.val x)).run P w = .ok (lenV x) w)
  (base:Option Addr) (n cap:Nat) (old:List Value) (hle:¬ n + lenV x <= cap) (hbig:(n + lenV x) * by_ <= roomMost)
  (hold:(Builtin.firstCells z n (.slice base n cap)).run P w.drew = .ok old.toArray w.drew) :
  ∃ newCap rest,n + lenV x <= newCap /\ (newCap - (n + lenV x)) * z = rest.length /\
   (Builtin.append_ ts ty #[.slice base n cap,ρ.val x]).run P w = .ok (.slice (some ⟨w.heap.size,0,none⟩) (n + lenV x) newCap) (w.drew.alloc (.cells (old ++ new.map ρ.val ++ rest).toArray el)):=by
 obtain ⟨i,hi,hib⟩:∃ i,P.info? el = some i /\ i.bytes = by_:=by
  unfold bytesO at hby; cases hi:P.info? el with | none=>simp [hi] at hby | some i=>simp [hi] at hby; exact ⟨i,rfl,hby⟩
 obtain ⟨z0,hz0,hz1,hz2,hz3⟩:=run_zero' hzz w.drew
 have hzl:zz.length = z:=by rw [hz] at hz2; injection hz2 with hz2; exact hz2.symm
 have e0:(#[Value.slice base n cap,ρ.val x]:Array Value)[0]? = some (.slice base n cap):=rfl;have e1:(#[Value.slice base n cap,ρ.val x]:Array Value)[1]? = some (ρ.val x):=rfl
 have hb0:¬ i.bytes = 0:=by omega
 have hcapb:¬ (Builtin.nextslicecap (n + lenV x) cap * i.bytes > 2 ^ 48):=by
  have h1:=nextcap_le (n + lenV x) cap (by omega);have h2:Builtin.nextslicecap (n + lenV x) cap * i.bytes <= (2 * (n + lenV x) + 192) * i.bytes:=Nat.mul_le_mul_right _ h1;have h3:by_ <= (n + lenV x) * by_:=Nat.le_mul_of_pos_left _ (by omega);rw [hib] at h2 ⊢
  have h4:(2 * (n + lenV x) + 192) * by_ = 2 * ((n + lenV x) * by_) + 192 * by_:=by rw [Nat.add_mul,Nat.mul_assoc]
  unfold roomMost at hbig;omega
 have hg:(Question.appendCap (n + lenV x) cap el).forced = false:=rfl
 have hcut:n + lenV x <= (Question.appendCap (n + lenV x) cap el).cut (w.tape w.drawn (.appendCap (n + lenV x) cap el)):=by simp only [Question.cut]; omega
 refine ⟨(Question.appendCap (n + lenV x) cap el).cut (w.tape w.drawn (.appendCap (n + lenV x) cap el)),
  (Builtin.zeroCells z0.cells ((Question.appendCap (n + lenV x) cap el).cut (w.tape w.drawn (.appendCap (n + lenV x) cap el)) - (n + lenV x))).toList,hcut,?_,?_⟩
 ·have:z0.cells.size = z:=by rw [<- hzl,<- hz1]; simp
  simp [Builtin.zeroCells,this]
 ·cases d <;> simp only [rowish,bFt] at hd
  all_goals
   have hnn:¬ (((n + lenV x:Nat):Int) > IntKind.i64.max /\ (false = true \/ i.bytes = 0)):=by simp [hb0]
   simp only [Builtin.append_,ht0,ht1,e0,e1,Sem.run_bind,run_underlying hut,run_underlying huu,Result.andThen_ok,run_sizeOf' hz,Sem.run_pure,bFt,if_false,s2,hle,
    typeInfo,run_program,hi,hb0,or_self,and_false,hcapb,run_choose,hg,World.drew_eq,run_askRoom,hold,Bool.not_false,if_true,s1,hz0]
   generalize (Question.appendCap (n + lenV x) cap el).cut (w.tape w.drawn (.appendCap (n + lenV x) cap el)) = nc;simp only [newRow,Sem.run_bind,run_newObj,World.alloc_eq,Result.andThen_ok,Sem.run_pure,World.size_drew]
   congr 3
   apply Array.ext'
   simp
set_option maxHeartbeats 1000000 in
theorem op_append {nb:Nat} {ts:Array TypeId} {ty:TypeId} {s x r:Value} {H':Hp} (h:HOk P ρ D H w ro N W0) (hcs:Cl D s) (hcx:Cl D x) (hr:appendA P nb ro H ts s x = some (r,H')) :
  OpRes P ρ D H w ro N W0 (do pure (.value (<- Builtin.append_ ts ty #[ρ.val s,ρ.val x])):Sem Next) (.val r) H':=by
 unfold appendA at hr
 split at hr
 case h_2=>simp at hr
 rename_i t u ht0 ht1
 split at hr
 case h_2=>simp at hr
 rename_i el d hut huu
 by_cases hd:rowish d = true
 case neg=>rw [if_neg hd] at hr; simp at hr
 rw [if_pos hd] at hr;simp only [oBe] at hr;obtain ⟨z,hz,by_,hby,zz,hzz,hr⟩:=hr
 split at hr
 case isFalse=>simp at hr
 rename_i hpos
 simp only [oBe] at hr;obtain ⟨new,hnew,hr⟩:=hr
 split at hr
 case isFalse=>simp at hr
 rename_i hnl
 obtain ⟨hnl,hone⟩:=hnl;obtain ⟨s1,s2,s3⟩:=src_run h hcx hnew hnl;have hone':∀ v ∈ new,oneB v = true:=fun v hv=>List.all_eq_true.1 hone v hv;have room:=append_room (ty:=ty) ht0 ht1 hut huu hd hz s1 s2;have grow:=fun base n cap old h1 h2 hold=>append_grow (ty:=ty) ht0 ht1 hut huu hd hz hby hzz hpos.2 (src_run (h.world (w':=w.drew) rfl) hcx hnew hnl).1 s2 base n cap old h1 h2 hold
 clear hnew hone
 split at hr
 ·
  rename_i n q
  split at hr
  case isFalse=>simp at hr
  rename_i hn
  obtain ⟨rfl,rfl⟩:=hn
  have hval:ρ.val (.slice none 0 0) = .slice none 0 0:=by simp [Rho.val]
  split at hr
  ·rename_i h0
   simp only [oIq,pIq] at hr;obtain ⟨rfl,rfl⟩:=hr;refine .same h ?_ (.flat (by simp [flat_eq]));rw [hval,Sem.run_bind,room none 0 0 (by omega)];simp [h0]
  ·rename_i h0
   split at hr
   case isFalse=>simp at hr
   rename_i hbig
   simp only [oIq,pIq] at hr;obtain ⟨rfl,rfl⟩:=hr;obtain ⟨newCap,rest,g1,g2,g3⟩:=grow none 0 0 [] (by omega) (by simpa using hbig) (by simp [Builtin.firstCells])
   obtain ⟨a1,a2⟩:=(h.world (w':=w.drew) rfl).allocCells (w':=w.drew.alloc (.cells ([] ++ new.map ρ.val ++ rest).toArray el)) new rest el z newCap (0,0) alloc_old
    (by rw [alloc_new]; simp) (by simp) (.inl (Nat.le_refl _)) hz (by
     simp only [Nat.zero_add] at g1 g2
     rw [<- g2,hnl,<- Nat.add_mul]; congr 1; omega) (fun v hv=>⟨s3 v hv,hone' v hv⟩)
   refine ⟨_,_,?_,a1,a2,cl_newRow (by simp)⟩;rw [val_newRow,hval,Sem.run_bind,g3]
   simp
 ·
  rename_i a n q
  split at hr
  ·simp at hr
  rename_i hsp
  have hsp':a.spot = none:=by cases hh:a.spot <;> simp_all
  split at hr
  case h_2=>simp at hr
  rename_i cs el' hk
  split at hr
  case isFalse=>simp at hr
  rename_i hb
  obtain ⟨rfl,hoff,hle⟩:=hb;have ha:D a.block:=hcs a.block (by simp);obtain ⟨⟨rest,fr,z',g1,g2,g3,g4,g0⟩,g5⟩:=h.at_ ha hk
  obtain rfl:z' = z:=by rw [hz] at g3; injection g3 with g3; exact g3.symm
  have hval:ρ.val (.slice (some a) n q) = .slice (some ⟨ρ.blk a.block,a.off,none⟩) n (ρ.cap a.block - q):=by simp [Rho.val,hsp',g0]
  have capOf:∀ m,a.off + m * z' <= cs.length + rest.length -> m <= ρ.cap a.block - q:=fun m hm=>by
   have:(q + m) * z' <= ρ.cap a.block * z':=by rw [<- g4,Nat.add_mul,<- hoff]; exact hm
   have:=Nat.le_of_mul_le_mul_right this hpos.1
   omega
  split at hr
  ·rename_i h0
   simp only [oIq,pIq] at hr;obtain ⟨rfl,rfl⟩:=hr;refine .same h ?_ hcs
   have hnil:new = []:=by rw [<- List.length_eq_zero_iff,hnl,h0]; simp
   rw [hval,Sem.run_bind,room _ n _ (by rw [h0]; exact capOf n (by omega))];simp [h0,hnil,storeCells]
  ·rename_i h0
   split at hr
   case isFalse=>simp at hr
   rename_i hro
   split at hr
   ·rename_i hin
    simp only [oIq,pIq] at hr;obtain ⟨rfl,rfl⟩:=hr
    have hwr:wrB H ro a.block (a.off + n * z') new = some (H.set a.block (.cells (wrs cs (a.off + n * z') new) el')):=by
     unfold wrB;have hin:=hin.1
     have:a.off + n * z' + new.length <= cs.length:=by rw [hnl]; rw [Nat.add_mul] at hin; omega
     simp [hro,hk,this];exact hone'
    obtain ⟨w',w1,w2,w3⟩:=run_wr h ha hwr s3;refine ⟨ρ,w',?_,by rw [w3,Dn_eq]; exact w2,.refl _ _,by rw [w3,Dn_eq]; exact fun b hb=>hcs b (by simpa using hb)⟩;rw [hval,Sem.run_bind,room _ n _ (capOf _ (by have:=hin.1; omega))];rw [g0,Nat.add_zero] at w1;simp only [add_none,w1,Result.andThen_ok,Sem.run_pure];simp [Rho.val,hsp',g0]
   ·rename_i hin
    split at hr
    case isFalse=>simp at hr
    rename_i htip
    obtain ⟨rfl,htip,hbig⟩:=htip;simp only [oIq,pIq] at hr;obtain ⟨rfl,rfl⟩:=hr
    have hoff0:a.off = 0:=by simpa using hoff
    have hlen:(H.set a.block Blk.dead).length = H.length:=by simp
    have hkill:=h.kill a.block
    by_cases hroom:n + lenV x <= ρ.cap a.block
    ·
     have hcl:cs.length + new.length <= cs.length + rest.length:=by
      rw [g4,hnl,<- htip,<- Nat.add_mul]; exact Nat.mul_le_mul_right _ hroom
     have hst:=run_storeCells_free (P:=P) (ρ.blk a.block) (n * z') el' fr (new.map ρ.val) 0 (cs.map ρ.val ++ rest).toArray w g1 (by simpa using g2) (by simp; omega)
      (fun v hv=>by obtain ⟨u,hu,rfl⟩:=List.mem_map.1 hv; simpa using hone' u hu)
     obtain ⟨t1,t2⟩:=hkill.take (w':=w.setRow (ρ.blk a.block) ((cs.map ρ.val ++ rest).toArray.toList.take (n * z' + 0) ++ new.map ρ.val ++ (cs.map ρ.val ++ rest).toArray.toList.drop (n * z' + 0 + (new.map ρ.val).length)).toArray)
      (.cells (cs ++ new) el') (ρ.blk a.block) (ρ.cap a.block) (h.fresh _ ha hro ⟨_,hk,by simp⟩)
      (fun c hc ⟨k,hk',hkd⟩=>by
       by_cases e:c = a.block
       ·subst e; simp [h.lt ha] at hk'; exact absurd hk'.symm hkd
       ·exact h.inj c a.block hc ha ⟨k,by rwa [List.getElem?_set_ne (Ne.symm e)] at hk',hkd⟩ ⟨_,hk,by simp⟩ e (.inr ⟨_,hk,rfl⟩))
      (by simp) (fun B hB=>setRow_other w _ B _ hB)
      (fun ρ' hB hC h00 hag=>⟨⟨rest.drop new.length,fr,z',by
        rw [hB,setRow_heap w _ _ _ el' fr g1]
        congr 2
        have e1:(cs ++ new).map ρ'.val = cs.map ρ.val ++ new.map ρ.val:=by
         rw [List.map_append,hag.map fun v hv=>(g5 v hv).1,hag.map s3]
        rw [e1];simp only [Nat.add_zero,htip,List.length_map];rw [List.take_append_of_le_length (by simp),List.drop_append]
        simp [List.take_of_length_le],
       by simp only [lLa,List.length_drop]; rw [show cs.length + new.length + (rest.length - new.length) = cs.length + rest.length by omega]; exact g2,
       hz,by rw [hC,<- g4]; simp only [lLa,List.length_drop]; omega,h00⟩,
       fun v hv=>by
        rcases List.mem_append.1 hv with hv | hv
        ·exact ⟨(g5 v hv).1.mono Dn_sub,(g5 v hv).2⟩
        ·exact ⟨(s3 v hv).mono Dn_sub,hone' v hv⟩⟩)
     rw [hlen] at t1 t2;refine ⟨_,_,?_,t1,t2,cl_newRow (by simp)⟩;rw [val_newRow,hval,Sem.run_bind,room _ n _ (by simpa using hroom)];simp only [add_none,hoff0,Nat.zero_add,hst,Result.andThen_ok,Sem.run_pure]
     simp
    ·
     obtain ⟨newCap,rst,f1,f2,f3⟩:=grow (some ⟨ρ.blk a.block,a.off,none⟩) n (ρ.cap a.block) (cs.map ρ.val) hroom hbig (by
      simp only [Builtin.firstCells,hoff0];rw [run_loadCells_at w.drew _ 0 (n * z') el' fr _ g1 (by simp; omega)]
      simp [htip])
     obtain ⟨a1,a2⟩:=(hkill.world (w':=w.drew) rfl).allocCells (w':=w.drew.alloc (.cells (cs.map ρ.val ++ new.map ρ.val ++ rst).toArray el')) (cs ++ new) rst el' z' newCap (0,0) alloc_old
      (by rw [alloc_new]; simp) (by simp) (.inl (Nat.le_refl _)) hz (by
       simp only [lLa]
       rw [<- f2,hnl,<- htip,<- Nat.add_mul,<- Nat.add_mul]; congr 1; omega)
      (fun v hv=>by
       rcases List.mem_append.1 hv with hv | hv
       ·exact g5 v hv
       ·exact ⟨s3 v hv,hone' v hv⟩)
     rw [hlen] at a1 a2;refine ⟨_,_,?_,a1,a2,cl_newRow (by simp)⟩;rw [val_newRow,hval,Sem.run_bind]
     have:ρ.cap a.block - 0 = ρ.cap a.block:=Nat.sub_zero _
     rw [this,f3]
     simp
 ·simp at hr
end
end Go.AM
