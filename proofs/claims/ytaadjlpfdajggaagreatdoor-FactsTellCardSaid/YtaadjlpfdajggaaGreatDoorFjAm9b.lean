import Derived.Test.YtaadjlpfdajggaaGreatDoorFjAm9
set_option linter.unusedVariables false
set_option linter.unusedSimpArgs false
namespace Go.AM
open Go
def lateOps (ops:Array Oper) (k:Nat) (x:Operand) (ta:Nat):Array Oper:=ops.modify k fun o=>{ o with op:=.pick (.const (.bool true)) x (.tmp ta) }
theorem steps_old {M:Mach} {call:CallF} {nb ro:Nat} (hcall:CallOk M call) {quiet:Bool}:∀ {l:List AOp} {s s':St},stepsA M call nb ro quiet l s = some s' -> ro <= s.hp.length -> nb <= s.hp.length ->
  ∀ b,b < ro -> s'.hp[b]? = s.hp[b]?
 | [],s,s',h,_,_=>by simp only [stepsA,oIq] at h; subst h; exact fun _ _=>rfl
 | o :: l,s,s',h,h1,h2=>by
  simp only [stepsA,oBe] at h;obtain ⟨s1,g1,g2⟩:=h;have hs:=step1_am hcall g1 h1 h2;intro b hb;rw [steps_old hcall g2 (nLt h1 hs.le) (nLt h2 hs.le) b hb];exact hs.old b (by unfold roOf; split <;> omega)
section
variable {M:Mach} {call:CallF} {ρ:Rho} {D:Nat -> Prop} {w:World} {nb ro nt:Nat} {N:Nat -> Prop} {W0:Old} {s s2:St} {quiet:Bool} {ops:Array Oper} {al:List AOp} {a:Act}
theorem lateA_eq {t:TypeId} {ta:Nat} {x:Operand} (hs:lateA M call nb ro quiet t ta x al s = some s2) :
  ∃ b off cs e s1 v,look s.env ta = some (.pointer (some ⟨b,off,none⟩)) /\ s.hp[b]? = some (.cells cs e) /\ ro <= b /\ nb <= b /\
   stepsA M call nb ro quiet al ⟨s.env,s.hp.set b .dead,s.dirty⟩ = some s1 /\ ev s1.env x = some v /\ s1.hp[b]? = some .dead /\ flat v = true /\ (∀ u ∈ v.cells.toList,oneB u = true) /\
   szO M.P t = some v.cells.toList.length /\ off + v.cells.toList.length <= cs.length /\ s2 = ⟨s1.env,s1.hp.set b (.cells (wrs cs off v.cells.toList) e),s1.dirty⟩:=by
 unfold lateA at hs
 split at hs
 case h_2=>cases hs
 rename_i b off hl
 split at hs
 case h_2=>cases hs
 rename_i cs e hk
 split at hs
 case isFalse=>cases hs
 rename_i hb
 simp only [oBe] at hs;obtain ⟨s1,h1,v,h2,hs⟩:=hs
 split at hs
 case h_2=>cases hs
 rename_i h3
 split at hs
 case isFalse=>cases hs
 rename_i h4
 simp only [Bool.and_eq_true,List.all_eq_true,beq_iff_eq,decide_eq_true_eq] at h4;simp only [oIq] at hs;exact ⟨b,off,cs,e,s1,v,hl,hk,hb.1,hb.2,h1,h2,h3,h4.1.1.1,h4.1.1.2,h4.1.2,h4.2,hs.symm⟩
open Classical in
theorem late_sound (hM:MOk M) (hcall:CallOk M call) {Q:Exit -> Act -> World -> Prop} {t:TypeId} {ta jl:Nat} {x:Operand} {r0:Oper}
  (hj:ops[jl]? = some r0) (hop:r0.op = .store t (.tmp ta) x) (hdst:r0.dst = none) (hgd:r0.guard = none)
  (hta:∀ (i:Nat) (o:Oper),ops[i]? = some o -> o.dst ≠ some ta) (hx:∀ tx,x = .tmp tx -> ∀ (i:Nat) (o:Oper),jl <= i -> ops[i]? = some o -> o.dst ≠ some tx)
  (hc:convOps M.P nt (lateOps ops jl x ta) (lateOps ops jl x ta).toList = some al) (hd:okDraw M.P [] quiet (lateOps ops jl x ta).toList al = true)
  {dfs:List Deferred} (hs:lateA M call nb ro quiet t ta x al s = some s2) (h:HOk M.P ρ D s.hp w ro N W0) (hg:Glob M.P ρ D) (he:ER ρ D s.env a.tmps) (hsz:a.tmps.size = nt) (hdf:a.defers = dfs)
  (hro:ro <= s.hp.length) (hnb:nb <= s.hp.length)
  (hQ:∀ ρ' a' w',HOk M.P ρ' (Dn D s.hp.length s2.hp.length) s2.hp w' ro N W0 -> Agree D ρ ρ' -> ER ρ' (Dn D s.hp.length s2.hp.length) s2.env (a':Act).tmps -> a'.tmps.size = nt -> a'.defers = dfs -> Q .normal a' w') :
  wpAny M.P .any ops Q ops.size (Array.replicate ops.size false) a { w with drawn:=w.drawn + 1 }:=by
 obtain ⟨b,off,cs,e,s1,v,l1,l2,l3,l4,l5,l6,l7,l8,l9,l10,l11,rfl⟩:=lateA_eq hs;obtain ⟨p1,p2⟩:=he ta _ l1;have hDb:D b:=p2 b (by simp);obtain ⟨⟨rest,fr,z,g1,g2,g3,g4,g40⟩,g5⟩:=h.at_ hDb l2;have hvv:∀ ρ':Rho,ρ'.val v = v:=fun ρ'=>Rho.val_flat l8
 have hmv:v.cells.toList.map ρ.val = v.cells.toList:=by
  conv=>rhs; rw [<- List.map_id v.cells.toList]
  refine List.map_congr_left fun u hu=>Rho.val_flat ?_
  have:addrs v = []:=by simpa [flat_eq] using l8
  rw [<- addrs_cells,List.flatMap_eq_nil_iff] at this;rw [flat_eq,this u hu]; rfl
 have hsize:(lateOps ops jl x ta).size = ops.size:=by simp [lateOps]
 have hget:∀ i (o:Oper),ops[i]? = some o -> (lateOps ops jl x ta)[i]? = some (if i = jl then { o with op:=.pick (.const (.bool true)) x (.tmp ta) } else o):=fun i o ho=>by
  simp only [lateOps,Array.getElem?_modify,ho]
  by_cases hij:i = jl
  ·subst hij; simp
  ·simp [hij,Ne.symm hij]
 have hget':∀ (i:Nat) (o r:Oper),(lateOps ops jl x ta)[i]? = some o -> ops[i]? = some r -> o = if i = jl then { r with op:=.pick (.const (.bool true)) x (.tmp ta) } else r:=fun i o r ho hr=>by
  rw [hget i r hr] at ho; injection ho with ho; exact ho.symm
 have hback:∀ (i:Nat) (o:Oper),(lateOps ops jl x ta)[i]? = some o -> ∃ r,ops[i]? = some r /\ o.dst = r.dst:=fun i o ho=>by
  have hlt:=(Array.getElem?_eq_some_iff.1 ho).1;have hr:=Array.getElem?_eq_getElem (xs:=ops) (i:=i) (by omega);refine ⟨_,hr,?_⟩
  rw [hget' i o _ ho hr]; split <;> rfl
 let new:Obj:=.cells ((wrs cs off v.cells.toList).map ρ.val ++ rest).toArray e fr
 let old:Obj:=.cells (cs.map ρ.val ++ rest).toArray e fr
 let W:(Nat -> Prop) -> Old:=fun S=>⟨fun X=>if X = ρ.blk b then some (if S jl then new else old) else W0.at_ X,W0.os,W0.out,W0.tape,W0.drawn⟩
 have hkill:HOk M.P ρ D (s.hp.set b .dead) w ro (fun X=>N X \/ X = ρ.blk b) (W fun _=>False):=by
  have hk:=h.kill b;have hNb:¬ N (ρ.blk b):=h.fresh b hDb l3 ⟨_,l2,by simp⟩;refine ⟨hk.blk,hk.inj,fun c hc hcr hl hN=>?_,fun X hX=>?_,fun X hX=>?_,h.io⟩
  ·have hcb:c ≠ b:=fun e'=>by
    subst e';obtain ⟨k,hk',hkd⟩:=hl;simp [h.lt hDb] at hk'; exact hkd hk'.symm
   rcases hN with hN | hN
   ·exact hk.fresh c hc hcr hl hN
   ·exact h.inj c b hc hDb (live_kill hl) ⟨_,l2,by simp⟩ hcb (.inr ⟨_,l2,rfl⟩) hN
  ·by_cases hXb:X = ρ.blk b
   ·subst hXb; simp only [W,if_true,if_false]; exact g1
   ·simp only [W,hXb,if_false]; exact h.base X (hX.resolve_right hXb)
  ·rcases hX with hX | rfl
   ·exact h.top X hX
   ·exact (Array.getElem?_eq_some_iff.1 g1).1
 have hlen:(s.hp.set b .dead).length = s.hp.length:=by simp
 rw [<- hsize]
 refine draw_soundL (real:=ops) (ops:=lateOps ops jl x ta) (W:=W) (jl:=jl) (s:=⟨s.env,s.hp.set b .dead,s.dirty⟩) hM hcall hsize.symm (fun i o r ho hr=>?_) (fun i S heq=>?_) ?_ (fun _ _ _ _ _ _ _ _ h=>by rw [ldIn_nil] at h; cases h) hc hd ?_ l5 hkill hg he hsz hdf
  (by rw [hlen]; exact hro) (by rw [hlen]; exact hnb) fun ρ' a' w' q1 q2 q3 q4 q5=>?_
 ·rw [hget' i o r ho hr]
  split
  ·rename_i hij; exact ⟨rfl,rfl,rfl,fun hn=>absurd hij hn⟩
  ·exact ⟨rfl,rfl,rfl,fun _=>rfl⟩
 ·by_cases hij:i = jl
  ·subst hij;rw [hj] at heq
   have:=hget' i r0 r0 heq.symm hj
   rw [if_pos rfl] at this;have h2:=congrArg Oper.op this;rw [hop] at h2
   cases h2
  ·have:(jl = i \/ S jl) = S jl:=by
    apply propext; constructor
    ·rintro (h' | h')
     ·exact absurd h'.symm hij
     ·exact h'
    ·exact .inr
   simp only [W,this]
 ·intro r o ao hr ho hne hco σ hσ1 hσ2 S D' H a' w' ρ' hok hag hD' hS hold hrd K hK;have hrr:r = r0:=oIj (hr.symm.trans hj);subst hrr;have hoe:=hget' jl o r ho hj;rw [if_pos rfl] at hoe
  have hops:o.op.operands.toList = [.const (.bool true),x,.tmp ta]:=by rw [hoe]; rfl
  have hreads:∀ tt,(x = .tmp tt \/ tt = ta) -> tt ∈ reads o ao:=fun tt htt=>by
   unfold reads;refine List.mem_append_left _ (mem_tmpsOf ?_);rw [hops]
   rcases htt with rfl | rfl <;> simp
  have hσta:look σ ta = some (.pointer (some ⟨b,off,none⟩)):=by
   rw [hσ1 ta fun i o' ho'=>by obtain ⟨r',hr',hdd⟩:=hback i o' ho'; rw [hdd]; exact hta i r' hr']; exact l1
  have hpl:=(hrd ta (hreads ta (.inr rfl)) _ hσta).1;have hρb:ρ'.blk b = ρ.blk b:=(hag b hDb).1
  have hpv:a'.eval (.tmp ta) = .pointer (some ⟨ρ.blk b,off,none⟩):=by
   simp [Act.eval,hpl,Rho.val,hρb,(hag b hDb).2.2.trans g40]
  have hxv:a'.eval x = v:=by
   cases x with
   | tmp tx =>
    have:look σ tx = some v:=by
     rw [<- hσ2 tx fun i o' hi ho'=>by obtain ⟨r',hr',hdd⟩:=hback i o' ho'; rw [hdd]; exact hx tx rfl i r' hi hr']; exact l6
    have:=(hrd tx (hreads tx (.inl rfl)) _ this).1
    simp [Act.eval,this,hvv]
   | const u=>simp only [ev,oIq] at l6; simp [Act.eval,l6]
   | global g =>
    simp only [ev,oIq] at l6;rw [<- l6] at l8; simp [flat_eq] at l8
   | func f=>simp only [ev,oIq] at l6; simp [Act.eval,<- l6]
  have hBw:w'.heap[ρ.blk b]? = some old:=by
   rw [hok.base _ (.inr rfl)]; simp only [W,if_true,if_neg hS]
  have hrun:=run_storeCells_free (P:=M.P) (ρ.blk b) off e fr v.cells.toList 0 (cs.map ρ.val ++ rest).toArray w' hBw (by simpa using g2) (by have:=l11; simp at this ⊢; omega) l9
  have hne':¬ (v.cells.size ≠ v.cells.toList.length):=by simp
  have hexec:(execOp a'.eval r).run M.P w' = .ok .skip (w'.setRow (ρ.blk b) ((cs.map ρ.val ++ rest).toArray.toList.take (off + 0) ++ v.cells.toList ++ (cs.map ρ.val ++ rest).toArray.toList.drop (off + 0 + v.cells.toList.length)).toArray):=by
   obtain ⟨dst,op,ty,pos,after,gd⟩:=r;simp only at hop; subst hop;simp only [execOp,hpv,hxv,Instr.storeAt,Instr.sureAddr,storeVar,Sem.run_bind,Sem.run_pure,Result.andThen_ok,run_sizeOf' l10,ne_eq,Array.length_toList,not_true_eq_false,if_false,hrun]
  have hwant:Region.wanted r (yielded ops a'.tmps) = true:=by simp [Region.wanted,hgd]
  unfold Step;rw [hwant];refine .inl ?_;unfold Oper.wp;rw [hexec,Oper.upon_skip];refine hK _ ⟨fun c hc=>?_,hok.inj,hok.fresh,fun X hX=>?_,fun X hX=>?_,hok.io⟩
  ·obtain ⟨k,hk,hkok⟩:=hok.blk c hc;refine ⟨k,hk,hkok.mono hc (.refl _ _) (fun _ h=>h) fun hkd=>setRow_other w' _ _ _ ?_⟩
   rcases Nat.lt_or_ge c ro with hcr | hcr
   ·have hDc:D c:=(hD' c hc).resolve_right (by omega);rw [(hag c hDc).1]
    have hcb:c ≠ b:=by omega
    refine h.inj c b hDc hDb ⟨k,?_,hkd⟩ ⟨_,l2,by simp⟩ hcb (.inr ⟨_,l2,rfl⟩);rw [hold c hcr] at hk
    simpa [List.getElem?_set_ne (Ne.symm hcb)] using hk
   ·exact fun e'=>hok.fresh c hc hcr ⟨k,hk,hkd⟩ (.inr e')
  ·by_cases hXb:X = ρ.blk b
   ·subst hXb;rw [setRow_heap w' _ _ _ e fr hBw];simp only [W,if_true,true_or]
    congr 2
    rw [wrs_map,hmv]
    have l12:off + v.cells.size <= cs.length:=by simpa using l11
    simp only [Nat.add_zero,wrs];rw [List.take_append_of_le_length (by simp; omega),List.drop_append_of_le_length (by simp; omega)]
    simp
   ·rw [setRow_other w' _ _ _ hXb]
    have:=hok.base X hX
    simp only [W,hXb,if_false] at this ⊢;exact this
  ·rw [setRow_size]; exact hok.top X hX
 ·intro o r ho hr hne;have hrr:r = r0:=oIj (hr.symm.trans hj);subst hrr;have hoe:=hget' jl o r ho hj;rw [if_pos rfl] at hoe;rw [hoe];exact ⟨rfl,hdst⟩
 ·
  rw [hlen] at q1 q3
  have hjl:jl < (lateOps ops jl x ta).size:=by rw [hsize]; exact (Array.getElem?_eq_some_iff.1 hj).1
  have hρb:ρ'.blk b = ρ.blk b:=(q2 b hDb).1;have hcapb:ρ'.cap b = ρ.cap b:=(q2 b hDb).2.1;have hoffb:ρ'.off b = 0:=(q2 b hDb).2.2.trans g40
  have hDn:Dn D s.hp.length (s1.hp.set b (.cells (wrs cs off v.cells.toList) e)).length = Dn D s.hp.length s1.hp.length:=by simp
  have hDb':Dn D s.hp.length s1.hp.length b:=.inl hDb;have hbl:b < s1.hp.length:=(lGs.1 l7).1
  have hBw:w'.heap[ρ.blk b]? = some new:=by
   rw [q1.base _ (.inr rfl)]; simp only [W,if_true,hjl]
  have ham:=steps_old hcall l5 (by rw [hlen]; exact hro) (by rw [hlen]; exact hnb)
  have hother:∀ c,Dn D s.hp.length s1.hp.length c -> live s1.hp c -> ρ'.blk c ≠ ρ.blk b:=fun c hc hl=>by
   rcases Nat.lt_or_ge c ro with hcr | hcr
   ·have hDc:D c:=by
     rcases hc with hc | hc
     ·exact hc
     ·omega
    rw [(q2 c hDc).1]
    have hcb:c ≠ b:=by omega
    obtain ⟨k,hk,hkd⟩:=hl;refine h.inj c b hDc hDb ⟨k,?_,hkd⟩ ⟨_,l2,by simp⟩ hcb (.inr ⟨_,l2,rfl⟩);rw [ham c hcr] at hk
    simpa [List.getElem?_set_ne (Ne.symm hcb)] using hk
   ·exact fun e'=>q1.fresh c hc hcr hl (.inr e')
  have hliveb:∀ c,c ≠ b -> live (s1.hp.set b (.cells (wrs cs off v.cells.toList) e)) c -> live s1.hp c:=fun c hcb ⟨k,hk,hkd⟩=>⟨k,by rwa [List.getElem?_set_ne (Ne.symm hcb)] at hk,hkd⟩
  refine hQ ρ' a' w' ?_ q2 ?_ q4 q5
  ·simp only [hDn];refine ⟨fun c hc=>?_,fun c d hc hd' hlc hld hne hwk=>?_,fun c hc hcr hl=>?_,fun X hX=>?_,fun X hX=>q1.top X (.inl hX),q1.io⟩
   ·by_cases hcb:c = b
    ·subst hcb;refine ⟨.cells (wrs cs off v.cells.toList) e,by simp [hbl],⟨rest,fr,z,?_,by rw [wrs_length l11]; exact g2,g3,by rw [wrs_length l11,hcapb]; exact g4,hoffb⟩,fun u hu=>?_⟩
     ·rw [hρb,hBw];simp only [new]
      congr 4
      refine List.map_congr_left fun u hu=>?_
      rcases mem_wrs hu with hu | hu
      ·exact (q2.val (g5 u hu).1).symm
      ·have:addrs v = []:=by simpa [flat_eq] using l8
       rw [<- addrs_cells,List.flatMap_eq_nil_iff] at this
       have hf:flat u = true:=by rw [flat_eq,this u hu]; rfl
       rw [Rho.val_flat hf,Rho.val_flat hf]
     ·rcases mem_wrs hu with hu | hu
      ·exact ⟨(g5 u hu).1.mono fun _ h=>.inl h,(g5 u hu).2⟩
      ·have:addrs v = []:=by simpa [flat_eq] using l8
       rw [<- addrs_cells,List.flatMap_eq_nil_iff] at this;exact ⟨.flat (by rw [flat_eq,this u hu]; rfl),l9 u hu⟩
    ·obtain ⟨k,hk,hok⟩:=q1.blk c hc;exact ⟨k,by rw [List.getElem?_set_ne (Ne.symm hcb)]; exact hk,hok⟩
   ·by_cases hcb:c = b
    ·subst hcb;rw [hρb];exact (hother d hd' (hliveb d (Ne.symm hne) hld)).symm
    ·by_cases hdb:d = b
     ·subst hdb;rw [hρb];exact hother c hc (hliveb c hcb hlc)
     ·exact q1.inj c d hc hd' (hliveb c hcb hlc) (hliveb d hdb hld) hne (hwk.imp (fun h'=>h'.to (List.getElem?_set_ne (Ne.symm hcb)).symm) fun h'=>h'.to (List.getElem?_set_ne (Ne.symm hdb)).symm)
   ·by_cases hcb:c = b
    ·subst hcb;rw [hρb]; exact h.fresh c hDb l3 ⟨_,l2,by simp⟩
    ·exact fun hN=>q1.fresh c hc hcr (hliveb c hcb hl) (.inl hN)
   ·have hXb:X ≠ ρ.blk b:=fun e'=>h.fresh b hDb l3 ⟨_,l2,by simp⟩ (e' ▸ hX);rw [q1.base X (.inl hX)];simp only [W,hXb,if_false]
  ·simp only [hDn]; exact q3
end
end Go.AM
