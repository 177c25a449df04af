import Derived.Test.YtaadjlpfdajggaaGreatDoorFjAm9d
set_option linter.unusedVariables false
set_option linter.unusedSimpArgs false
namespace Go.AM
open Go
theorem reach_facts {H:Hp} {nb:Nat}:∀ (n:Nat) (q acc ord:List Nat),reach H nb n q acc = some ord -> (∀ b ∈ acc,∀ i ∈ blkIds H b,i < nb \/ i ∈ acc \/ i ∈ q) -> acc.Nodup -> (∀ b ∈ acc,nb <= b) ->
  (∀ b ∈ ord,∀ i ∈ blkIds H b,i < nb \/ i ∈ ord) /\ (∀ i ∈ q,i < nb \/ i ∈ ord) /\ (∀ i ∈ acc,i ∈ ord) /\ ord.Nodup /\ ∀ b ∈ ord,nb <= b
 | n,[],acc,ord,h,h1,h2,h3=>by
  have:acc = ord:=by cases n <;> simpa [reach] using h
  subst this;exact ⟨fun b hb i hi=>(h1 b hb i hi).elim .inl fun h=>.inr (h.elim id (by simp)),by simp,fun i hi=>hi,h2,h3⟩
 | 0,b :: q,acc,ord,h,_,_,_=>by simp [reach] at h
 | n + 1,b :: q,acc,ord,h,h1,h2,h3=>by
  rw [reach] at h
  split at h
  ·rename_i hb
   obtain ⟨g1,g2,g3,g4,g5⟩:=reach_facts n q acc ord h (fun c hc i hi=>by
    rcases h1 c hc i hi with h | h | h
    ·exact .inl h
    ·exact .inr (.inl h)
    ·rcases List.mem_cons.1 h with rfl | h
     ·rcases hb with hb | hb
      ·exact .inl hb
      ·exact .inr (.inl hb)
     ·exact .inr (.inr h)) h2 h3
   refine ⟨g1,fun i hi=>?_,g3,g4,g5⟩
   rcases List.mem_cons.1 hi with rfl | hi
   ·rcases hb with hb | hb
    ·exact .inl hb
    ·exact .inr (g3 _ hb)
   ·exact g2 i hi
  ·rename_i hb
   simp only [not_or] at hb
   obtain ⟨g1,g2,g3,g4,g5⟩:=reach_facts n (q ++ blkIds H b) (acc ++ [b]) ord h (fun c hc i hi=>by
    rcases List.mem_append.1 hc with hc | hc
    ·rcases h1 c hc i hi with h | h | h
     ·exact .inl h
     ·exact .inr (.inl (by simp [h]))
     ·rcases List.mem_cons.1 h with rfl | h
      ·exact .inr (.inl (by simp))
      ·exact .inr (.inr (by simp [h]))
    ·simp at hc; subst hc
     exact .inr (.inr (by simp [hi])))
    (by rw [List.nodup_append]; exact ⟨h2,by simp,fun x hx y hy=>by simp at hy; subst hy; intro e; subst e; exact hb.2 hx⟩)
    (fun c hc=>by
     rcases List.mem_append.1 hc with hc | hc
     ·exact h3 c hc
     ·simp at hc; subst hc; omega)
   refine ⟨g1,fun i hi=>?_,fun i hi=>g3 i (by simp [hi]),g4,g5⟩
   rcases List.mem_cons.1 hi with rfl | hi
   ·exact .inr (g3 _ (by simp))
   ·exact g2 i (by simp [hi])
theorem fixD_length {f:Nat -> Nat}:∀ {d:List Nat} {H:Hp},(fixD f d H).length = H.length
 | [],_=>rfl
 | b :: r,H=>by
  rw [fixD]; split
  ·exact fixD_length
  ·rw [List.length_modify]; exact fixD_length
theorem fixD_get {f:Nat -> Nat}:∀ {d:List Nat} {H:Hp} (c:Nat),(fixD f d H)[c]? = if c ∈ d then (H[c]?).map (relocB f) else H[c]?
 | [],_,c=>by simp [fixD]
 | b :: r,H,c=>by
  rw [fixD]
  split
  ·rename_i hb
   rw [fixD_get c]
   by_cases hc:c ∈ r
   ·simp [hc]
   ·have:c ≠ b:=fun e=>hc (e ▸ hb)
    simp [hc,this]
  ·rename_i hb
   rw [List.getElem?_modify,fixD_get c]
   by_cases hcb:b = c
   ·subst hcb; simp [hb]
   ·simp only [hcb,if_false,List.mem_cons,Ne.symm hcb,false_or]
    cases (if c ∈ r then Option.map (relocB f) H[c]? else H[c]?) <;> simp [hcb]
theorem getD_idxOf {l:List Nat} {b:Nat} (h:b ∈ l):l.getD (l.idxOf b) 0 = b:=by
 have hl:=List.idxOf_lt_length_of_mem h;simp [List.getD,List.getElem?_eq_getElem hl]
theorem getD_lt {H:Hp} {b:Nat} (h:b < H.length):H[b]? = some (H.getD b .dead):=by
 rw [List.getD_eq_getElem?_getD,List.getElem?_eq_getElem h]; rfl
theorem getD_ge {H:Hp} {b:Nat} (h:H.length <= b):H.getD b .dead = .dead:=by
 rw [List.getD_eq_getElem?_getD,List.getElem?_eq_none h]; rfl
theorem nodup_inj:∀ {l:List Nat},l.Nodup -> ∀ i j,i < l.length -> j < l.length -> l.getD i 0 = l.getD j 0 -> i = j
 | [],_,i,j,hi,_,_=>by simp at hi
 | x :: r,hn,i,j,hi,hj,h=>by
  rw [List.nodup_cons] at hn
  cases i with
  | zero =>
   cases j with
   | zero=>rfl
   | succ j =>
    simp only [List.getD_cons_zero,List.getD_cons_succ] at h;exact absurd (by rw [h,List.getD_eq_getElem?_getD,List.getElem?_eq_getElem (by simpa using hj)]; exact List.getElem_mem _) hn.1
  | succ i =>
   cases j with
   | zero =>
    simp only [List.getD_cons_zero,List.getD_cons_succ] at h;exact absurd (by rw [<- h,List.getD_eq_getElem?_getD,List.getElem?_eq_getElem (by simpa using hi)]; exact List.getElem_mem _) hn.1
   | succ j =>
    simp only [List.getD_cons_succ] at h;rw [nodup_inj hn.2 i j (by simpa using hi) (by simpa using hj) h]
section
variable {P:Program} {ρ:Rho} {D0:Nat -> Prop} {H H':Hp} {w:World} {nb ro:Nat} {N:Nat -> Prop} {W0:Old} {roots roots':List Value} {dirty:List Nat}
theorem gc_sound (hgc:gc nb roots dirty H = some (roots',H')) (h:HOk P ρ (DD D0 nb H.length) H w ro N W0) (hle:nb <= H.length) (hron:ro <= nb)
  (hclean:∀ b,b < nb -> D0 b -> b ∉ dirty -> ∀ cs e,H[b]? = some (.cells cs e) -> ∀ v ∈ cs,∀ i ∈ addrs v,i < nb) (hdirt:∀ b ∈ dirty,b < nb /\ ro <= b)
  (hroots:∀ v ∈ roots,Cl (DD D0 nb H.length) v) :
  nb <= H'.length /\ (∀ b,b < nb -> b ∉ dirty -> H'[b]? = H[b]?) /\ roots'.length = roots.length /\
  ∃ ρ',HOk P ρ' (DD D0 nb H'.length) H' w ro N W0 /\ Agree (fun b=>b < nb /\ D0 b) ρ ρ' /\
   ∀ (i:Nat) (v':Value),roots'[i]? = some v' -> ∃ v,roots[i]? = some v /\ ρ'.val v' = ρ.val v /\ Cl (DD D0 nb H'.length) v':=by
 unfold gc at hgc;simp only [oBe] at hgc;obtain ⟨ord,hord,hgc⟩:=hgc
 split at hgc
 case isFalse=>cases hgc
 rename_i hall
 simp only [List.all_eq_true,decide_eq_true_eq] at hall;simp only [oIq,pIq] at hgc;obtain ⟨rfl,rfl⟩:=hgc;rw [addrsQ_fn] at hord;obtain ⟨o1,o2,_,o4,o5⟩:=reach_facts _ _ _ _ hord (by simp) (by simp) (by simp)
 have hlen:(fixD (renum nb ord) dirty (H.take nb) ++ ord.map fun b=>relocB (renum nb ord) (H.getD b .dead)).length = nb + ord.length:=by
  simp [fixD_length,Nat.min_eq_left hle]
 have hlen':(fixD (renum nb ord) dirty (H.take nb)).length = nb:=by simp [fixD_length,Nat.min_eq_left hle]
 have lowGet:∀ b,b < nb -> (fixD (renum nb ord) dirty (H.take nb) ++ ord.map fun b=>relocB (renum nb ord) (H.getD b .dead))[b]? = if b ∈ dirty then (H[b]?).map (relocB (renum nb ord)) else H[b]?:=fun b hb=>by
  rw [lGl (by rw [hlen']; exact hb),fixD_get,List.getElem?_take,if_pos hb]
 have highGet:∀ j,j < ord.length -> (fixD (renum nb ord) dirty (H.take nb) ++ ord.map fun b=>relocB (renum nb ord) (H.getD b .dead))[nb + j]? = some (relocB (renum nb ord) (H.getD (ord.getD j 0) .dead)):=fun j hj=>by
  rw [lGr (by rw [hlen']; omega),hlen',Nat.add_sub_cancel_left];simp [hj,List.getD]
 rw [hlen];refine ⟨by omega,fun b hb hn=>by rw [lowGet b hb,if_neg hn],by simp,?_⟩
 let ρ':Rho:=⟨fun b=>if b < nb then ρ.blk b else ρ.blk (ord.getD (b - nb) 0),fun b=>if b < nb then ρ.cap b else ρ.cap (ord.getD (b - nb) 0),fun b=>if b < nb then ρ.off b else ρ.off (ord.getD (b - nb) 0)⟩
 have hup:∀ j,ρ'.blk (nb + j) = ρ.blk (ord.getD j 0) /\ ρ'.cap (nb + j) = ρ.cap (ord.getD j 0) /\ ρ'.off (nb + j) = ρ.off (ord.getD j 0):=fun j=>by
  have e1:¬ nb + j < nb:=by omega
  have e2:nb + j - nb = j:=by omega
  simp only [ρ',e1,if_false,e2,and_self]
 have hf:∀ b,(b < nb \/ b ∈ ord) -> ρ'.blk (renum nb ord b) = ρ.blk b /\ ρ'.cap (renum nb ord b) = ρ.cap b /\ ρ'.off (renum nb ord b) = ρ.off b:=fun b hb=>by
  by_cases hbn:b < nb
  ·simp [renum,hbn,ρ']
  ·have hbo:b ∈ ord:=hb.resolve_left hbn
   have e:∀ k,nb + k - nb = k:=fun k=>by omega
   have e2:¬ nb + ord.idxOf b < nb:=by omega
   simp only [renum,hbn,if_false,ρ',e2,e,getD_idxOf hbo,and_self]
 have hval:∀ v,(∀ i ∈ addrs v,i < nb \/ i ∈ ord) -> ρ'.val (reloc (renum nb ord) v) = ρ.val v:=fun v hv=>by
  rw [reloc_eq]; unfold Rho.val;rw [vmap_vmap]
  exact vmap_congr fun b hb=>⟨(hf b (hv b hb)).1,by simp [(hf b (hv b hb)).2.2],fun q=>by rw [(hf b (hv b hb)).2.1]⟩
 have hcl:∀ v,Cl (DD D0 nb H.length) v -> (∀ i ∈ addrs v,i < nb \/ i ∈ ord) -> Cl (DD D0 nb (nb + ord.length)) (reloc (renum nb ord) v):=fun v hc hv b hb=>by
  rw [reloc_eq] at hb;rw [addrs_vmap] at hb;obtain ⟨i,hi,rfl⟩:=List.mem_map.1 hb
  by_cases hin:i < nb
  ·have:renum nb ord i = i:=by simp [renum,hin]
   rw [this]
   rcases hc i hi with h | h
   ·exact .inl h
   ·omega
  ·have hio:=(hv i hi).resolve_left hin
   have:renum nb ord i = nb + ord.idxOf i:=by simp [renum,hin]
   rw [this];exact .inr ⟨by omega,by have:=List.idxOf_lt_length_of_mem hio; omega⟩
 have hvalLow:∀ v,(∀ i ∈ addrs v,i < nb) -> ρ'.val v = ρ.val v:=fun v hv=>vmap_congr fun b hb=>by simp [ρ',hv b hb]
 have hag:Agree (fun b=>b < nb /\ D0 b) ρ ρ':=fun b hb=>by simp [ρ',hb.1]
 have idsOf:∀ b cs e,H[b]? = some (.cells cs e) -> blkIds H b = cs.flatMap addrs:=fun b cs e hk=>by simp [blkIds,hk,addrsQ_fn]
 have moved:∀ b b' k,DD D0 nb H.length b -> H[b]? = some k -> (∀ i ∈ blkIds H b,i < nb \/ i ∈ ord) -> ρ'.blk b' = ρ.blk b -> (ρ'.cap b' = ρ.cap b /\ ρ'.off b' = ρ.off b) -> BlkOk P ρ' (DD D0 nb (nb + ord.length)) w b' (relocB (renum nb ord) k):=fun b b' k hD hk hids hblk hcap=>by
  have hok:=h.at_ hD hk
  cases k with
  | cells cs e =>
   obtain ⟨⟨rest,fr,z,g1,g2,g3,g4⟩,g5⟩:=hok;have hin:∀ v ∈ cs,∀ i ∈ addrs v,i < nb \/ i ∈ ord:=fun v hv i hi=>hids i (by rw [idsOf b cs e hk]; exact List.mem_flatMap.2 ⟨v,hv,hi⟩);refine ⟨⟨rest,fr,z,?_,by simpa using g2,g3,by rw [hcap.1,hcap.2]; simpa using g4⟩,fun v hv=>?_⟩
   ·rw [hblk,g1,List.map_map]
    congr 4
    exact List.map_congr_left fun v hv=>(hval v (hin v hv)).symm
   ·obtain ⟨u,hu,rfl⟩:=List.mem_map.1 hv;exact ⟨hcl u (g5 u hu).1 (hin u hu),by rw [reloc_eq,vmap_oneB]; exact (g5 u hu).2⟩
  | iter s p=>simp only [relocB,BlkOk] at hok ⊢; rw [hblk,hcap.2]; exact hok
  | tab cs=>simp only [relocB,BlkOk] at hok ⊢; rw [hblk,hcap.2]; exact hok
  | view cs e=>simp only [relocB,BlkOk] at hok ⊢; rw [hblk,hcap.1,hcap.2]; exact hok
  | dead=>trivial
 have highD:∀ j,j < ord.length -> ord.getD j 0 < H.length -> DD D0 nb H.length (ord.getD j 0):=fun j hj hl=>.inr ⟨o5 _ (by simp [List.getD,hj]),hl⟩;have relLive:∀ k,relocB (renum nb ord) k ≠ .dead -> k ≠ .dead:=fun k hk e=>hk (by rw [e]; rfl)
 have src:∀ b,DD D0 nb (nb + ord.length) b -> live (fixD (renum nb ord) dirty (H.take nb) ++ ord.map fun b=>relocB (renum nb ord) (H.getD b .dead)) b ->
   ∃ b0,DD D0 nb H.length b0 /\ live H b0 /\ ρ'.blk b = ρ.blk b0 /\ ((b < nb /\ b0 = b) \/ (nb <= b /\ b0 = ord.getD (b - nb) 0 /\ nb <= b0)) /\ (wk (fixD (renum nb ord) dirty (H.take nb) ++ ord.map fun b=>relocB (renum nb ord) (H.getD b .dead)) b -> wk H b0):=fun b hb ⟨k,hk,hkd⟩=>by
  rcases hb with hb | hb
  ·rw [lowGet b hb.1] at hk
   have hwk:wk (fixD (renum nb ord) dirty (H.take nb) ++ ord.map fun b=>relocB (renum nb ord) (H.getD b .dead)) b -> wk H b:=fun ⟨k',hk',hw'⟩=>by
    rw [lowGet b hb.1] at hk'
    split at hk'
    ·cases hh:H[b]? with
     | none=>simp [hh] at hk'
     | some k0=>simp [hh] at hk'; subst hk'; exact ⟨k0,hh,by cases k0 <;> first | rfl | exact hw'⟩
    ·exact ⟨k',hk',hw'⟩
   refine ⟨b,.inl hb,?_,by simp [ρ',hb.1],.inl ⟨hb.1,rfl⟩,hwk⟩
   split at hk
   ·cases hh:H[b]? with
    | none=>simp [hh] at hk
    | some k0=>simp [hh] at hk; subst hk; exact ⟨k0,hh,relLive k0 hkd⟩
   ·exact ⟨k,hk,hkd⟩
  ·obtain ⟨j,rfl⟩:∃ j,b = nb + j:=⟨b - nb,by omega⟩
   have hj:j < ord.length:=by omega
   rw [highGet j hj] at hk
   injection hk with hk
   have hkd':=relLive _ (by rw [hk]; exact hkd)
   have hl:ord.getD j 0 < H.length:=by
    rcases Nat.lt_or_ge (ord.getD j 0) H.length with h | h
    ·exact h
    ·exact absurd (getD_ge h) hkd'
   refine ⟨ord.getD j 0,highD j hj hl,⟨H.getD (ord.getD j 0) .dead,getD_lt hl,hkd'⟩,?_,.inr ⟨by omega,by rw [Nat.add_sub_cancel_left],o5 _ (by simp [List.getD,hj])⟩,fun ⟨k',hk',hw'⟩=>?_⟩
   ·exact (hup j).1
   ·rw [highGet j hj] at hk'
    injection hk' with hk'
    refine ⟨H.getD (ord.getD j 0) .dead,getD_lt hl,?_⟩;rw [<- hk'] at hw'
    cases hq:H.getD (ord.getD j 0) .dead <;> rw [hq] at hw' <;> first | rfl | exact hw'
 refine ⟨ρ',⟨fun b hb=>?_,fun b c hb hc hlb hlc hne hwk=>?_,fun b hb hr hl=>?_,h.base,h.top,h.io⟩,hag,fun i v' hv'=>?_⟩
 ·rcases hb with hb | hb
  ·obtain ⟨k,hk,hok⟩:=h.blk b (.inl hb);rw [lowGet b hb.1]
   by_cases hbd:b ∈ dirty
   ·rw [if_pos hbd,hk];exact ⟨_,rfl,moved b b k (.inl hb) hk (fun i hi=>o2 i (List.mem_append_right _ (List.mem_flatMap.2 ⟨b,hbd,hi⟩))) (by simp [ρ',hb.1]) (by simp [ρ',hb.1])⟩
   ·rw [if_neg hbd];refine ⟨k,hk,?_⟩
    cases k with
    | cells cs e =>
     have hlow:=hclean b hb.1 hb.2 hbd cs e hk;obtain ⟨⟨rest,fr,z,g1,g2,g3,g4⟩,g5⟩:=hok;refine ⟨⟨rest,fr,z,?_,g2,g3,by simp [ρ',hb.1,g4]⟩,fun v hv=>⟨fun i hi=>?_,(g5 v hv).2⟩⟩
     ·simp only [ρ',hb.1,if_true];rw [g1]; congr 4;exact List.map_congr_left fun v hv=>(hvalLow v (hlow v hv)).symm
     ·rcases (g5 v hv).1 i hi with h | h
      ·exact .inl h
      ·have:=hlow v hv i hi; omega
    | iter s p=>simp only [BlkOk] at hok ⊢; simp only [ρ',hb.1,if_true]; exact hok
    | tab cs=>simp only [BlkOk] at hok ⊢; simp only [ρ',hb.1,if_true]; exact hok
    | view cs e=>simp only [BlkOk] at hok ⊢; simp only [ρ',hb.1,if_true]; exact hok
    | dead=>trivial
  ·obtain ⟨j,rfl⟩:∃ j,b = nb + j:=⟨b - nb,by omega⟩
   have hj:j < ord.length:=by omega
   rw [highGet j hj];refine ⟨_,rfl,?_⟩
   rcases Nat.lt_or_ge (ord.getD j 0) H.length with hl | hl
   ·refine moved (ord.getD j 0) (nb + j) _ (highD j hj hl) (getD_lt hl) (fun i hi=>o1 _ (by simp [List.getD,hj]) i hi) (hup j).1 (hup j).2
   ·have:H.getD (ord.getD j 0) .dead = .dead:=getD_ge hl
    rw [this]; trivial
 ·obtain ⟨b0,b1,b2,b3,b4,b6⟩:=src b hb hlb;obtain ⟨c0,c1,c2,c3,c4,c6⟩:=src c hc hlc;rw [b3,c3];refine h.inj b0 c0 b1 c1 b2 c2 (fun e=>hne ?_) (hwk.imp (fun h'=>b6 h') fun h'=>c6 h')
  rcases b4 with ⟨b4,b5⟩ | ⟨b4,b5,b6⟩ <;> rcases c4 with ⟨c4,c5⟩ | ⟨c4,c5,c6⟩
  ·rw [<- b5,<- c5,e]
  ·omega
  ·omega
  ·have hb':b - nb < ord.length:=by rcases hb with hb | hb <;> omega
   have hc':c - nb < ord.length:=by rcases hc with hc | hc <;> omega
   have:=nodup_inj o4 (b - nb) (c - nb) hb' hc' (by rw [<- b5,<- c5,e])
   omega
 ·obtain ⟨b0,b1,b2,b3,b4,_⟩:=src b hb hl;rw [b3];refine h.fresh b0 b1 ?_ b2
  rcases b4 with ⟨_,b5⟩ | ⟨_,_,b6⟩
  ·rw [b5]; exact hr
  ·exact nLt hron b6
 ·rw [List.getElem?_map] at hv';obtain ⟨v,hv,rfl⟩:=oMe.1 hv';have hm:=List.mem_of_getElem? hv;have hin:∀ i ∈ addrs v,i < nb \/ i ∈ ord:=fun i hi=>o2 i (List.mem_append_left _ (List.mem_flatMap.2 ⟨v,hm,hi⟩));exact ⟨v,hv,hval v hin,hcl v (hroots v hm) hin⟩
end
end Go.AM
