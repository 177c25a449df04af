import Derived.Test.YtaadjlpfdajggaaGreatDoorFjAm16
import Derived.Shelf.SlSortCmp.Whole1
import Derived.Shelf.SlSortCmp.NoneTotal
set_option linter.unusedVariables false
set_option linter.unusedSimpArgs false
namespace Go.AM
open Go
def CmpIs (call:CallF) (g:FuncId) (cap:List Value) (H:Hp) (xs:List Int) (cf:Int -> Int -> Int):Prop :=
 ∀ x ∈ xs,∀ y ∈ xs,∃ H2,call H.length g (.int .i64 x :: .int .i64 y :: cap) H = some (.int .i64 (cf x y),H2,[])
structure OrdOn (lt:Int -> Int -> Bool) (xs:List Int):Prop where
 irrefl:∀ x ∈ xs,lt x x = false
 trans:∀ x ∈ xs,∀ y ∈ xs,∀ z ∈ xs,lt x y = true -> lt y z = true -> lt x z = true
 ntrans:∀ x ∈ xs,∀ y ∈ xs,∀ z ∈ xs,lt x y = false -> lt y z = false -> lt x z = false
 anti:∀ x ∈ xs,∀ y ∈ xs,lt x y = false -> lt y x = false -> x = y
def ltC (cf:Int -> Int -> Int) (x y:Int):Bool:=decide (cf x y < 0)
def srt (cf:Int -> Int -> Int) (xs:List Int):List Int:=xs.mergeSort fun x y=>!ltC cf y x
section
variable {P:Program} {ρ ρ':Rho} {D D':Nat -> Prop} {H H':Hp} {w w':World} {ro:Nat} {N:Nat -> Prop} {W0:Old}
theorem HOk.more (h:HOk P ρ D H w ro N W0) (hold:∀ B,B < w.heap.size -> w'.heap[B]? = w.heap[B]?) (hsz:w.heap.size <= w'.heap.size) (hio:Same w w'):HOk P ρ D H w' ro N W0 where
 blk b hb:=by
  obtain ⟨k,hk,h'⟩:=h.blk b hb;exact ⟨k,hk,h'.mono hb (.refl _ _) (fun _ h=>h) fun hd=>hold _ (h'.lt hd)⟩
 inj:=h.inj
 fresh:=h.fresh
 base B hB:=by rw [hold _ (h.top B hB)]; exact h.base B hB
 top B hB:=Nat.lt_of_lt_of_le (h.top B hB) hsz
 io:=h.io.next hio
theorem HOk.reads (h:HOk P ρ D H w ro N W0):HOk P ρ D H w H.length (fun B=>B < w.heap.size) (Old.of w) :=
 ⟨h.blk,h.inj,fun b hb hr _=>by have:=h.lt hb; omega,fun B hB=>rfl,fun B hB=>hB,Io.of w⟩
end
theorem grown_of {w w':World} (hio:Io w' (Old.of w)) (hsz:w.heap.size <= w'.heap.size) (hold:∀ B,B < w.heap.size -> w'.heap[B]? = w.heap[B]?):∃ q os,w' = Go.Sort.grow (w.drewN q) os:=by
 obtain ⟨h1,h2,h3,h4⟩:=hio;refine ⟨w'.drawn - w.drawn,w'.heap.extract w.heap.size w'.heap.size,?_⟩;obtain ⟨heap,tape,drawn,os,out⟩:=w;obtain ⟨heap',tape',drawn',os',out'⟩:=w';simp only [Old.of] at h1 h2 h3 h4;simp only at hsz hold;simp only [Go.Sort.grow,World.drewN,World.mk.injEq];refine ⟨?_,h3,by omega,h1,h2⟩;apply Array.ext_getElem?;intro i;rw [Array.getElem?_append]
 split
 ·rename_i hi; exact hold i hi
 ·rename_i hi
  rw [Array.getElem?_extract]
  split
  ·rw [show heap.size + (i - heap.size) = i by omega]
  ·rename_i hj
   exact Array.getElem?_eq_none (by omega)
section
variable {M:Mach} {call:CallF} {R:Go.Shelf.Ren} {f g:FuncId}
theorem mem_int {xs:List Int}:∀ v ∈ xs.map (Value.int .i64),flat v = true /\ oneB v = true:=by
 intro v hv;obtain ⟨x,_,rfl⟩:=List.mem_map.1 hv;exact ⟨by simp [flat_eq],rfl⟩
theorem mapBlock_at (w:World) (B:Nat) (F:Array Value -> Array Value) {c:Array Value} {e:TypeId} {fr:Nat × Nat} (hb:w.heap[B]? = some (.cells c e fr)):(Go.Sort.mapBlock w B F).heap[B]? = some (.cells (F c) e fr):=by
 simp [Go.Sort.mapBlock,Array.getElem?_modify,hb,Go.Sort.onCells]
theorem mapBlock_ne (w:World) (B:Nat) (F:Array Value -> Array Value) {C:Nat} (h:C ≠ B):(Go.Sort.mapBlock w B F).heap[C]? = w.heap[C]?:=by
 simp [Go.Sort.mapBlock,Array.getElem?_modify,Ne.symm h]
theorem putCells_wrs {α:Type} [Inhabited α] (enc:α -> Value) (off:Nat) (d:Array α) (c:List Value) (h:off + d.size <= c.length) :
  Go.Sort.putCells enc off d c.toArray = (wrs c off (d.toList.map enc)).toArray:=by
 apply Array.ext_getElem?;intro k;simp only [Go.Sort.putCells,Array.getElem?_mapIdx,List.getElem?_toArray,wrs,List.length_map,Array.length_toList]
 by_cases h1:k < off
 ·rw [lAs,lGl (by simp; omega),List.getElem?_take_of_lt h1]
  cases c[k]? with
  | none=>rfl
  | some y=>simp [show ¬ off <= k by omega]
 ·by_cases h2:k < off + d.size
  ·have hc:k < c.length:=by omega
   rw [lAs,lGr (by simp; omega),lGl (by simp; omega)]
   have hk:k - off < d.size:=by omega
   simp only [List.length_take,show min off c.length = off by omega,List.getElem?_map,Array.getElem?_toList,List.getElem?_eq_getElem hc,oMs,Array.getElem?_eq_getElem hk];rw [if_pos ⟨by omega,h2⟩,getElem!_pos d _ hk]
  ·rw [lGr (by simp; omega),List.getElem?_drop];simp only [lLa,List.length_take,List.length_map,Array.length_toList,show min off c.length = off by omega];rw [show off + d.size + (k - (off + d.size)) = k by omega]
   cases c[k]? with
   | none=>rfl
   | some y=>simp [h2]
theorem drop_take_getElem {cs l:List Value} {off:Nat} (h:(cs.drop off).take l.length = l) {j:Nat} (hj:j < l.length):cs[off + j]? = l[j]?:=by
 conv=>rhs; rw [<- h]
 rw [List.getElem?_take_of_lt hj,List.getElem?_drop]
theorem sort_sound (hc:CallOk M call) (L:Go.Proofs.SlLaysF.n6 M.P R) (hf:f < PB) (hg:g < PB) (hfr:R.f 6 = f)
  (eg:∀ args w,(callFunc g args).run M.P w = .ok (.enter g args) w) {ro b off q:Nat} {H:Hp} {cs:List Value} {e:TypeId} {xs:List Int} {cap:List Value} {cf:Int -> Int -> Int}
  (hk:H[b]? = some (.cells cs e)) (hrow:(cs.drop off).take xs.length = xs.map (Value.int .i64)) (hlen:off + xs.length <= cs.length) (hne:xs ≠ []) (hsz:xs.length < 4611686018427387904)
  (hro:ro <= b) (hcmp:CmpIs call g cap (H.set b .dead) xs cf) (hT:OrdOn (ltC cf) xs) :
  PtE M ro f [.slice (some ⟨b,off,none⟩) xs.length q,.func (.func g) #[] cap.toArray] H (.tuple #[]) (H.set b (.cells (wrs cs off ((srt cf xs).map (Value.int .i64))) e)) []:=by
 have hbl:b < H.length:=(lGs.1 hk).1
 let α:={ x:Int // x ∈ xs }
 have hx0:∃ x,x ∈ xs:=List.exists_mem_of_ne_nil _ hne
 letI:Inhabited α:=⟨⟨_,hx0.choose_spec⟩⟩
 let enc:α -> Value:=fun a=>.int .i64 a.1
 let d:Array α:=xs.attach.toArray
 let cfa:α -> α -> Int:=fun a b=>cf a.1 b.1
 have hds:d.size = xs.length:=by simp only [d,List.size_toArray]; exact List.length_attach
 have hdl:d.toList.map enc = xs.map (Value.int .i64):=by
  simp only [d]
  conv=>rhs; rw [<- List.attach_map_subtype_val xs,List.map_map]
  rfl
 have hO:Go.Sort.SWO (Go.Proofs.ltOf cfa):=⟨fun x=>hT.irrefl _ x.2,fun x y z=>hT.trans _ x.2 _ y.2 _ z.2,fun x y z=>hT.ntrans _ x.2 _ y.2 _ z.2⟩
 have hA:∀ x y:α,Go.Proofs.ltOf cfa x y = false -> Go.Proofs.ltOf cfa y x = false -> x = y:=fun x y h1 h2=>Subtype.ext (hT.anti _ x.2 _ y.2 h1 h2);have hsl:(srt cf xs).length = xs.length:=List.length_mergeSort _;have hbit:∀ v ∈ (srt cf xs).map (Value.int .i64),flat v = true /\ oneB v = true:=mem_int;refine ⟨⟨by simp,fun c hcr=>List.getElem?_set_ne (by omega),by simp,?_⟩,fun ρ D w N W0 hok hgl hargs=>?_⟩
 ·intro c hcl _ cs' e' hk'
  by_cases hcb:c = b
  ·subst hcb;simp only [List.getElem?_set_self hbl,oIq,Blk.cells.injEq] at hk';obtain ⟨rfl,rfl⟩:=hk';refine ⟨cs,hk,fun v hv=>?_⟩
   rcases mem_wrs hv with hv | hv
   ·exact .inl hv
   ·exact .inr (hbit v hv).1
  ·rw [List.getElem?_set_ne (Ne.symm hcb)] at hk';exact ⟨cs',hk',fun v hv=>.inl hv⟩
 rw [realF_lt hf];have hDb:D b:=hargs (.slice (some ⟨b,off,none⟩) xs.length q) (by simp) b (by simp [addrs])
 have hcl:∀ v ∈ cap,Cl D v:=fun v hv a ha=>hargs (.func (.func g) #[] cap.toArray) (by simp) a (by
  simp only [addrs,fnAddrs,List.nil_append,List.mem_append,List.mem_flatMap]
  right
  exact ⟨⟨v,by simpa using hv⟩,by simp [hv],ha⟩)
 have hB:=hok.at_ hDb hk;obtain ⟨⟨rest,fr,z,h1,h2,h3,h4⟩,h5⟩:=hB;have hblk:ρ.blk b < w.heap.size:=(Array.getElem?_eq_some_iff.1 h1).1
 have hcsl:(cs.map ρ.val).length = cs.length:=by simp
 have hrow':∀ j,j < xs.length -> (cs.map ρ.val ++ rest)[off + j]? = (xs.map (Value.int .i64))[j]?:=fun j hj=>by
  have hr:=drop_take_getElem (l:=xs.map (Value.int .i64)) (by simpa using hrow) (j:=j) (by simpa using hj);rw [lGl (by simp; omega),List.getElem?_map,hr,List.getElem?_map,List.getElem?_eq_getElem hj];simp [Rho.val_flat (ρ:=ρ) (v:=.int .i64 xs[j]) (by simp [flat_eq])]
 have hH:Go.Sort.Holds enc w (ρ.blk b) off d:=fun j hj=>by
  have hj':j < xs.length:=by omega
  refine ⟨?_,?_⟩
  ·simp only [World.cell?,h1];simp only [Option.isSome_none,bFt,if_false,List.getElem?_toArray,hrow' j hj',List.getElem?_map,List.getElem?_eq_getElem hj',oMs];rw [getElem!_pos d j hj];simp only [enc,d,List.getElem_toArray];rw [List.getElem_attach]
  ·obtain ⟨lo,hi⟩:=fr;simp only [World.frozen?,h1];simp only [free] at h2
   rcases h2 with h2 | h2
   ·simp; omega
   ·simp; omega
 have hcmpL:Go.Proofs.CmpLays1 M.P g (cap.map ρ.val).toArray enc cfa (ρ.blk b) off d.size w:=fun m os dk hs x y=>by
  have hother:∀ C,C < w.heap.size -> C ≠ ρ.blk b -> (Go.Proofs.sortWorld enc w (ρ.blk b) off m dk os).heap[C]? = w.heap[C]?:=fun C hC hne=>by
   unfold Go.Proofs.sortWorld Go.Sort.putRow;rw [Go.Sort.heap_grow_old _ _ (by simpa [Go.Sort.mapBlock] using hC),mapBlock_ne _ _ _ hne]; rfl
  have hok2:HOk M.P ρ D (H.set b .dead) (Go.Proofs.sortWorld enc w (ρ.blk b) off m dk os) (H.set b .dead).length (fun B=>B < (Go.Proofs.sortWorld enc w (ρ.blk b) off m dk os).heap.size) (Old.of (Go.Proofs.sortWorld enc w (ρ.blk b) off m dk os)):=by
   have hkill:=hok.kill b;refine ⟨fun c hc=>?_,hkill.inj,fun c hc hr _=>by have:=hkill.lt hc; omega,fun B hB=>rfl,fun B hB=>hB,Io.of _⟩;obtain ⟨k,hk',h'⟩:=hkill.blk c hc;refine ⟨k,hk',h'.mono hc (.refl _ _) (fun _ h=>h) fun hd=>hother _ (h'.lt hd) ?_⟩
   have hcb:c ≠ b:=fun ecb=>by
    subst ecb;rw [List.getElem?_set_self hbl] at hk'
    injection hk' with hk'
    exact hd hk'.symm
   rw [List.getElem?_set_ne (Ne.symm hcb)] at hk';exact hok.inj c b hc hDb ⟨k,hk',hd⟩ ⟨_,hk,by simp⟩ hcb (.inr ⟨_,hk,rfl⟩)
  obtain ⟨H2,hcall⟩:=hcmp x.1 x.2 y.1 y.2
  have:=(hc _ _ _ _ _ _ _ hcall (Nat.le_refl _)).2 ρ D _ _ _ hok2 hgl (fun a ha=>by
   simp only [List.mem_cons] at ha
   rcases ha with rfl | rfl | ha
   ·exact .flat (by simp [flat_eq])
   ·exact .flat (by simp [flat_eq])
   ·exact hcl a ha)
  rw [realF_lt hg] at this
  have hargs':(List.map ρ.val (.int .i64 x.1 :: .int .i64 y.1 :: cap)).toArray = #[enc x,enc y] ++ (cap.map ρ.val).toArray:=by
   simp [enc,Rho.val_flat (ρ:=ρ) (v:=.int .i64 x.1) (by simp [flat_eq]),Rho.val_flat (ρ:=ρ) (v:=.int .i64 y.1) (by simp [flat_eq])]
  rw [hargs'] at this
  refine this.mono fun e' w' ⟨ρ',he,hk2,_,_⟩=>⟨?_,?_⟩
  ·rw [he.lt hg,Rho.val_flat (by simp [flat_eq])]
  ·refine grown_of hk2.io ?_ fun B hB=>hk2.base B hB
   rcases Nat.eq_zero_or_pos (Go.Proofs.sortWorld enc w (ρ.blk b) off m dk os).heap.size with h0 | h0
   ·omega
   ·have:=hk2.top ((Go.Proofs.sortWorld enc w (ρ.blk b) off m dk os).heap.size - 1) (by omega); omega
 have main:=Go.Proofs.Any.slices_SortFunc L enc (fun _=>rfl) cfa hO g (cap.map ρ.val).toArray (ρ.blk b) off (ρ.cap b - q) d w eg hcmpL hH hblk (by omega);rw [hfr] at main
 have hargs'':([Value.slice (some ⟨b,off,none⟩) xs.length q,.func (.func g) #[] cap.toArray].map ρ.val).toArray = #[.slice (some ⟨ρ.blk b,off,none⟩) d.size (ρ.cap b - q),.func (.func g) #[] (cap.map ρ.val).toArray]:=by
  simp only [List.map_cons,List.map_nil,hds]
  have:ρ.val (.func (.func g) #[] cap.toArray) = .func (.func g) #[] (cap.map ρ.val).toArray:=by
   simp [Rho.val,vmap,fnMap]
  rw [this];simp [Rho.val,vmap]
 rw [hargs'']
 refine main.mono fun e' w' ⟨he,d',n,os,hp,hs,hw⟩=>⟨ρ,.inl ⟨hf,by rw [he,Rho.val_flat (by simp [flat_eq,addrs])]⟩,?_,.refl _ _,.flat (by simp [flat_eq,addrs])⟩
 rw [show (H.set b (Blk.cells (wrs cs off ((srt cf xs).map (Value.int .i64))) e)).length = H.length by simp,Dn_eq];have hl:=Go.Sort.sorted_unique_holds hO hA d d' hp hs
 have hsrt:d'.toList.map enc = (srt cf xs).map (Value.int .i64):=by
  rw [hl]
  have:(xs.attach.mergeSort fun x y=>!Go.Proofs.ltOf cfa y x).map Subtype.val = srt cf xs:=by
   unfold srt;have hm:=List.map_mergeSort (r:=fun x y:α=>!Go.Proofs.ltOf cfa y x) (s:=fun x y=>!ltC cf y x) (f:=Subtype.val) (l:=xs.attach) (fun a _ b _=>rfl);rw [hm,List.attach_map_subtype_val]
  rw [<- this,List.map_map];rfl
 have hd's:d'.size = d.size:=hp.1
 have hmap:(wrs cs off ((srt cf xs).map (Value.int .i64))).map ρ.val = wrs (cs.map ρ.val) off ((srt cf xs).map (Value.int .i64)):=by
  unfold wrs;rw [List.map_append,List.map_append,List.map_take,List.map_drop]
  congr 2
  conv=>rhs; rw [<- List.map_id ((srt cf xs).map (Value.int .i64))]
  exact List.map_congr_left fun v hv=>Rho.val_flat (hbit v hv).1
 have hwl:(wrs cs off ((srt cf xs).map (Value.int .i64))).length = cs.length:=by
  simp [wrs,hsl]; omega
 have hput:(Go.Sort.putRow enc (Go.Sort.ahead w n) (ρ.blk b) off d').heap[ρ.blk b]? = some (.cells ((wrs cs off ((srt cf xs).map (Value.int .i64))).map ρ.val ++ rest).toArray e fr):=by
  unfold Go.Sort.putRow;rw [mapBlock_at _ _ _ (show (Go.Sort.ahead w n).heap[ρ.blk b]? = _ from h1),putCells_wrs enc off d' _ (by simp; omega),hsrt,hmap]
  congr 3
  unfold wrs;simp only [List.length_map,hsl];rw [List.take_append_of_le_length (by simp; omega),List.drop_append_of_le_length (by simp; omega),lAs,lAs,lAs]
 have hset:HOk M.P ρ D (H.set b (.cells (wrs cs off ((srt cf xs).map (Value.int .i64))) e)) (Go.Sort.putRow enc (Go.Sort.ahead w n) (ρ.blk b) off d') ro N W0:=by
  refine hok.set hDb hro hk rfl (by simp) (fun B hB=>by unfold Go.Sort.putRow; rw [mapBlock_ne _ _ _ hB]; rfl) ?_ ⟨rfl,rfl,rfl,Nat.le_add_right _ _⟩;refine ⟨⟨rest,fr,z,hput,by rw [hwl]; exact h2,h3,by rw [hwl]; exact h4⟩,fun v hv=>?_⟩
  rcases mem_wrs hv with hv | hv
  ·exact h5 v hv
  ·exact ⟨.flat (hbit v hv).1,(hbit v hv).2⟩
 subst hw;unfold Go.Proofs.sortWorld;exact hset.more (fun B hB=>Go.Sort.heap_grow_old _ _ hB) (by simp) ⟨rfl,rfl,rfl,Nat.le_refl _⟩
theorem sort_nil {M:Mach} {R:Go.Shelf.Ren} {f:FuncId} (L:Go.Proofs.SlLaysF.n6 M.P R) (hf:f < PB) (hfr:R.f 6 = f) {ro:Nat} {H:Hp} {fv:Value}:PtE M ro f [.slice none 0 0,fv] H (.tuple #[]) H []:=by
 refine ⟨⟨Nat.le_refl _,fun _ _=>rfl,by simp,.refl⟩,fun ρ D w N W0 hok hgl hargs=>?_⟩;have h:=Go.Proofs.AnyF.slices_SortFunc_none (P:=M.P) (ρ:=R) { L with } none 0 (ρ.val fv) w;rw [hfr] at h;rw [realF_lt hf,show ([Value.slice none 0 0,fv].map ρ.val).toArray = #[.slice none 0 0,ρ.val fv] by simp [Rho.val]]
 refine h.mono fun e w' ⟨he,hw⟩=>⟨ρ,.inl ⟨hf,by rw [he,Rho.val_flat (by simp [flat_eq,addrs])]⟩,?_,.refl _ _,.flat (by simp [flat_eq,addrs])⟩
 rw [hw,Dn_eq]; exact hok
end
end Go.AM
