import Derived.Test.YtaadjlpfdajggaaGreatDoorFjAm15
set_option linter.unusedVariables false
set_option linter.unusedSimpArgs false
namespace Go.AM
open Go
def Pt (M:Mach) (ro:Nat) (f:FuncId) (args:List Value) (H:Hp) (v:Value) (H':Hp) (d:List Nat):Prop :=
 CallAm ro H H' d /\ ∀ ρ D w N W0,HOk M.P ρ D H w ro N W0 -> Glob M.P ρ D -> (∀ a ∈ args,Cl D a) -> Calls M.P f (args.map ρ.val).toArray w fun e w' =>
  ∃ ρ',e = .returned (ρ'.val v) /\ HOk M.P ρ' (Dn D H.length H'.length) H' w' ro N W0 /\ Agree D ρ ρ' /\ Cl (Dn D H.length H'.length) v
def PtE (M:Mach) (ro:Nat) (f:FuncId) (args:List Value) (H:Hp) (v:Value) (H':Hp) (d:List Nat):Prop :=
 CallAm ro H H' d /\ ∀ ρ D w N W0,HOk M.P ρ D H w ro N W0 -> Glob M.P ρ D -> (∀ a ∈ args,Cl D a) -> Calls M.P (realF f) (args.map ρ.val).toArray w fun e w' =>
  ∃ ρ',EndsAs f v ρ' e /\ HOk M.P ρ' (Dn D H.length H'.length) H' w' ro N W0 /\ Agree D ρ ρ' /\ Cl (Dn D H.length H'.length) v
theorem Pt.e {M:Mach} {ro:Nat} {f:FuncId} {args:List Value} {H:Hp} {v:Value} {H':Hp} {d:List Nat} (h:Pt M ro f args H v H' d) (hf:f < PB):PtE M ro f args H v H' d:=by
 refine ⟨h.1,fun ρ D w N W0 a b c=>?_⟩;rw [realF_lt hf]
 exact (h.2 ρ D w N W0 a b c).mono fun e w' ⟨ρ',q1,q2⟩=>⟨ρ',.inl ⟨hf,q1⟩,q2⟩
theorem callOk_pt {M:Mach} {call:CallF} (h:∀ ro f args H v H' d,call ro f args H = some (v,H',d) -> ro <= H.length -> PtE M ro f args H v H' d):CallOk M call:=h
def gOf (nb:Nat) (us:List Nat) (b:Nat):Nat:=if b < nb then b else us.getD (b - nb) 0
structure Ends (nb:Nat) (hp:Hp) (u v:Value) (bs:List Blk) (us:List Nat):Prop where
 val:u = vmap (gOf nb us) (fun _=>0) (fun _ q=>q) v
 len:us.length = bs.length
 nodup:us.Nodup
 ge:∀ x ∈ us,nb <= x
 blk:∀ (j:Nat) k,bs[j]? = some k -> ∃ cs e,k = .cells cs e /\ hp[us.getD j 0]? = some (.cells (cs.map (vmap (gOf nb us) (fun _=>0) (fun _ q=>q))) e)
 cl:∀ i ∈ addrs v,i < nb + bs.length
 clB:∀ (j:Nat) cs e,bs[j]? = some (.cells cs e) -> ∀ x ∈ cs,∀ i ∈ addrs x,i < nb + bs.length
def kfun (P:Program) (nb:Nat) (rs:List ResultVar) (v:Value) (bs:List Blk):Exit -> St -> Prop:=fun e s =>
 (e = .ret \/ e = .normal) /\ ∃ vs us,resOf P s.env s.hp rs = some vs /\ Ends nb s.hp (one vs) v bs us
section
variable {P:Program} {ρ:Rho} {D:Nat -> Prop} {H hp:Hp} {w w':World} {ro:Nat} {N:Nat -> Prop} {W0:Old}
theorem getD_mem {l:List Nat} {j:Nat} (h:j < l.length):l.getD j 0 ∈ l:=by
 rw [List.getD_eq_getElem?_getD,List.getElem?_eq_getElem h]; exact List.getElem_mem h
theorem present_new {ρ1:Rho} {u v:Value} {bs:List Blk} {us:List Nat} (h0:HOk P ρ D H w ro N W0) (hro:ro <= H.length)
  (h1:HOk P ρ1 (DD D H.length hp.length) hp w' H.length (fun B=>B < w.heap.size) (Old.of w)) (ha:Agree D ρ ρ1) (he:Ends H.length hp u v bs us) (hu:Cl (DD D H.length hp.length) u) :
  ∃ ρ',ρ1.val u = ρ'.val v /\ HOk P ρ' (Dn D H.length (H ++ bs).length) (H ++ bs) w' ro N W0 /\ Agree D ρ ρ' /\ Cl (Dn D H.length (H ++ bs).length) v:=by
 have hold:∀ B,B < w.heap.size -> w'.heap[B]? = w.heap[B]?:=fun B hB=>h1.base B hB
 have hlen:(H ++ bs).length = H.length + bs.length:=by simp
 rw [hlen]
 let ρ':Rho:=⟨fun b=>ρ1.blk (gOf H.length us b),fun b=>ρ1.cap (gOf H.length us b),fun b=>ρ1.off (gOf H.length us b)⟩
 have hlow:∀ b,D b -> b < H.length:=fun b hb=>h0.lt hb
 have hg:∀ b,b < H.length -> gOf H.length us b = b:=fun b hb=>by simp [gOf,hb]
 have hup:∀ j,gOf H.length us (H.length + j) = us.getD j 0:=fun j=>by
  have:¬ H.length + j < H.length:=by omega
  simp only [gOf,this,if_false,Nat.add_sub_cancel_left]
 have hag:Agree D ρ ρ':=fun b hb=>by
  have:=ha b hb
  simp only [ρ',hg b (hlow b hb)]; exact this
 have hval:∀ x,ρ1.val (vmap (gOf H.length us) (fun _=>0) (fun _ q=>q) x) = ρ'.val x:=fun x=>by
  unfold Rho.val; rw [vmap_vmap]
  exact vmap_congr fun b _=>⟨rfl,Nat.zero_add _,fun _=>rfl⟩
 have hcl:∀ x,Cl (DD D H.length hp.length) (vmap (gOf H.length us) (fun _=>0) (fun _ q=>q) x) -> (∀ i ∈ addrs x,i < H.length + bs.length) -> Cl (Dn D H.length (H.length + bs.length)) x:=fun x hx hb i hi=>by
  have hm:gOf H.length us i ∈ addrs (vmap (gOf H.length us) (fun _=>0) (fun _ q=>q) x):=by rw [addrs_vmap]; exact List.mem_map.2 ⟨i,hi,rfl⟩
  have:=hx _ hm
  by_cases hil:i < H.length
  ·rw [hg i hil] at this
   rcases this with h | h
   ·exact .inl h.2
   ·omega
  ·exact .inr ⟨by omega,hb i hi⟩
 have newB:∀ j,j < bs.length -> ∃ cs e,bs[j]? = some (.cells cs e) /\ hp[us.getD j 0]? = some (.cells (cs.map (vmap (gOf H.length us) (fun _=>0) (fun _ q=>q))) e) /\ H.length <= us.getD j 0 /\ DD D H.length hp.length (us.getD j 0):=fun j hj=>by
  obtain ⟨cs,e,hk,hh⟩:=he.blk j bs[j] (List.getElem?_eq_getElem hj);have hge:=he.ge _ (getD_mem (by rw [he.len]; exact hj));exact ⟨cs,e,by rw [List.getElem?_eq_getElem hj,hk],hh,hge,.inr ⟨hge,(lGs.1 hh).1⟩⟩
 have hcase:∀ b,Dn D H.length (H.length + bs.length) b -> D b \/ ∃ j,j < bs.length /\ b = H.length + j:=fun b hb=>by
  rcases hb with hb | hb
  ·exact .inl hb
  ·exact .inr ⟨b - H.length,by omega,by omega⟩
 have newLive:∀ j,j < bs.length -> live hp (us.getD j 0):=fun j hj=>by
  obtain ⟨cs,e,_,h2,_⟩:=newB j hj;exact ⟨_,h2,by simp⟩
 have newBig:∀ j,j < bs.length -> w.heap.size <= ρ1.blk (us.getD j 0):=fun j hj=>by
  obtain ⟨cs,e,_,h2,h3,h4⟩:=newB j hj
  have:=h1.fresh _ h4 h3 (newLive j hj)
  omega
 have oldGet:∀ b,b < H.length -> (H ++ bs)[b]? = H[b]?:=fun b hb=>lGl hb
 have newGet:∀ j,(H ++ bs)[H.length + j]? = bs[j]?:=fun j=>by rw [lGr (by omega),Nat.add_sub_cancel_left]
 have oldLive:∀ b,b < H.length -> live (H ++ bs) b -> live H b:=fun b hb ⟨k,hk,hd⟩=>⟨k,by rwa [oldGet b hb] at hk,hd⟩
 have oldSmall:∀ b,D b -> live H b -> ρ.blk b < w.heap.size:=fun b hb ⟨k,hk,hd⟩=>(h0.at_ hb hk).lt hd;refine ⟨ρ',by rw [he.val,hval],⟨fun b hb=>?_,fun b c hb hc hlb hlc hne hwk=>?_,fun b hb hr hl=>?_,fun B hB=>?_,fun B hB=>?_,?_⟩,hag,?_⟩
 ·rcases hcase b hb with hd | ⟨j,hj,rfl⟩
  ·obtain ⟨k,hk,hok⟩:=h0.blk b hd;exact ⟨k,by rw [oldGet b (hlow b hd)]; exact hk,hok.mono hd hag (fun _ h=>.inl h) fun hkd=>hold _ (hok.lt hkd)⟩
  ·obtain ⟨cs,e,g1,g2,g3,g4⟩:=newB j hj;refine ⟨_,by rw [newGet]; exact g1,?_⟩;have hok:=h1.at_ g4 g2;obtain ⟨⟨rest,fr,z,k1,k2,k3,k4⟩,k5⟩:=hok;refine ⟨⟨rest,fr,z,?_,by simpa using k2,k3,?_⟩,fun x hx=>?_⟩
   ·simp only [ρ',hup];rw [k1,List.map_map]
    congr 4
    exact List.map_congr_left fun x _=>hval x
   ·simp only [ρ',hup]; simpa using k4
   ·have:=k5 _ (List.mem_map.2 ⟨x,hx,rfl⟩)
    exact ⟨hcl x this.1 (he.clB j cs e g1 x hx),by rw [<- this.2,vmap_oneB]⟩
 ·rcases hcase b hb with hd | ⟨i,hi,rfl⟩ <;> rcases hcase c hc with hd' | ⟨j,hj,rfl⟩
  ·rw [(hag b hd).1,(hag c hd').1];exact h0.inj b c hd hd' (oldLive b (hlow b hd) hlb) (oldLive c (hlow c hd') hlc) hne (hwk.imp (fun h'=>h'.to (oldGet b (hlow b hd)).symm) fun h'=>h'.to (oldGet c (hlow c hd')).symm)
  ·rw [(hag b hd).1];have h1:=oldSmall b hd (oldLive b (hlow b hd) hlb);have h2:=newBig j hj;simp only [ρ',hup];omega
  ·rw [(hag c hd').1];have h1:=oldSmall c hd' (oldLive c (hlow c hd') hlc);have h2:=newBig i hi;simp only [ρ',hup];omega
  ·simp only [ρ',hup];obtain ⟨_,_,_,_,_,g4⟩:=newB i hi;obtain ⟨_,_,_,_,_,g4'⟩:=newB j hj;exact h1.inj _ _ g4 g4' (newLive i hi) (newLive j hj) (fun e=>hne (by rw [nodup_inj he.nodup i j (by rw [he.len]; exact hi) (by rw [he.len]; exact hj) e])) (.inl (by obtain ⟨cs,e,_,h2,_⟩:=newB i hi; exact ⟨_,h2,rfl⟩))
 ·rcases hcase b hb with hd | ⟨j,hj,rfl⟩
  ·rw [(hag b hd).1]; exact h0.fresh b hd hr (oldLive b (hlow b hd) hl)
  ·simp only [ρ',hup]
   exact fun hN=>by have:=h0.top _ hN; have:=newBig j hj; omega
 ·rw [hold B (h0.top B hB)]; exact h0.base B hB
 ·have h2:=h1.top (w.heap.size - 1);have h3:=h0.top B hB
  have:=h2 (by omega)
  omega
 ·exact h0.io.trans h1.io
 ·exact hcl v (by rw [<- he.val]; exact hu) he.cl
theorem pt_new {M:Mach} (hM:MachOk M) {f:FuncId} {af:AFun} {args:List Value} {H:Hp} {v:Value} {bs:List Blk} (hf:M.F f = some af) (hnt:args.length <= af.nt)
  (h:∀ c:Ctx,c.nt = af.nt -> c.nb = H.length -> c.ro = H.length -> Tk M c af.body (kfun M.P H.length af.results v bs) ⟨args0 args,H,[]⟩) {ro:Nat} (hro:ro <= H.length) (hgo:isGo af.body = false:=by exact rfl):Pt M ro f args H v (H ++ bs) []:=by
 refine ⟨⟨by simp,fun b hb=>lGl (by omega),by simp,fun b hb _ cs e hk=>⟨cs,by rwa [lGl hb] at hk,fun v hv=>.inl hv⟩⟩,fun ρ D w N W0 hok hglob hargs=>?_⟩;obtain ⟨fn,code,hint,f1,f2,f3,f4,f5,f6⟩:=(hM.F f af hf).ok
 replace f6:conv M.P af.nt code hint = some af.body:=f6.elim id fun hg=>by rw [hgo] at hg; cases hg
 have hDD:DD D H.length H.length = D:=by
  funext b; apply propext
  constructor
  ·rintro (h | h)
   ·exact h.2
   ·omega
  ·exact fun h=>.inl ⟨hok.lt h,h⟩
 let c:Ctx:=⟨af.nt,D,H.length,H.length,fun B=>B < w.heap.size,Old.of w,ρ,[]⟩
 have hok':HOk M.P ρ D H w H.length (fun B=>B < w.heap.size) (Old.of w) :=
  ⟨hok.blk,hok.inj,fun b hb hr=>by have:=hok.lt hb; omega,fun B _=>rfl,fun B hB=>hB,Io.of w⟩
 have hsz:(args.map ρ.val).toArray.size = args.length:=by simp
 have hrel:SRel M.P c ρ ⟨args0 args,H,[]⟩ { tmps:=(args.map ρ.val).toArray ++ Array.replicate (fn.ntmps - (args.map ρ.val).toArray.size) undef,defers:=[] } w:=by
  refine ⟨by simp only [c,hDD]; exact hok',fun t u hu=>?_,Nat.le_refl _,Nat.le_refl _,fun b hb hD hn cs e hk u hu i hi=>?_,by simp,?_,rfl,.refl _ _,fun g hg=>?_⟩
  ·have hu':look ((List.range' 0 args.length).zip args) t = some u:=by simpa [args0,List.range_eq_range'] using hu
   obtain ⟨_,h2⟩:=look_args hu';simp only [Nat.sub_zero] at h2;refine ⟨?_,?_⟩
   ·have ht:=(lGs.1 h2).1;rw [Array.getElem?_append_left (by simpa using ht)];simp [h2]
   ·simp only [c,hDD]; exact hargs u (List.mem_of_getElem? h2)
  ·exact hok.lt (((hok.at_ hD hk).2 u hu).1 i hi)
  ·simp only [c,Array.size_append,Array.size_replicate,hsz,f4]; omega
  ·exact ⟨hok.lt (hglob g hg).1,(hglob g hg).1,(hglob g hg).2⟩
 refine calls_of_wp f1 f3 (wp_mono (h c rfl rfl rfl code hint f6 ρ _ w hrel) fun e a' w' ⟨s,ρ1,q,_,he,vs,us,hvs,hend⟩=>?_);have hres:=run_resOf q.hok q.env hvs;have hcl:Cl (DD D H.length s.hp.length) (one vs):=one_cl hres.2;obtain ⟨ρ2,k1,k2,k3,k4⟩:=present_new hok hro q.hok (fun b hb=>q.agree b ⟨hok.lt hb,hb⟩) hend hcl
 have hrun:(results fn a'.tmps).run M.P w' = .ok (ρ2.val v) w':=by
  unfold results
  have:fn.results = af.results.toArray:=by rw [<- f5]
  rw [this];have hres':=hres.1;simp only [List.mapM_toArray,Sem.run_bind,Sem.run_map,Sem.run_pure];refine Eq.trans (congrArg (fun r:Result (List Value)=>(r.andThen fun a w'=>Result.ok a.toArray w').andThen fun (a:Array Value) w'=>Result.ok (if h:a.size = 1 then a[0] else .tuple a) w') hres') ?_;refine (congrArg (Result.ok · w') (one_rel ρ1 vs)).trans ?_;rw [k1]
 have hpost:a'.defers = [] /\ ∃ u,(results fn a'.tmps).run M.P w' = .ok u w' /\ ∃ ρ',Ending.returned u = .returned (ρ'.val v) /\ HOk M.P ρ' (Dn D H.length (H ++ bs).length) (H ++ bs) w' ro N W0 /\ Agree D ρ ρ' /\ Cl (Dn D H.length (H ++ bs).length) v :=
  ⟨q.defs,_,hrun,ρ2,rfl,k2,k3,k4⟩
 rcases he with rfl | rfl <;> exact hpost
end
end Go.AM
