import Derived.Test.YtaadjlpfdajggaaGreatDoorFjAm17
set_option linter.unusedVariables false
set_option linter.unusedSimpArgs false
namespace Go.AM
open Go
structure Co where
 f:FuncId
 X:Type
 R:Type
 rd:Nat -> Hp -> List Value -> X -> Prop
 inj:∀ ro H args x y,rd ro H args x -> rd ro H args y -> x = y
 m:Nat -> X -> Option R
 lay:R -> List Value -> Hp -> Value × Hp
open Classical in
noncomputable def Co.ans (k:Co) (n ro:Nat) (H:Hp) (args:List Value):Option (Value × Hp) :=
 if h:∃ r,∃ x,k.rd ro H args x /\ k.m n x = some r then some (k.lay h.choose args H) else none
theorem Co.ans_eq {k:Co} {n ro:Nat} {H:Hp} {args:List Value} {x:k.X} {r:k.R} (h:k.rd ro H args x) (hm:k.m n x = some r):k.ans n ro H args = some (k.lay r args H):=by
 have hex:∃ r,∃ x,k.rd ro H args x /\ k.m n x = some r:=⟨r,x,h,hm⟩
 unfold Co.ans;rw [dif_pos hex];obtain ⟨y,hy,hr⟩:=hex.choose_spec
 have:=k.inj ro H args x y h hy
 subst this;rw [hm] at hr
 injection hr with hr
 rw [<- hr]
noncomputable def tabC (T:FuncId -> Option Co) (n:Nat):CallF:=fun ro f args H=>(T f).bind fun k=>(k.ans n ro H args).map fun r=>(r.1,r.2,[])
def Ans (call:CallF) (k:Co) (n:Nat):Prop:=∀ ro H args x r,k.rd ro H args x -> k.m n x = some r -> call ro k.f args H = some ((k.lay r args H).1,(k.lay r args H).2,[])
theorem ans_tab {T:FuncId -> Option Co} {n:Nat} {k:Co} (h:T k.f = some k):Ans (tabC T n) k n:=fun ro H args x r hx hm=>by
 simp only [tabC,h,Option.bind_some,Co.ans_eq hx hm,Option.map_some]
def Holds1 (M:Mach) (k:Co) (n:Nat):Prop:=∀ ro H args x r,k.rd ro H args x -> k.m n x = some r -> ro <= H.length -> PtE M ro k.f args H (k.lay r args H).1 (k.lay r args H).2 []
theorem tab_ok {M:Mach} {T:FuncId -> Option Co} (hT:∀ f k,T f = some k -> k.f = f) {n:Nat} (h:∀ f k,T f = some k -> Holds1 M k n):CallOk M (tabC T n):=by
 refine callOk_pt fun ro f args H v H' d hc hro=>?_;unfold tabC at hc
 cases hk:T f with
 | none=>simp [hk] at hc
 | some k =>
  simp only [hk,Option.bind_some,Option.map_eq_some_iff,Prod.mk.injEq,Prod.exists] at hc;obtain ⟨v',H'',ha,rfl,rfl,rfl⟩:=hc;have hf:=hT f k hk;subst hf;unfold Co.ans at ha
  split at ha
  ·rename_i hex
   obtain ⟨x,hx,hm⟩:=hex.choose_spec
   injection ha with ha
   have:=h _ k hk ro H args x _ hx hm hro
   rw [ha] at this;exact this
  ·cases ha
theorem all_ok {M:Mach} {T:FuncId -> Option Co} (hT:∀ f k,T f = some k -> k.f = f) (h0:∀ f k,T f = some k -> ∀ x,k.m 0 x = none)
  (h:∀ n,CallOk M (tabC T n) -> ∀ f k,T f = some k -> Holds1 M k (n + 1)):∀ n,CallOk M (tabC T n)
 | 0=>tab_ok hT fun f k hk ro H args x r _ hm=>by rw [h0 f k hk x] at hm; cases hm
 | n + 1=>tab_ok hT (h n (all_ok hT h0 h n))
theorem gOf_0 {nb u:Nat} {us:List Nat}:gOf nb (u :: us) nb = u:=by simp [gOf]
theorem ends_flat {nb:Nat} {hp:Hp} {u:Value} (h:flat u = true):Ends nb hp u u [] [] where
 val:=(vmap_flat h).symm
 len:=rfl
 nodup:=by simp
 ge:=by simp
 blk:=by simp
 cl:=fun i hi=>by rw [show addrs u = [] by simpa [flat_eq] using h] at hi; cases hi
 clB:=by simp
theorem flat_map {f:Nat -> Nat} {cs:List Value} (h:∀ x ∈ cs,flat x = true):cs.map (vmap f (fun _=>0) (fun _ q=>q)) = cs:=by
 conv=>rhs; rw [<- List.map_id cs]
 exact List.map_congr_left fun x hx=>vmap_flat (h x hx)
theorem ends_one {nb b:Nat} {hp:Hp} {u v:Value} {cs:List Value} {e:TypeId} (hb:nb <= b) (hk:hp[b]? = some (.cells cs e)) (hc:∀ x ∈ cs,flat x = true)
  (hv:u = vmap (gOf nb [b]) (fun _=>0) (fun _ q=>q) v) (ha:∀ i ∈ addrs v,i <= nb):Ends nb hp u v [.cells cs e] [b] where
 val:=hv
 len:=rfl
 nodup:=by simp
 ge:=by simpa using hb
 blk:=fun j k hj=>by
  match j,hj with
  | 0,hj =>
   simp only [List.getElem?_cons_zero,Option.some.injEq] at hj; subst hj;exact ⟨cs,e,rfl,by rw [flat_map hc]; simpa using hk⟩
  | j + 1,hj=>simp at hj
 cl:=fun i hi=>by have:=ha i hi; simp; omega
 clB:=fun j cs' e' hj x hx i hi=>by
  match j,hj with
  | 0,hj =>
   simp only [List.getElem?_cons_zero,Option.some.injEq,Blk.cells.injEq] at hj;obtain ⟨rfl,rfl⟩:=hj;rw [show addrs x = [] by simpa [flat_eq] using hc x hx] at hi; cases hi
  | j + 1,hj=>simp at hj
theorem fm_nil:∀ u ∈ ([]:List Value),flat u = true:=by simp
theorem fm_cons {v:Value} {l:List Value} (h:flat v = true) (h':∀ u ∈ l,flat u = true):∀ u ∈ v :: l,flat u = true:=by
 intro u hu
 rcases List.mem_cons.1 hu with rfl | hu
 ·exact h
 ·exact h' u hu
theorem flat_one {vs:List Value} (h:∀ u ∈ vs,flat u = true):flat (one vs) = true:=by
 have:∀ i ∈ addrs (one vs),False:=one_cl (D:=fun _=>False) fun v hv=>.flat (h v hv)
 rw [flat_eq]
 cases ha:addrs (one vs) with
 | nil=>rfl
 | cons x l=>exact (this x (by rw [ha]; simp)).elim
theorem end_flat {P:Program} {nb:Nat} {rs:List ResultVar} {s:St} {e:Exit} {vs:List Value} (he:e = .ret \/ e = .normal) (hr:resOf P s.env s.hp rs = some vs) (hf:∀ u ∈ vs,flat u = true):kfun P nb rs (one vs) [] e s :=
 ⟨he,vs,[],hr,ends_flat (flat_one hf)⟩
theorem resT {P:Program} {σ:Env} {H:Hp} {t:Nat} {r:List ResultVar} {v:Value} (h:look σ t = some v):resOf P σ H (.tmp t :: r) = (resOf P σ H r).bind fun vs=>some (v :: vs):=by simp only [resOf,h,Option.bind_some]
theorem resC {P:Program} {σ:Env} {H:Hp} {t b:Nat} {ty:TypeId} {r:List ResultVar} {v:Value} (h:look σ t = some (.pointer (some ⟨b,0,none⟩))) (hl:ldVar P H ty ⟨b,0,none⟩ = some v):resOf P σ H (.cell t ty :: r) = (resOf P σ H r).bind fun vs=>some (v :: vs):=by simp only [resOf,h,hl,Option.bind_some]
theorem resN {P:Program} {σ:Env} {H:Hp}:resOf P σ H [] = some []:=rfl
theorem resT' {P:Program} {σ:Env} {H:Hp} {t:Nat} {r:List ResultVar} {v:Value} {vs:List Value} (h:look σ t = some v) (hr:resOf P σ H r = some vs):resOf P σ H (.tmp t :: r) = some (v :: vs):=by rw [resT h,hr]; rfl
theorem resC' {P:Program} {σ:Env} {H:Hp} {t b:Nat} {ty:TypeId} {r:List ResultVar} {v:Value} {vs:List Value} (h:look σ t = some (.pointer (some ⟨b,0,none⟩))) (hl:ldVar P H ty ⟨b,0,none⟩ = some v) (hr:resOf P σ H r = some vs):resOf P σ H (.cell t ty :: r) = some (v :: vs):=by rw [resC h hl,hr]; rfl
theorem ldv_of {M:Mach} {H:Hp} {b:Nat} {t:TypeId} {v:Value} (h:ldP M H t (.pointer (some ⟨b,0,none⟩)) = some (.val v,H)):ldVar M.P H t ⟨b,0,none⟩ = some v:=by
 simp only [ldP,on1,opA,ev0] at h
 simpa using h
end Go.AM
