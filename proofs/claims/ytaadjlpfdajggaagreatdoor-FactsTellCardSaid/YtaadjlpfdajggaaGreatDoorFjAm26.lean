import Derived.Test.YtaadjlpfdajggaaGreatDoorFjAm22
import Derived.Test.YtaadjlpfdajggaaGreatDoorFjAm23
import Derived.Test.YtaadjlpfdajggaaGreatDoorFjAm13
import Derived.ScopeJumps
set_option linter.unusedVariables false
set_option linter.unusedSimpArgs false
namespace Go.AM
open Go
def mkP (M:Mach) (H:Hp) (t:TypeId) (u v:Value):Option (R1 × Hp):=on2 M 0 0 H (.makeSlice t (.tmp 0) (.tmp 1)) u v
def mfP (H:Hp) (fn:Fn) (f c:List Value):Option (R1 × Hp) :=
 match fn with
 | .yield _=>none
 | fn=>some (.val (.func fn f.toArray c.toArray),H)
def clP (M:Mach) (H:Hp) (fv:Value) (vs:List Value):Option (R1 × Hp) :=
 match fv with
 | .func (.func g) f c =>
  match M.F g with
  | some _=>some (.enter g (f.toList ++ vs ++ c.toList),H)
  | none =>
   match M.X g with
   | some ex=>if (f.toList ++ vs ++ c.toList).all flat then (flatten1 (ex (f.toList ++ vs ++ c.toList))).map fun v=>(.val v,H) else none
   | none=>none
 | _=>none
def Sl.copy {α:Type} (x y:Sl α):Sl α:=x.map fun l=>(Sl.l y).take l.length ++ l.drop (Sl.l y).length
section
variable {M:Mach} {nb ro:Nat} {σ:Env} {H:Hp} {ty t:TypeId} {x y:Operand}
theorem o_makeSlice:opA M σ nb ro H ty (.makeSlice t x y) = (ev σ x).bind fun u=>(ev σ y).bind fun v=>mkP M H t u v:=by
 simp only [mkP,on2,opA,ev0,ev1]
 cases ev σ x with
 | none=>cases M.P.underlying t <;> simp
 | some u=>cases ev σ y with
  | none=>cases M.P.underlying t <;> simp
  | some v=>rfl
theorem o_makeFunc {g:FuncId} {f c:Array Operand}:opA M σ nb ro H ty (.makeFunc (.func g) f c) = (evs σ f.toList).bind fun f=>(evs σ c.toList).bind fun c=>mfP H (.func g) f c:=by
 simp only [opA,mfP]
theorem mf_ok {g:FuncId} {f c:List Value}:mfP H (.func g) f c = some (.val (.func (.func g) f.toArray c.toArray),H):=rfl
theorem c_cl {k:Nat} {args:Array Operand} {ts:Array TypeId}:callA M σ nb ro H ty { callee:=.value (.tmp k),args:=args,argTypes:=ts } = (ev σ (.tmp k)).bind fun fv=>(evs σ args.toList).bind fun vs=>clP M H fv vs:=by
 simp only [callA]
 cases h:evs σ args.toList with
 | none=>simp
 | some vs =>
  simp only [oBs]
  cases h':ev σ (.tmp k) with
  | none=>rfl
  | some fv =>
   simp only [oBs]
   cases fv with
   | func fn f c=>cases fn <;> rfl
   | _=>rfl
theorem cl_fn {g:FuncId} {f c:Array Value} {vs:List Value} (h:(M.F g).isSome = true):clP M H (.func (.func g) f c) vs = some (.enter g (f.toList ++ vs ++ c.toList),H):=by
 obtain ⟨af,h⟩:=Option.isSome_iff_exists.1 h;simp only [clP,h]
end
section
variable {M:Mach} {H H0:Hp} {r b:Nat} {t e:TypeId}
theorem mk_ok (H:Hp) {α:Type} {c:α -> List Value} {a:α} {w:Nat} {k k':IntKind} {n m:Int} {x:Sl α} (hr:r <= H.length) (ht:M.P.underlying t = some (.slice e)) (hw:bytesO M.P e = some w) (hz:zc M.P e = some (c a)) (he:Sl.make w n m a = some x) :
  ∃ b H',mkP M H t (.int k n) (.int k' m) = some (.val (slV x b),H') /\ SlO r H' c e x b /\ b = H.length /\ r <= b /\ Ex H H' /\ (∀ X H0,Iv r X H0 H -> Iv r X H0 H'):=by
 unfold Sl.make at he
 split at he
 case isFalse=>cases he
 rename_i hc
 injection he with he; subst he
 have hfl:(List.replicate n.toNat (c a)).flatten = (List.replicate n.toNat a).flatMap c:=by
  rw [List.flatMap_def,List.map_replicate]
 refine ⟨H.length,H ++ [.cells ((List.replicate n.toNat (c a)).flatten) e],?_,fun l hl=>?_,rfl,hr,ex_app,fun _ _ h=>h.app⟩
 ·simp only [mkP,on2,opA,ev0,ev1,ht,hw,oBs,hz,oMs,slV,List.length_replicate];rw [if_pos hc]
 ·injection hl with hl; subst hl
  exact ⟨hr,by rw [<- hfl]; simp⟩
theorem sl_upto {α:Type} {c:α -> List Value} {x y:Sl α} {z:Nat} {k:IntKind} {h:Int} (ht:M.P.underlying t = some (.slice e)) (hz:szO M.P e = some z) (z0:0 < z) (hc:∀ a,(c a).length = z) (hs:SlH H c e x b) (he:Sl.upto x h = some y) :
  slP M H t (slV x b) none (some (.int k h)) = some (.val (slV y b),H):=by
 unfold Sl.upto at he
 split at he
 case isFalse=>cases he
 rename_i hh
 injection he with he
 cases x with
 | none =>
  simp only [Option.map_none] at he; subst he
  have h0:h = 0:=by have:=hh.2; simp only [Sl.len,Sl.l,List.length_nil] at this; omega
  subst h0;simp [slP,slV,sliceA,ht,hz]
 | some l =>
  simp only [oMs] at he; subst he;obtain ⟨more,hk⟩:=hs l rfl;have hl:h <= (l.length:Int):=hh.2
  have hle:h.toNat * z <= l.length * z:=Nat.mul_le_mul_right z (by omega)
  have hfl:=flatMap_len hc l
  rcases hk.eq with hk | hk
  ·simp only [slP,slV,sliceA,ht,hk,hz,Option.isSome_none,bFt,if_false,Nat.zero_mul,true_and,lLa,hfl];rw [if_pos ⟨z0,Int.le_refl 0,hh.1,by omega⟩];simp [Nat.min_eq_left (show h.toNat <= l.length by omega)]
  ·simp only [slP,slV,sliceA,ht,hk,hz,Option.isSome_none,bFt,if_false,Nat.zero_mul,true_and,lLa,hfl];rw [if_pos ⟨z0,hh.1,by omega⟩];simp [Nat.min_eq_left (show h.toNat <= l.length by omega)]
theorem SlH.upto {α:Type} {c:α -> List Value} {x y:Sl α} {h:Int} (hs:SlH H c e x b) (he:Sl.upto x h = some y):SlH H c e y b:=by
 unfold Sl.upto at he
 split at he
 case isFalse=>cases he
 injection he with he; subst he
 cases x with
 | none=>exact fun _ h=>by cases h
 | some l =>
  intro l' hl;simp only [oMs,oIq] at hl; subst hl;obtain ⟨more,hk⟩:=hs l rfl;refine ⟨(l.drop h.toNat).flatMap c ++ more,?_⟩;rw [<- lAs,<- List.flatMap_append,List.take_append_drop];exact hk
theorem Sl.upto_none {α:Type} {x y:Sl α} {h:Int} (he:Sl.upto x h = some y):y ≠ none -> x ≠ none:=by
 unfold Sl.upto at he
 split at he
 case isFalse=>cases he
 injection he with he; subst he
 cases x <;> simp
theorem bd_wr {α:Type} {x:Sl α} (hz:zc M.P t = some [.slice none 0 0]) (hp:plO M.P t = some [(0,1)]):bdP M H t [(0,slV x b)] = some (.val (vAgg [slV x b]),H) :=
 bd_struct hz hp (by cases x <;> rfl)
theorem one_sl {α:Type} {x:Sl α}:∀ v ∈ [slV x b],oneB v = true:=by
 intro v hv;simp only [List.mem_singleton] at hv; subst hv
 cases x <;> rfl
theorem one_v {v:Value} (h:oneB v = true):∀ u ∈ [v],oneB u = true:=by
 intro u hu; simp only [List.mem_singleton] at hu; subst hu; exact h
theorem cells_sl {α:Type} {x:Sl α}:(slV x b).cells.toList = [slV x b]:=by cases x <;> rfl
end
section
variable {P:Program} {nb b:Nat} {rs:List ResultVar} {s:St} {e':Exit}
theorem VmL.app {us:List Nat} {l m l' m':List Value} (h:VmL nb us l m) (h':VmL nb us l' m'):VmL nb us (l ++ l') (m ++ m'):=by
 induction h with
 | nil=>exact h'
 | cons h _ ih=>exact .cons h ih
theorem nin_slU {α:Type} {x:Sl α} {b1 b2:Nat} (h:x ≠ none -> b1 ≠ b2):b1 ∉ slU x b2 ++ []:=by
 cases x with
 | none=>simp [slU]
 | some l=>simpa [slU] using h (by simp)
theorem end_sl2 {α β:Type} {c:α -> List Value} {d:β -> List Value} {e e2:TypeId} {x:Sl α} {y:Sl β} {z w b2:Nat} (he:e' = .ret \/ e' = .normal) (hs:SlO nb s.hp c e x b) (hc:Enc c z) (hs2:SlO nb s.hp d e2 y b2) (hd:Enc d w)
  (hn:x ≠ none -> y ≠ none -> b ≠ b2) (hr:resOf P s.env s.hp rs = some [slV x b,slV y b2]):kfun P nb rs (one [slV x nb,slV y (nb + (slB c e x).length)]) (slB c e x ++ slB d e2 y) e' s:=by
 have h:=end_slots he hr (slots_cons hs hc (slots_cons hs2 hd slots_nil (by simp)) (fun hx=>nin_slU fun hy=>hn hx hy)) (.cons (vm_sl (pre:=[]) rfl) (.cons (vm_sl (pre:=slU x b) (k:=(slB c e x).length) (slU_len (c:=c) (e:=e))) .nil))
 rwa [List.append_nil] at h
theorem end_old {vs:List Value} (he:e' = .ret \/ e' = .normal) (hr:resOf P s.env s.hp rs = some vs) (ha:∀ v ∈ vs,∀ i ∈ addrs v,i < nb):kfun P nb rs (one vs) [] e' s:=by
 refine end_slots he hr slots_nil ?_
 clear hr
 induction vs with
 | nil=>exact .nil
 | cons v l ih =>
  refine .cons ⟨?_,fun i hi=>by simpa using ha v (by simp) i hi⟩ (ih fun u hu=>ha u (by simp [hu]))
  conv=>lhs; rw [<- vmap_id v]
  exact vmap_congr fun i hi=>⟨by simp [gOf,ha v (by simp) i hi],rfl,fun _=>rfl⟩
theorem slV_lt {α:Type} {x:Sl α} (h:x ≠ none -> b < nb):∀ i ∈ addrs (slV x b),i < nb:=by
 cases x with
 | none=>simp [slV]
 | some l=>simpa [slV] using h (by simp)
theorem slB_own2 {α β:Type} {c:α -> List Value} {d:β -> List Value} {e e2:TypeId} {x:Sl α} {y:Sl β} {r:Nat} {H:Hp} (hr:r <= H.length):SlO r (H ++ (slB c e x ++ slB d e2 y)) c e x H.length /\ SlO r (H ++ (slB c e x ++ slB d e2 y)) d e2 y (H.length + (slB c e x).length):=by
 rw [<- lAs];refine ⟨(slB_own hr).ex ex_app,?_⟩
 have:=slB_own (H:=H ++ slB c e x) (c:=d) (e:=e2) (x:=y) (r:=r) (by simp; omega)
 rwa [lLa] at this
theorem slB_ne {α β:Type} {c:α -> List Value} {e:TypeId} {x:Sl α} {y:Sl β} {H:Hp}:x ≠ none -> y ≠ none -> H.length ≠ H.length + (slB c e x).length:=by
 intro hx _
 cases x with
 | none=>exact absurd rfl hx
 | some l=>simp [slB]
end
theorem sl_some {α:Type} {x:Sl α} {j:Nat} (h:j < (Sl.l x).length):x ≠ none:=by
 cases x with
 | none=>simp [Sl.l] at h
 | some l=>simp
structure UpS (p:Prop) (b:Nat) (H H':Hp):Prop where
 len:H'.length = H.length
 old:∀ x,(p -> x ≠ b) -> H'[x]? = H[x]?
section
variable {p:Prop} {b:Nat} {H H':Hp}
theorem UpS.get (u:UpS p b H H') (x:Nat) (hn:p -> b ≠ x) {k:Blk} (hk:H[x]? = some k):H'[x]? = some k:=(u.old x fun h=>(hn h).symm).trans hk
theorem Iv.upS {r:Nat} {X:List Nat} {H0:Hp} (h:Iv r X H0 H) (u:UpS p b H H') (hb:p -> r <= b):Iv r X H0 H' :=
 ⟨by have:=h.le; rw [u.len]; exact this,fun x hx hX=>by rw [u.old x fun hp=>by have:=hb hp; omega]; exact h.old x hx hX⟩
theorem SlO.own {α:Type} {r:Nat} {c:α -> List Value} {e:TypeId} {x:Sl α} (h:SlO r H c e x b) (hx:x ≠ none):r <= b:=by
 cases x with
 | none=>exact absurd rfl hx
 | some l=>exact (h l rfl).1
theorem SlO.upS {α:Type} {r b1:Nat} {c:α -> List Value} {e:TypeId} {x:Sl α} (h:SlO r H c e x b1) (u:UpS p b H H') (hn:x ≠ none -> p -> b1 ≠ b):SlO r H' c e x b1:=fun l hl=>⟨(h l hl).1,(u.old b1 (hn (by simp [hl]))).trans (h l hl).2⟩
theorem SlH.upS {α:Type} {b1:Nat} {c:α -> List Value} {e:TypeId} {x:Sl α} (h:SlH H c e x b1) (u:UpS p b H H') (hn:x ≠ none -> p -> b1 ≠ b):SlH H' c e x b1:=fun l hl=>by
 obtain ⟨more,hk⟩:=h l hl; exact ⟨more,hk.to (u.old b1 (hn (by simp [hl])))⟩
theorem SlO.weak {α:Type} {r r':Nat} {c:α -> List Value} {e:TypeId} {x:Sl α} (h:SlO r H c e x b) (hr:r' <= r):SlO r' H c e x b:=fun l hl=>⟨nLt hr (h l hl).1,(h l hl).2⟩
end
theorem pt_flat {M:Mach} {c:CallF} {chk:Hp -> Bool} {g H H':Hp} {f:FuncId} {args:List Value} {v:Value} {d:List Nat} {ro:Nat} (hc:CallOk M c) (hb:Base M.P chk g) (hchk:chk H = true) (hf:f < PB)
  (h1:∀ a ∈ args,flat a = true) (h2:flat v = true) (hr:c g.length f args g = some (v,H',d)) (hro:ro <= H.length):PtE M ro f args H v H []:=by
 classical
 refine flatC_ok (F:=fun a=>if a = args then some v else none) hc hb hf (fun a w hw=>?_) ro f args H v H [] (by simp [flatC,hchk]) hro
 split at hw
 ·rename_i e; subst e
  injection hw with hw; subst hw
  exact ⟨h1,h2,H',d,hr⟩
 ·cases hw
section
variable {α:Type} {x y:Sl α} {j:Nat} {v:α} {b:Nat}
theorem Sl.put_none:(Sl.put x j v ≠ none) = (x ≠ none):=by cases x <;> simp [Sl.put]
theorem Sl.copy_none:(Sl.copy x y ≠ none) = (x ≠ none):=by cases x <;> simp [Sl.copy]
theorem Sl.put_len:(Sl.l (Sl.put x j v)).length = (Sl.l x).length:=by cases x <;> simp [Sl.put,Sl.l]
theorem Sl.copy_len:(Sl.l (Sl.copy x y)).length = (Sl.l x).length:=by
 cases x with
 | none=>rfl
 | some l=>simp only [Sl.copy,Sl.l,oMs,lLa,List.length_take,List.length_drop]; omega
theorem slV_put:slV (Sl.put x j v) b = slV x b:=by cases x <;> simp [Sl.put,slV]
theorem slV_copy:slV (Sl.copy x y) b = slV x b:=by
 cases x with
 | none=>rfl
 | some l =>
  have:=Sl.copy_len (x:=some l) (y:=y)
  simp only [Sl.copy,Sl.l,oMs] at this;simp only [Sl.copy,Sl.l,oMs,slV,this]
theorem lk_eq {σ:Env} {t:Nat} {u w:Value} (h:u = w) (hl:Lk σ t u):Lk σ t w:=h ▸ hl
end
section
variable {M:Mach} {c:Ctx} {K:Exit -> St -> Prop} {s:St} {a b:AC}
theorem tk_goto (hM:MachOk M) {l:Nat} (h:K (.goto l) s):Tk M c (.goto l) K s:=tk_run (fuel:=0) (o:=.goto l) hM noC_ok rfl h
theorem tk_scopeJ {l:Nat} (J:St -> Prop) (hb:∀ s,J s -> ∀ K1:Exit -> St -> Prop,(∀ s,K .normal s -> K1 .normal s) -> (∀ e s,e ≠ .normal -> (∀ j,e ≠ .goto j) -> K e s -> K1 e s) -> Tk M c b K1 s)
  (ha:∀ K1:Exit -> St -> Prop,(∀ s,K .normal s -> K1 .normal s) -> (∀ e s,e ≠ .normal -> (∀ j,e ≠ .goto j) -> K e s -> K1 e s) -> (∀ s,J s -> K1 (.goto l) s) -> Tk M c a K1 s):Tk M c (.scopeJ l a b) K s:=fun code hint hc ρ ac w hr=>by
 have key:∃ ca ha hb' r,code = .scope ca /\ conv M.P c.nt ca ha = some a /\ findLabel ca l = some r /\ conv M.P c.nt r hb' = some b:=by
  cases code <;> first | (rcases conv_region hc with ⟨_,_,h⟩ | ⟨_,h⟩ | ⟨_,_,_,_,_,h⟩ | ⟨_,_,_,_,h⟩ | ⟨_,_,_,_,h⟩ <;> cases h) | (cases hint <;> simp only [conv,oBe,oMe,reduceCtorEq,and_false,exists_false,oIq,AC.scopeJ.injEq] at hc) | skip
  all_goals first
   | (obtain ⟨ax,hax,r,hr',ay,hay,rfl,rfl,rfl⟩:=hc; exact ⟨_,_,_,_,rfl,hax,hr',hay⟩)
   | (split at hc <;> simp [oBe] at hc)
 obtain ⟨ca,ha',hb',r,rfl,h1,h2,h3⟩:=key
 let K1:Exit -> St -> Prop:=fun e s=>match e with | .goto j=>j = l /\ J s | e=>K e s
 let K2:Exit -> St -> Prop:=fun e s=>match e with | .goto _=>False | e=>K e s
 have r1:=ha K1 (fun _ h=>h) (fun e s hn hg h=>by cases e <;> first | exact h | exact absurd rfl (hg _)) (fun s h=>⟨rfl,h⟩);refine wp_scope_jumps l (fun a1 w1=>∃ s1 ρ1,SRel M.P c ρ1 s1 a1 w1 /\ (∀ b,b < c.ro -> s1.hp[b]? = s.hp[b]?) /\ J s1) (fun _ _=>0) h2 (wp_mono (r1 ca ha' h1 ρ ac w hr) fun e a' w' ⟨s1,ρ1,g1,g2,g3⟩=>?_) fun a1 w1 ⟨s1,ρ1,g1,g2,g3⟩=>?_
 ·cases e <;> first | exact ⟨s1,ρ1,g1,g2,g3⟩ | exact ⟨g3.1,s1,ρ1,g1,g2,g3.2⟩
 ·have r2:=hb s1 g3 K2 (fun _ h=>h) (fun e s hn hg h=>by cases e <;> first | exact h | exact absurd rfl (hg _));refine wp_mono (r2 r hb' h3 ρ1 a1 w1 g1) fun e a' w' ⟨s2,ρ2,k1,k2,k3⟩=>?_
  cases e <;> first | exact ⟨s2,ρ2,k1,fun b hb=>(k2 b hb).trans (g2 b hb),k3⟩ | exact k3.elim
end
def blkA:Value -> Nat
 | .agg cs=>blkOf (cs.toList.headD default)
 | v=>blkOf v
end Go.AM
