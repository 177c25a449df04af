import Derived.Test.YtaadjlpfdajggaaGreatDoorFjAm8
set_option linter.unusedVariables false
set_option linter.unusedSimpArgs false
namespace Go.AM
open Go
def edgesOf (o:Oper):List Nat:=(o.after.toList.filter (Region.binds .any)).map (·.on)
def orAll (acc:List Nat):List Nat -> Nat
 | []=>0
 | e :: r=>(1 <<< e ||| acc.getD e 0) ||| orAll acc r
def mem (a m:Nat):Prop:=m.testBit a = true
theorem orAll_mem {acc:List Nat} {a:Nat}:∀ {l:List Nat},mem a (orAll acc l) ↔ ∃ e ∈ l,a = e \/ mem a (acc.getD e 0)
 | []=>by simp [orAll,mem]
 | e :: r=>by
  have ih:=orAll_mem (acc:=acc) (a:=a) (l:=r);unfold mem at ih ⊢;simp only [orAll,Nat.testBit_or,Bool.or_eq_true,ih,List.mem_cons,exists_eq_or_imp,Nat.one_shiftLeft,Nat.testBit_two_pow,decide_eq_true_eq]
  constructor
  ·rintro ((h | h) | h)
   ·exact .inl (.inl h.symm)
   ·exact .inl (.inr h)
   ·exact .inr h
  ·rintro ((h | h) | h)
   ·exact .inl (.inl h.symm)
   ·exact .inl (.inr h)
   ·exact .inr h
def ancsFrom:List Nat -> List Oper -> List Nat
 | acc,[]=>acc
 | acc,o :: r=>ancsFrom (acc ++ [orAll acc (edgesOf o)]) r
def ancs (ops:List Oper):List Nat:=ancsFrom [] ops
theorem ancsFrom_unfold:∀ (r:List Oper) (acc:List Nat) (pre:List Oper),acc.length = pre.length ->
  (∀ k a,mem a (acc.getD k 0) -> ∃ o,pre[k]? = some o /\ ∃ e ∈ edgesOf o,a = e \/ mem a (acc.getD e 0)) ->
  ∀ k a,mem a ((ancsFrom acc r).getD k 0) -> ∃ o,(pre ++ r)[k]? = some o /\ ∃ e ∈ edgesOf o,a = e \/ mem a ((ancsFrom acc r).getD e 0)
 | [],acc,pre,hl,h,k,a,ha=>by simpa [ancsFrom] using h k a ha
 | o :: r,acc,pre,hl,h,k,a,ha=>by
  rw [ancsFrom] at ha ⊢
  have:=ancsFrom_unfold r (acc ++ [orAll acc (edgesOf o)]) (pre ++ [o]) (by simp [hl]) (fun k a ha=>?_) k a ha
  ·simpa [lAs] using this
  ·have grow:∀ e x,mem x (acc.getD e 0) -> mem x ((acc ++ [orAll acc (edgesOf o)]).getD e 0):=fun e x hx=>by
    by_cases he:e < acc.length
    ·simpa [List.getD,lGl he] using hx
    ·simp [List.getD,List.getElem?_eq_none (Nat.le_of_not_lt he),mem] at hx
   by_cases hk:k < acc.length
   ·have ha':mem a (acc.getD k 0):=by simpa [List.getD,lGl hk] using ha
    obtain ⟨p,hp,e,he,hx⟩:=h k a ha';exact ⟨p,by rw [lGl (by omega)]; exact hp,e,he,hx.imp id (grow e a)⟩
   ·by_cases hk':k = acc.length
    ·subst hk'
     have ha':mem a (orAll acc (edgesOf o)):=by simpa [List.getD] using ha
     obtain ⟨e,he,hx⟩:=orAll_mem.1 ha';refine ⟨o,by simp [hl],e,he,?_⟩
     rcases hx with hx | hx
     ·exact .inl hx
     ·exact .inr (grow e a hx)
    ·rw [List.getD,List.getElem?_eq_none (by simp; omega)] at ha;simp [mem] at ha
theorem ancs_unfold {ops:List Oper} {k a:Nat} (h:mem a ((ancs ops).getD k 0)):∃ o,ops[k]? = some o /\ ∃ e ∈ edgesOf o,a = e \/ mem a ((ancs ops).getD e 0):=by
 simpa [ancs] using ancsFrom_unfold ops [] [] rfl (fun k a ha=>by simp [mem] at ha) k a h
theorem ancs_closed {ops:List Oper} {S:Nat -> Prop} (hlt:∀ (i:Nat) (o:Oper),ops[i]? = some o -> ∀ e ∈ edgesOf o,e < i)
  (hS:∀ (i:Nat) (o:Oper),ops[i]? = some o -> S i -> ∀ e ∈ edgesOf o,S e):∀ i,(∀ o,ops[i]? = some o -> ∀ e ∈ edgesOf o,S e) -> ∀ a,mem a ((ancs ops).getD i 0) -> S a:=by
 intro i
 induction i using Nat.strongRecOn with
 | _ i ih =>
  intro hi a ha;obtain ⟨o,ho,e,he,hx⟩:=ancs_unfold ha
  rcases hx with rfl | hx
  ·exact hi o ho _ he
  ·exact ih e (hlt i o ho e he) (fun p hp=>hS e p hp (hi o ho e he)) a hx
def tmpsOf (l:List Operand):List Nat:=l.filterMap fun | .tmp t=>some t | _=>none
def reads (o:Oper) (ao:AOp):List Nat:=tmpsOf o.op.operands.toList ++ (match ao.guard with | some (t,_)=>[t] | none=>[])
def clash (o:Oper) (ao:AOp) (p:Oper) (ap:AOp):Bool :=
 (match p.dst with | some d=>(reads o ao).contains d || o.dst == some d | none=>false) || (match o.dst with | some d=>(reads p ap).contains d | none=>false)
def ldIn (ls:List Nat):Op -> Bool
 | .load _ (.tmp t)=>ls.contains t
 | _=>false
def silL (P:Program) (ls:List Nat) (op:Op):Bool:=silent P op || ldIn ls op
theorem ldIn_nil {op:Op}:ldIn [] op = false:=by
 unfold ldIn; split <;> simp
def wri (P:Program) (ls:List Nat) (quiet:Bool) (o:Oper):Bool:=if quiet then isW o.op else !silL P ls o.op
def okPair (P:Program) (ls:List Nat) (quiet:Bool) (anc:Nat) (j:Nat) (o:Oper) (ao:AOp) (p:Oper) (ap:AOp):Bool :=
 (!wri P ls quiet p || silL P ls o.op || wri P ls quiet o) &&
 (anc.testBit j || (!clash o ao p ap && !(wri P ls quiet o && !silL P ls p.op) && !(wri P ls quiet p && !silL P ls o.op)))
def okDraw (P:Program) (ls:List Nat) (quiet:Bool) (ops:List Oper) (aops:List AOp):Bool :=
 let A:=ancs ops
 (List.range ops.length).all fun i =>
  match ops[i]?,aops[i]? with
  | some o,some ao=>(edgesOf o).all (fun e=>decide (e < i)) &&
   (List.range i).all fun j =>
    match ops[j]?,aops[j]? with
    | some p,some ap=>okPair P ls quiet (A.getD i 0) j o ao p ap
    | _,_=>false
  | _,_=>false
theorem okDraw_at {P:Program} {ls:List Nat} {quiet:Bool} {ops:List Oper} {aops:List AOp} (h:okDraw P ls quiet ops aops = true) {i:Nat} {o:Oper} (ho:ops[i]? = some o) :
  ∃ ao,aops[i]? = some ao /\ (∀ e ∈ edgesOf o,e < i) /\ ∀ j p,j < i -> ops[j]? = some p -> ∃ ap,aops[j]? = some ap /\ okPair P ls quiet ((ancs ops).getD i 0) j o ao p ap = true:=by
 have hi:=(lGs.1 ho).1;simp only [okDraw,List.all_eq_true,List.mem_range] at h;have h1:=h i hi;rw [ho] at h1
 cases ha:aops[i]? with
 | none=>simp [ha] at h1
 | some ao =>
  simp only [ha,Bool.and_eq_true,List.all_eq_true,decide_eq_true_eq,List.mem_range] at h1;refine ⟨ao,rfl,h1.1,fun j p hj hp=>?_⟩;have h2:=h1.2 j hj;rw [hp] at h2
  cases hb:aops[j]? with
  | none=>simp [hb] at h2
  | some ap=>exact ⟨ap,rfl,by simpa [hb] using h2⟩
theorem convOps_get {P:Program} {nt:Nat} {ops:Array Oper}:∀ {l:List Oper} {al:List AOp},convOps P nt ops l = some al ->
  al.length = l.length /\ ∀ (i:Nat) (o:Oper),l[i]? = some o -> ∃ ao,al[i]? = some ao /\ convOp P nt ops o = some ao
 | [],al,h=>by simp only [convOps,oIq] at h; subst h; simp
 | o :: r,al,h=>by
  simp only [convOps,oBe,oMe] at h;obtain ⟨x,hx,al',hl',rfl⟩:=h;obtain ⟨h1,h2⟩:=convOps_get hl';refine ⟨by simp [h1],fun i o' ho=>?_⟩
  cases i with
  | zero=>simp at ho; subst ho; exact ⟨x,by simp,hx⟩
  | succ i=>simpa using h2 i o' (by simpa using ho)
theorem steps_seq {M:Mach} {call:CallF} {nb ro:Nat} {quiet:Bool}:∀ {l:List AOp} {s s':St},stepsA M call nb ro quiet l s = some s' ->
  ∃ st:Nat -> St,st 0 = s /\ st l.length = s' /\ ∀ (i:Nat) (ao:AOp),l[i]? = some ao -> step1 M call nb ro quiet ao (st i) = some (st (i + 1))
 | [],s,s',h=>by simp only [stepsA,oIq] at h; subst h; exact ⟨fun _=>s,rfl,rfl,by simp⟩
 | ao :: r,s,s',h=>by
  simp only [stepsA,oBe] at h;obtain ⟨s1,h1,h2⟩:=h;obtain ⟨st,g1,g2,g3⟩:=steps_seq h2;refine ⟨fun i=>match i with | 0=>s | i + 1=>st i,rfl,by simpa using g2,fun i a ha=>?_⟩
  cases i with
  | zero=>simp at ha; subst ha; simpa [g1] using h1
  | succ i=>simpa using g3 i a (by simpa using ha)
theorem look_put_ne {σ:Env} {d:Option Nat} {v:Value} {t:Nat} (h:d ≠ some t):look (put d v σ) t = look σ t:=by
 cases d with
 | none=>rfl
 | some d =>
  have:d ≠ t:=fun e=>h (by rw [e])
  simp [put,look,this]
theorem HOk.any {P:Program} {ρ:Rho} {D:Nat -> Prop} {H:Hp} {w:World} {ro:Nat} {N:Nat -> Prop} {W0:Old} (h:HOk P ρ D H w ro N W0) (ro':Nat) :
  HOk P ρ D H w ro' (fun _=>False) (Old.of w):=⟨h.blk,h.inj,fun _ _ _ _ h=>h,fun B hB=>hB.elim,fun B hB=>hB.elim,Io.of w⟩
theorem HOk.now {P:Program} {ρ:Rho} {D:Nat -> Prop} {H:Hp} {w:World} {ro:Nat} {N:Nat -> Prop} {W0:Old} (h:HOk P ρ D H w ro N W0) :
  HOk P ρ D H w H.length (fun B=>B < w.heap.size) (Old.of w):=⟨h.blk,h.inj,fun b hb hr _=>by have:=h.lt hb; omega,fun B hB=>rfl,fun B hB=>hB,Io.of w⟩
theorem HOk.sub {P:Program} {ρ:Rho} {D D':Nat -> Prop} {H H':Hp} {w:World} {ro:Nat} {N:Nat -> Prop} {W0:Old} (h:HOk P ρ D H w ro N W0) (hs:∀ b,D' b -> D b)
  (heq:∀ b,D' b -> H'[b]? = H[b]?) (hc:∀ b,D' b -> ∀ cs e,H'[b]? = some (.cells cs e) -> ∀ v ∈ cs,Cl D' v):HOk P ρ D' H' w ro N W0 where
 blk b hb:=by
  obtain ⟨k,hk,hok⟩:=h.blk b (hs b hb);refine ⟨k,by rw [heq b hb]; exact hk,?_⟩
  cases k with
  | cells cs e=>exact ⟨hok.1,fun v hv=>⟨hc b hb cs e (by rw [heq b hb]; exact hk) v hv,(hok.2 v hv).2⟩⟩
  | iter s p=>exact hok
  | tab cs=>exact hok
  | view cs e=>exact hok
  | dead=>trivial
 inj b c hb hc' hlb hlc hne hwk:=h.inj b c (hs b hb) (hs c hc') (by obtain ⟨k,hk,hd⟩:=hlb; exact ⟨k,by rw [<- heq b hb]; exact hk,hd⟩)
  (by obtain ⟨k,hk,hd⟩:=hlc; exact ⟨k,by rw [<- heq c hc']; exact hk,hd⟩) hne (hwk.imp (fun h'=>h'.to (heq b hb).symm) fun h'=>h'.to (heq c hc').symm)
 fresh b hb hr hl:=h.fresh b (hs b hb) hr (by obtain ⟨k,hk,hd⟩:=hl; exact ⟨k,by rw [<- heq b hb]; exact hk,hd⟩)
 base:=h.base
 top:=h.top
 io:=h.io
def cnt (l:Array Bool):Nat -> Nat
 | 0=>0
 | k + 1=>cnt l k + (if l.getD k true then 0 else 1)
theorem cnt_le (l:Array Bool):∀ n,cnt l n <= n
 | 0=>Nat.le_refl _
 | n + 1=>by have:=cnt_le l n; simp only [cnt]; split <;> omega
theorem cnt_zero {l:Array Bool}:∀ {n},cnt l n = 0 -> ∀ i,i < n -> l.getD i true = true
 | 0,_,i,hi=>by omega
 | n + 1,h,i,hi=>by
  simp only [cnt] at h
  by_cases hin:i = n
  ·subst hin
   cases hh:l.getD i true with
   | true=>rfl
   | false=>rw [hh] at h; simp at h
  ·exact cnt_zero (n:=n) (by omega) i (by omega)
theorem cnt_set_ge {l:Array Bool} {i:Nat}:∀ {n},n <= i -> cnt (l.setIfInBounds i true) n = cnt l n
 | 0,_=>rfl
 | n + 1,h=>by simp only [cnt]; rw [cnt_set_ge (n:=n) (by omega),getD_set_ne true (by omega)]
theorem cnt_set {l:Array Bool} {i:Nat} (hi:l.getD i true = false):∀ {n},i < n -> cnt (l.setIfInBounds i true) n + 1 = cnt l n
 | 0,h=>by omega
 | n + 1,h=>by
  have hsz:i < l.size:=by
   rcases Nat.lt_or_ge i l.size with h | h
   ·exact h
   ·simp [Array.getElem?_eq_none h] at hi
  simp only [cnt]
  by_cases hin:i = n
  ·subst hin;rw [cnt_set_ge (Nat.le_refl _),hi]
   have:(l.setIfInBounds i true).getD i true = true:=by simp
   rw [this]; simp
  ·have:=cnt_set hi (n:=n) (by omega)
   rw [getD_set_ne true hin]; omega
theorem step1_silent {M:Mach} {call:CallF} {nb ro:Nat} {quiet:Bool} {ao:AOp} {s s':St} (hs:silent M.P ao.op = true) (h:step1 M call nb ro quiet ao s = some s') :
  s'.hp = s.hp /\ s'.dirty = s.dirty /\ ∀ (H2:Hp) (d2:List Nat),step1 M call nb ro quiet ao ⟨s.env,H2,d2⟩ = some ⟨s'.env,H2,d2⟩:=by
 have run:∀ r,run1 M call nb r ao s = some s' -> s'.hp = s.hp /\ s'.dirty = s.dirty /\ ∀ r2 (H2:Hp) (d2:List Nat),run1 M call nb r2 ao ⟨s.env,H2,d2⟩ = some ⟨s'.env,H2,d2⟩:=fun r h=>by
  have hns:∀ t a x,ao.op ≠ .store t a x:=fun t a x he=>by rw [he] at hs; simp [silent] at hs
  have e1:∀ (r:Nat) (s:St),run1 M call nb r ao s = (opA M s.env nb r s.hp ao.type ao.op).bind fun (x,H) =>
    match x with
    | .val v=>some ⟨put ao.dst v s.env,H,s.dirty⟩
    | .enter f args=>(call r f args H).map fun (v,H,d)=>⟨put ao.dst v s.env,H,d.filter (· < nb) ++ s.dirty⟩:=fun r s=>by
   unfold run1
   split
   ·rename_i t a x he; exact absurd he (hns t a x)
   ·rfl
  rw [e1] at h;simp only [oBe,Prod.exists] at h;obtain ⟨x,H,h1,h⟩:=h;obtain ⟨g1,⟨v,rfl⟩,g3⟩:=opA_silent hs h1;simp only [oIq] at h; subst h;refine ⟨g1,rfl,fun r2 H2 d2=>?_⟩;rw [e1];simp only [g3 nb r2 H2,oBs]
 unfold step1 at h ⊢
 split at h
 ·obtain ⟨r1,r2,r3⟩:=run _ h;exact ⟨r1,r2,fun H2 d2=>r3 _ H2 d2⟩
 ·split at h
  ·rename_i hb
   split at h
   ·rename_i hw
    obtain ⟨r1,r2,r3⟩:=run _ h;exact ⟨r1,r2,fun H2 d2=>by simp only [hb,hw,if_true]; exact r3 _ H2 d2⟩
   ·rename_i hw
    simp only [oIq] at h; subst h;exact ⟨rfl,rfl,fun H2 d2=>by simp only [hb,hw,if_false]⟩
  ·rename_i u hnb hu
   simp only [oIq] at h; subst h;refine ⟨rfl,rfl,fun H2 d2=>?_⟩;rw [hu]
   cases u <;> first | rfl | exact absurd rfl (hnb _)
  ·simp at h
theorem Dn_Dn {D:Nat -> Prop} {n m k:Nat} (h1:n <= m) (h2:m <= k):Dn (Dn D n m) m k = Dn D n k:=by
 funext b
 apply propext;unfold Dn
 constructor
 ·rintro ((h | h) | h)
  ·exact .inl h
  ·exact .inr (by omega)
  ·exact .inr (by omega)
 ·rintro (h | h)
  ·exact .inl (.inl h)
  ·by_cases hb:b < m
   ·exact .inl (.inr ⟨h.1,hb⟩)
   ·exact .inr (by omega)
section
variable {M:Mach} {call:CallF} {ρ:Rho} {D:Nat -> Prop} {w:World} {nb ro nt:Nat} {N:Nat -> Prop} {W0:Old} {s s':St} {a:Act} {ops:Array Oper} {al:List AOp} {quiet:Bool}
structure TextRun (M:Mach) (call:CallF) (nb ro nt:Nat) (quiet:Bool) (ops:Array Oper) (al:List AOp) (D:Nat -> Prop) (s s':St) (st:Nat -> St):Prop where
 zero:st 0 = s
 last:st ops.size = s'
 at_:∀ i (o:Oper),ops[i]? = some o -> ∃ ao,al[i]? = some ao /\ convOp M.P nt ops o = some ao /\ step1 M call nb ro quiet ao (st i) = some (st (i + 1)) /\
  StepAm nb (roOf quiet ao.op ro (st i)) ao.dst (st i) (st (i + 1))
 len:∀ i,i <= ops.size -> s.hp.length <= (st i).hp.length
 real:∀ i,i <= ops.size -> ∃ ρi ai wi,HOk M.P ρi (Dn D s.hp.length (st i).hp.length) (st i).hp wi 0 (fun _=>False) (Old.of wi) /\ ER ρi (Dn D s.hp.length (st i).hp.length) (st i).env (ai:Act).tmps /\
  ai.tmps.size = nt /\ Glob M.P ρi (Dn D s.hp.length (st i).hp.length)
theorem TextRun.mk' (hM:MOk M) (hcall:CallOk M call) (hc:convOps M.P nt ops ops.toList = some al) (hs:stepsA M call nb ro quiet al s = some s')
  (h:HOk M.P ρ D s.hp w ro N W0) (hg:Glob M.P ρ D) (he:ER ρ D s.env a.tmps) (hsz:a.tmps.size = nt) (hro:ro <= s.hp.length) (hnb:nb <= s.hp.length) :
  ∃ st,TextRun M call nb ro nt quiet ops al D s s' st:=by
 obtain ⟨st,g1,g2,g3⟩:=steps_seq hs;obtain ⟨c1,c2⟩:=convOps_get hc
 have hn:al.length = ops.size:=by simpa using c1
 have get:∀ i (o:Oper),ops[i]? = some o -> ∃ ao,al[i]? = some ao /\ convOp M.P nt ops o = some ao /\ step1 M call nb ro quiet ao (st i) = some (st (i + 1)):=fun i o ho=>by
  obtain ⟨ao,h1,h2⟩:=c2 i o (by simpa using ho);exact ⟨ao,h1,h2,g3 i ao h1⟩
 have all:∀ i,i <= ops.size -> s.hp.length <= (st i).hp.length /\ ∃ ρi ai wi,HOk M.P ρi (Dn D s.hp.length (st i).hp.length) (st i).hp wi 0 (fun _=>False) (Old.of wi) /\
   ER ρi (Dn D s.hp.length (st i).hp.length) (st i).env (ai:Act).tmps /\ ai.tmps.size = nt /\ Glob M.P ρi (Dn D s.hp.length (st i).hp.length):=by
  intro i
  induction i with
  | zero =>
   intro _;rw [g1];exact ⟨Nat.le_refl _,ρ,a,w,by rw [Dn_eq]; exact h.any _,by rw [Dn_eq]; exact he,hsz,by rw [Dn_eq]; exact hg⟩
  | succ i ih =>
   intro hi;obtain ⟨l1,ρi,ai,wi,r1,r2,r3,r4⟩:=ih (by omega)
   obtain ⟨o,ho⟩:∃ o,ops[i]? = some o:=⟨_,Array.getElem?_eq_getElem (by omega)⟩
   obtain ⟨ao,h1,h2,h3⟩:=get i o ho;obtain ⟨k1,k2,k3,k4,k5⟩:=convOp_eq h2;have ham:=step1_am hcall h3 (nLt hro l1) (nLt hnb l1)
   obtain ⟨v,v1,⟨ρ',w',q1,q2,q3⟩,_⟩:=step1_sound (a:=ai) (N:=fun _=>False) (W0:=Old.of wi) hM hcall h3 h2 (r1.any _) r4 (nLt hro l1)
    (fun x hx=>rel1_of (okOp_x k1 x hx) r2 r4) (fun t want u _ hu=>(r2 t u hu).1)
   rw [Dn_Dn l1 ham.le] at q1 q3
   have sub:∀ b,Dn D s.hp.length (st i).hp.length b -> Dn D s.hp.length (st (i + 1)).hp.length b:=fun b hb=>by
    rcases hb with hb | hb
    ·exact .inl hb
    ·exact .inr ⟨hb.1,Nat.lt_of_lt_of_le hb.2 ham.le⟩
   refine ⟨nLt l1 ham.le,ρ',ai.put o.dst (ρ'.val v),w',q1.any _,?_,?_,r4.mono q2 sub⟩
   ·rw [v1]; exact r2.put q2 sub q3 fun t ht=>by rw [r3]; exact okOp_dst k1 t ht
   ·cases o.dst <;> simp [Act.put,r3]
 refine ⟨st,g1,by rw [<- hn]; exact g2,fun i o ho=>?_,fun i hi=>(all i hi).1,fun i hi=>(all i hi).2⟩;obtain ⟨ao,h1,h2,h3⟩:=get i o ho;have hlt:=(Array.getElem?_eq_some_iff.1 ho).1;have l1:=(all i (by omega)).1;exact ⟨ao,h1,h2,h3,step1_am hcall h3 (nLt hro l1) (nLt hnb l1)⟩
structure Inv (ls:List Nat) (dfs:List Deferred) (M:Mach) (nt ro:Nat) (N:Nat -> Prop) (W0:Old) (quiet:Bool) (ops:Array Oper) (D:Nat -> Prop) (ρ0:Rho) (st:Nat -> St) (m:Nat) (S:Nat -> Prop) (a:Act) (w:World) (ρ:Rho) (q:Nat):Prop where
 mq:m <= q
 qn:q <= ops.size
 later:∀ i (o:Oper),q <= i -> ops[i]? = some o -> wri M.P ls quiet o = true -> ¬ S i
 done:q = m \/ ∀ i (o:Oper),i < q -> ops[i]? = some o -> silL M.P ls o.op = false -> S i
 hok:HOk M.P ρ (fun b=>D b \/ ∃ i,S i /\ (st i).hp.length <= b /\ b < (st (i + 1)).hp.length) (st q).hp w ro N W0
 agree:Agree D ρ0 ρ
 env:∀ t i,i <= ops.size -> (i = 0 \/ ∃ o:Oper,ops[i - 1]? = some o /\ o.dst = some t /\ S (i - 1)) -> (∀ j (o:Oper),i <= j -> ops[j]? = some o -> o.dst = some t -> ¬ S j) ->
  ∀ v,look (st i).env t = some v -> a.tmps[t]? = some (ρ.val v) /\ Cl (fun b=>D b \/ ∃ i,S i /\ (st i).hp.length <= b /\ b < (st (i + 1)).hp.length) v
 size:a.tmps.size = nt
 defs:a.defers = dfs
 clos:∀ i (o:Oper),ops[i]? = some o -> S i -> ∀ e ∈ edgesOf o,S e
 dom:∀ i,S i -> i < ops.size
theorem mem_tmpsOf {l:List Operand} {t:Nat} (h:Operand.tmp t ∈ l):t ∈ tmpsOf l:=by
 unfold tmpsOf; exact List.mem_filterMap.2 ⟨_,h,rfl⟩
theorem cut_of {st:Nat -> St} {ops:Array Oper} (hput:∀ i (o:Oper),ops[i]? = some o -> ∃ v,(st (i + 1)).env = put o.dst v (st i).env) (t:Nat):∀ i,i <= ops.size ->
  ∃ k,k <= i /\ (k = 0 \/ ∃ o:Oper,ops[k - 1]? = some o /\ o.dst = some t) /\ (∀ j (o:Oper),k <= j -> j < i -> ops[j]? = some o -> o.dst ≠ some t) /\ look (st i).env t = look (st k).env t
 | 0,_=>⟨0,Nat.le_refl _,.inl rfl,fun j o h1 h2=>by omega,rfl⟩
 | i + 1,hi=>by
  obtain ⟨o,ho⟩:∃ o,ops[i]? = some o:=⟨_,Array.getElem?_eq_getElem (by omega)⟩
  obtain ⟨v,hv⟩:=hput i o ho
  by_cases hd:o.dst = some t
  ·exact ⟨i + 1,Nat.le_refl _,.inr ⟨o,by simpa using ho,hd⟩,fun j o h1 h2=>by omega,rfl⟩
  ·obtain ⟨k,h1,h2,h3,h4⟩:=cut_of hput t i (by omega);refine ⟨k,by omega,h2,fun j p hj hji hp=>?_,by rw [hv,look_put_ne hd,h4]⟩
   by_cases hji':j = i
   ·subst hji'; rw [ho] at hp; injection hp with hp; rw [<- hp]; exact hd
   ·exact h3 j p hj (by omega) hp
theorem rel1_of2 {P:Program} {ρ:Rho} {D:Nat -> Prop} {a:Act} {σ:Env} {x:Operand} (hx:okX P x = true) (he:∀ t v,x = .tmp t -> look σ t = some v -> a.tmps[t]? = some (ρ.val v) /\ Cl D v) (hg:Glob P ρ D) :
  Rel1 ρ D σ a.eval x:=by
 cases x with
 | tmp t =>
  intro v hv;obtain ⟨h1,h2⟩:=he t v rfl hv;exact ⟨by simp [Act.eval,h1],h2⟩
 | const u=>intro v hv; exact rel1_of (σ:=[]) hx (fun t v h=>by simp [look] at h) hg v hv
 | global g=>intro v hv; exact rel1_of (σ:=[]) hx (fun t v h=>by simp [look] at h) hg v hv
 | func f=>intro v hv; exact rel1_of (σ:=[]) hx (fun t v h=>by simp [look] at h) hg v hv
theorem wri_loud {P:Program} {ls:List Nat} {quiet:Bool} {o:Oper} (h:wri P ls quiet o = true):silL P ls o.op = false:=by
 unfold wri at h
 cases quiet with
 | false=>simpa using h
 | true =>
  simp only [if_true] at h
  cases hop:o.op with
  | call c =>
   obtain ⟨cl,ca,ct⟩:=c;rw [hop] at h
   cases cl with
   | builtin b=>cases b <;> simp_all [isW,silent,silL,ldIn]
   | _=>simp_all [isW,silent,silL,ldIn]
  | _=>simp_all [isW,silent,silL,ldIn]
theorem HOk.raise {P:Program} {ρ:Rho} {D:Nat -> Prop} {H:Hp} {w:World} {ro ro':Nat} {N:Nat -> Prop} {W0:Old} (h:HOk P ρ D H w ro N W0) (hr:ro <= ro'):HOk P ρ D H w ro' N W0 :=
 ⟨h.blk,h.inj,fun b hb hb'=>h.fresh b hb (nLt hr hb'),h.base,h.top,h.io⟩
theorem HOk.lower {P:Program} {ρ ρ':Rho} {D D':Nat -> Prop} {H:Hp} {w:World} {ro ro':Nat} {N:Nat -> Prop} {W0:Old} (h:HOk P ρ' D' H w ro' N W0) (ha:Agree D ρ ρ')
  (hs:∀ b,D' b -> D b \/ ro' <= b) (hf:∀ b,D b -> ro <= b -> live H b -> ¬ N (ρ.blk b)):HOk P ρ' D' H w ro N W0 :=
 ⟨h.blk,h.inj,fun b hb hb' hl=>by
  rcases hs b hb with hd | hd
  ·rw [(ha b hd).1]; exact hf b hd hb' hl
  ·exact h.fresh b hb hd hl,h.base,h.top,h.io⟩
theorem exists_least {p:Nat -> Prop} (h:∃ i,p i):∃ m,p m /\ ∀ j,j < m -> ¬ p j:=by
 obtain ⟨i,hi⟩:=h
 induction i using Nat.strongRecOn with
 | _ i ih =>
  by_cases hj:∃ j,j < i /\ p j
  ·obtain ⟨j,hj1,hj2⟩:=hj; exact ih j hj1 hj2
  ·exact ⟨i,hi,fun j hj1 hj2=>hj ⟨j,hj1,hj2⟩⟩
theorem draw_soundL (hM:MOk M) (hcall:CallOk M call) {Q:Exit -> Act -> World -> Prop} {real:Array Oper} {W:(Nat -> Prop) -> Old} {jl:Nat}
  (hrs:real.size = ops.size) (hsame:∀ (i:Nat) (o r:Oper),ops[i]? = some o -> real[i]? = some r -> r.after = o.after /\ r.dst = o.dst /\ r.guard = o.guard /\ (i ≠ jl -> r = o))
  (hW:∀ (i:Nat) S,real[i]? = ops[i]? -> W (fun j=>j = i \/ S j) = W S)
  (hlate:∀ (r o:Oper) (ao:AOp),real[jl]? = some r -> ops[jl]? = some o -> r ≠ o -> convOp M.P nt ops o = some ao -> ∀ (σ:Env),
   (∀ t,(∀ (i:Nat) (o:Oper),ops[i]? = some o -> o.dst ≠ some t) -> look σ t = look s.env t) ->
   (∀ t,(∀ (i:Nat) (o:Oper),jl <= i -> ops[i]? = some o -> o.dst ≠ some t) -> look s'.env t = look σ t) ->
   ∀ (S:Nat -> Prop) (D':Nat -> Prop) (H:Hp) (a':Act) (w':World) (ρ':Rho),HOk M.P ρ' D' H w' ro N (W S) -> Agree D ρ ρ' -> (∀ b,D' b -> D b \/ ro <= b) -> ¬ S jl ->
   (∀ b,b < ro -> H[b]? = s.hp[b]?) ->
   (∀ t,t ∈ reads o ao -> ∀ v,look σ t = some v -> a'.tmps[t]? = some (ρ'.val v) /\ Cl D' v) ->
   ∀ (K:Act -> World -> Prop),(∀ w'',HOk M.P ρ' D' H w'' ro N (W (fun j=>j = jl \/ S j)) -> K (a'.put r.dst undef) w'') -> Step M.P real r a' w' K Q)
  {ls:List Nat} (hstab:∀ st:Nat -> St,st 0 = s -> (∀ (i:Nat) (o:Oper),ops[i]? = some o -> ∃ ao,al[i]? = some ao /\ step1 M call nb ro quiet ao (st i) = some (st (i + 1))) ->
   ∀ (i:Nat) (o:Oper) (ao:AOp),ops[i]? = some o -> al[i]? = some ao -> ldIn ls o.op = true -> (st (i + 1)).hp = (st i).hp /\ ∀ q,q <= ops.size -> (∀ (j:Nat) (p:Oper),j < q -> ops[j]? = some p -> wri M.P ls quiet p = true -> ¬ mem i ((ancs ops.toList).getD j 0)) -> ∀ d2,step1 M call nb ro quiet ao ⟨(st i).env,(st q).hp,d2⟩ = some ⟨(st (i + 1)).env,(st q).hp,d2⟩)
  (hc:convOps M.P nt ops ops.toList = some al) (hd:okDraw M.P ls quiet ops.toList al = true) (hsl:∀ (o r:Oper),ops[jl]? = some o -> real[jl]? = some r -> r ≠ o -> silL M.P ls o.op = true /\ o.dst = none)
  {dfs:List Deferred} (hs:stepsA M call nb ro quiet al s = some s') (h:HOk M.P ρ D s.hp w ro N (W fun _=>False)) (hg:Glob M.P ρ D) (he:ER ρ D s.env a.tmps) (hsz:a.tmps.size = nt) (hdf:a.defers = dfs)
  (hro:ro <= s.hp.length) (hnb:nb <= s.hp.length)
  (hQ:∀ ρ' a' w',HOk M.P ρ' (Dn D s.hp.length s'.hp.length) s'.hp w' ro N (W fun i=>i < ops.size) -> Agree D ρ ρ' -> ER ρ' (Dn D s.hp.length s'.hp.length) s'.env (a':Act).tmps -> a'.tmps.size = nt -> a'.defers = dfs -> Q .normal a' w') :
  wpAny M.P .any real Q ops.size (Array.replicate ops.size false) a { w with drawn:=w.drawn + 1 }:=by
 obtain ⟨st,tr⟩:=TextRun.mk' (a:=a) hM hcall hc hs h hg he hsz hro hnb
 have atE:∀ i (o:Oper),ops[i]? = some o -> ∃ ao,al[i]? = some ao /\ convOp M.P nt ops o = some ao /\ step1 M call nb ro quiet ao (st i) = some (st (i + 1)) /\
   StepAm nb (roOf quiet ao.op ro (st i)) ao.dst (st i) (st (i + 1)) /\ ao.op = o.op /\ ao.dst = o.dst /\ (∀ e ∈ edgesOf o,e < i) /\
   ∀ j (p:Oper),j < i -> ops[j]? = some p -> ∃ ap,al[j]? = some ap /\ okPair M.P ls quiet ((ancs ops.toList).getD i 0) j o ao p ap = true:=fun i o ho=>by
  obtain ⟨ao,h1,h2,h3,h4⟩:=tr.at_ i o ho;obtain ⟨k1,k2,k3,k4,k5⟩:=convOp_eq h2;obtain ⟨ao',d1,d2,d3⟩:=okDraw_at hd (i:=i) (o:=o) (by simpa using ho)
  rw [h1] at d1; injection d1 with d1; subst d1
  exact ⟨ao,h1,h2,h3,h4,k2,k4,d2,fun j p hj hp=>d3 j p hj (by simpa using hp)⟩
 have hput:∀ i (o:Oper),ops[i]? = some o -> ∃ v,(st (i + 1)).env = put o.dst v (st i).env:=fun i o ho=>by
  obtain ⟨ao,_,_,_,h4,_,h6,_⟩:=atE i o ho;rw [<- h6]; exact h4.env
 have lenStep:∀ i,i < ops.size -> (st i).hp.length <= (st (i + 1)).hp.length:=fun i hi=>by
  obtain ⟨ao,_,_,_,h4,_⟩:=atE i _ (Array.getElem?_eq_getElem hi);exact h4.le
 have lenMono:∀ j i,i <= j -> j <= ops.size -> (st i).hp.length <= (st j).hp.length:=fun j=>by
  induction j with
  | zero =>
   intro i hi _; have:i = 0:=by omega
   subst this; exact Nat.le_refl _
  | succ j ih =>
   intro i hi hj
   by_cases hij:i = j + 1
   ·subst hij; exact Nat.le_refl _
   ·exact nLt (ih i (by omega) (by omega)) (lenStep j (by omega))
 have stab:=hstab st tr.zero fun i o ho=>by
  obtain ⟨ao,h1,_,h3,_⟩:=atE i o ho;exact ⟨ao,h1,h3⟩
 have silSt:∀ i (o:Oper) (ao:AOp),ops[i]? = some o -> al[i]? = some ao -> silL M.P ls o.op = true -> (st (i + 1)).hp = (st i).hp /\ ∀ q,q <= ops.size -> (∀ (j:Nat) (p:Oper),j < q -> ops[j]? = some p -> wri M.P ls quiet p = true -> ¬ mem i ((ancs ops.toList).getD j 0)) -> ∀ d2,step1 M call nb ro quiet ao ⟨(st i).env,(st q).hp,d2⟩ = some ⟨(st (i + 1)).env,(st q).hp,d2⟩:=fun i o ao ho hao hsil=>by
  obtain ⟨ao',h1,_,h3,_,h5,_⟩:=atE i o ho
  rw [hao] at h1; injection h1 with h1; subst h1
  cases hs:silent M.P o.op with
  | true =>
   obtain ⟨e1,e2,e3⟩:=step1_silent (by rw [h5]; exact hs) h3;exact ⟨e1,fun q _ _ d2=>e3 _ d2⟩
  | false=>exact stab i o ao ho hao (by simpa [silL,hs] using hsil)
 have silHp:∀ i (o:Oper),ops[i]? = some o -> silL M.P ls o.op = true -> (st (i + 1)).hp = (st i).hp:=fun i o ho hsil=>by
  obtain ⟨ao,h1,_⟩:=atE i o ho;exact (silSt i o ao ho h1 hsil).1
 have oldSt:∀ k,k <= ops.size -> ∀ b,b < ro -> (st k).hp[b]? = s.hp[b]?:=fun k=>by
  induction k with
  | zero=>intro _ b _; rw [tr.zero]
  | succ k ih =>
   intro hk b hb;obtain ⟨ao,_,_,_,h4,_⟩:=atE k _ (Array.getElem?_eq_getElem (by omega));have hl:=tr.len k (by omega);rw [h4.old b (by unfold roOf; split <;> omega)];exact ih (by omega) b hb
 have edgeLt:∀ (i:Nat) (o:Oper),ops.toList[i]? = some o -> ∀ e ∈ edgesOf o,e < i:=fun i o ho=>by
  obtain ⟨ao,_,_,_,_,_,_,h7,_⟩:=atE i o (by simpa using ho);exact h7
 obtain ⟨m,hm,hm1,hm2⟩:∃ m,m <= ops.size /\ (∀ (i:Nat) (o:Oper),i < m -> ops[i]? = some o -> wri M.P ls quiet o = false) /\ (∀ (i:Nat) (o:Oper),m <= i -> ops[i]? = some o -> silL M.P ls o.op = true \/ wri M.P ls quiet o = true):=by
  by_cases hex:∃ i:Nat,∃ o:Oper,ops[i]? = some o /\ wri M.P ls quiet o = true
  ·obtain ⟨m,⟨o,ho,hw⟩,hmin⟩:=exists_least hex;refine ⟨m,Nat.le_of_lt (Array.getElem?_eq_some_iff.1 ho).1,fun i p hi hp=>?_,fun i p hi hp=>?_⟩
   ·cases hh:wri M.P ls quiet p with
    | false=>rfl
    | true=>exact absurd ⟨p,hp,hh⟩ (hmin i hi)
   ·by_cases him:i = m
    ·subst him; rw [ho] at hp; injection hp with hp; subst hp; exact .inr hw
    ·obtain ⟨ao,_,_,_,_,_,_,_,h8⟩:=atE i p hp;obtain ⟨ap,_,hok⟩:=h8 m o (by omega) ho;simp only [okPair,hw,Bool.not_true,Bool.false_or,Bool.and_eq_true,Bool.or_eq_true] at hok;exact hok.1
  ·refine ⟨ops.size,Nat.le_refl _,fun i o _ ho=>?_,fun i o hi ho=>?_⟩
   ·cases hh:wri M.P ls quiet o with
    | false=>rfl
    | true=>exact absurd ⟨i,o,ho,hh⟩ hex
   ·have:=(Array.getElem?_eq_some_iff.1 ho).1; omega
 have still:∀ q i,q <= i -> i <= ops.size -> (∀ j (o:Oper),q <= j -> j < i -> ops[j]? = some o -> silL M.P ls o.op = true) -> (st i).hp = (st q).hp:=fun q i=>by
  induction i with
  | zero =>
   intro hq _ _; have:q = 0:=by omega
   subst this; rfl
  | succ i ih =>
   intro hq hi hs
   by_cases hqi:q = i + 1
   ·subst hqi; rfl
   ·have ho:=Array.getElem?_eq_getElem (xs:=ops) (i:=i) (by omega);rw [silHp i _ ho (hs i _ (by omega) (by omega) ho)];exact ih (by omega) (by omega) fun j o h1 h2=>hs j o h1 (by omega)
 have pre:∀ k i,i <= k -> k <= m -> ∀ b,b < (st i).hp.length -> (st k).hp[b]? = (st i).hp[b]?:=fun k=>by
  induction k with
  | zero =>
   intro i hi _ b _; have:i = 0:=by omega
   subst this; rfl
  | succ k ih =>
   intro i hi hk b hb
   by_cases hik:i = k + 1
   ·subst hik; rfl
   ·have ho:=Array.getElem?_eq_getElem (xs:=ops) (i:=k) (by omega);have hbk:b < (st k).hp.length:=Nat.lt_of_lt_of_le hb (lenMono k i (by omega) (by omega));rw [<- ih i (by omega) (by omega) b hb];obtain ⟨ao,_,_,h3,h4,h5,_⟩:=atE k _ ho;have hnw:=hm1 k _ (by omega) ho
    cases hsl:silL M.P ls (ops[k]).op with
    | true=>rw [silHp k _ ho hsl]
    | false =>
     have hq:quiet = true /\ isW (ops[k]).op = false:=by
      unfold wri at hnw
      cases hqq:quiet with
      | true=>rw [hqq] at hnw; exact ⟨rfl,by simpa using hnw⟩
      | false=>rw [hqq] at hnw; simp [hsl] at hnw
     have hro':roOf quiet ao.op ro (st k) = (st k).hp.length:=by unfold roOf; rw [hq.1,h5,hq.2]; simp
     exact h4.old b (by rw [hro']; exact hbk)
 have closT:∀ i,i <= ops.size -> (∀ t v,look (st i).env t = some v -> Cl (Dn D s.hp.length (st i).hp.length) v) /\
   (∀ b,Dn D s.hp.length (st i).hp.length b -> ∀ cs e,(st i).hp[b]? = some (.cells cs e) -> ∀ v ∈ cs,Cl (Dn D s.hp.length (st i).hp.length) v):=fun i hi=>by
  obtain ⟨ρi,ai,wi,r1,r2,_⟩:=tr.real i hi;exact ⟨fun t v hv=>(r2 t v hv).2,fun b hb cs e hk v hv=>((r1.at_ hb hk).2 v hv).1⟩
 have DLt:∀ b,D b -> b < s.hp.length:=fun b hb=>h.lt hb
 have step:∀ (S:Nat -> Prop) a' w' ρ' q i,Inv ls dfs M nt ro N (W S) quiet ops D ρ st m S a' w' ρ' q -> (hi:i < ops.size) -> ¬ S i -> (∀ e ∈ edgesOf ops[i],S e) ->
   ∀ (r:Oper),real[i]? = some r -> ∀ (K:Act -> World -> Prop),(∀ a'' w'' ρ'' q'',Inv ls dfs M nt ro N (W fun j=>j = i \/ S j) quiet ops D ρ st m (fun j=>j = i \/ S j) a'' w'' ρ'' q'' -> K a'' w'') -> Step M.P real r a' w' K Q:=by
  intro S a' w' ρ' q i I hi hSi hedge r hr K hK;have ho:=Array.getElem?_eq_getElem (xs:=ops) (i:=i) hi;obtain ⟨ao,hao,h2,h3,h4,h5,h6,h7,h8⟩:=atE i _ ho;obtain ⟨k1,k2,k3,k4,k5⟩:=convOp_eq h2
  have hanc:∀ j,mem j ((ancs ops.toList).getD i 0) -> S j:=ancs_closed edgeLt (fun j p hp=>I.clos j p (by simpa using hp)) i (fun p hp=>by
   rw [Array.getElem?_toList,ho] at hp; injection hp with hp; subst hp; exact hedge)
  have hno:∀ j (p:Oper),ops[j]? = some p -> S j -> ¬ mem i ((ancs ops.toList).getD j 0):=fun j p hp hSj hin =>
   hSi (ancs_closed edgeLt (fun k r hr=>I.clos k r (by simpa using hr)) j (fun r hr=>by
    rw [Array.getElem?_toList,hp] at hr; injection hr with hr; subst hr; exact I.clos j p hp hSj) i hin)
  have before:∀ j (p:Oper),j < i -> ops[j]? = some p -> ¬ S j -> ∃ ap,al[j]? = some ap /\ clash ops[i] ao p ap = false /\ (wri M.P ls quiet ops[i] && !silL M.P ls p.op) = false:=fun j p hj hp hSj=>by
   obtain ⟨ap,p1,p2⟩:=h8 j p hj hp
   have hn:((ancs ops.toList).getD i 0).testBit j = false:=by
    cases hh:((ancs ops.toList).getD i 0).testBit j with
    | false=>rfl
    | true=>exact absurd (hanc j hh) hSj
   simp only [okPair,hn,Bool.false_or,Bool.and_eq_true,Bool.not_eq_true'] at p2;exact ⟨ap,p1,p2.2.1.1,p2.2.1.2⟩
  have behind:∀ j (p:Oper),i < j -> ops[j]? = some p -> S j -> ∃ ap,clash p ap ops[i] ao = false /\ (wri M.P ls quiet p && !silL M.P ls ops[i].op) = false:=fun j p hj hp hSj=>by
   obtain ⟨ap,_,_,_,_,_,_,_,q8⟩:=atE j p hp;obtain ⟨ao',p1,p2⟩:=q8 i _ hj ho
   rw [hao] at p1; injection p1 with p1; subst p1
   have hn:((ancs ops.toList).getD j 0).testBit i = false:=by
    cases hh:((ancs ops.toList).getD j 0).testBit i with
    | false=>rfl
    | true=>exact absurd hh (hno j p hp hSj)
   simp only [okPair,hn,Bool.false_or,Bool.and_eq_true,Bool.not_eq_true'] at p2;exact ⟨ap,p2.2.1.1,p2.2.1.2⟩
  have rd:∀ t,t ∈ reads ops[i] ao -> ∀ v,look (st i).env t = some v -> a'.tmps[t]? = some (ρ'.val v) /\ Cl (fun b=>D b \/ ∃ i,S i /\ (st i).hp.length <= b /\ b < (st (i + 1)).hp.length) v:=fun t ht v hv=>by
   obtain ⟨k,g1,g2,g3,g4⟩:=cut_of hput t i (by omega);refine I.env t k (by omega) ?_ (fun j p hkj hp hpt hSj=>?_) v (by rw [<- g4]; exact hv)
   ·rcases g2 with g2 | ⟨p,hp,hpt⟩
    ·exact .inl g2
    ·by_cases hk0:k = 0
     ·exact .inl hk0
     ·refine .inr ⟨p,hp,hpt,?_⟩
      by_cases hS:S (k - 1)
      ·exact hS
      ·obtain ⟨ap,_,c1,_⟩:=before (k - 1) p (by omega) hp hS;simp only [clash,hpt,Bool.or_eq_false_iff,List.contains_eq_mem,decide_eq_false_iff_not] at c1;exact absurd ht c1.1.1
   ·by_cases hji:j < i
    ·exact g3 j p hkj hji hp hpt
    ·by_cases hji':j = i
     ·subst hji'; exact hSi hSj
     ·obtain ⟨ap,c1,_⟩:=behind j p (by omega) hp hSj;simp only [clash,hpt,Bool.or_eq_false_iff,List.contains_eq_mem,decide_eq_false_iff_not] at c1;exact c1.2 ht
  have DS':∀ b,(D b \/ ∃ k,(k = i \/ S k) /\ (st k).hp.length <= b /\ b < (st (k + 1)).hp.length) ↔
    ((D b \/ ∃ k,S k /\ (st k).hp.length <= b /\ b < (st (k + 1)).hp.length) \/ ((st i).hp.length <= b /\ b < (st (i + 1)).hp.length)):=fun b=>by
   constructor
   ·rintro (hb | ⟨k,rfl | hk,hb⟩)
    ·exact .inl (.inl hb)
    ·exact .inr hb
    ·exact .inl (.inr ⟨k,hk,hb⟩)
   ·rintro ((hb | ⟨k,hk,hb⟩) | hb)
    ·exact .inl hb
    ·exact .inr ⟨k,.inr hk,hb⟩
    ·exact .inr ⟨i,.inl rfl,hb⟩
  have sub:∀ b,(D b \/ ∃ k,S k /\ (st k).hp.length <= b /\ b < (st (k + 1)).hp.length) -> (D b \/ ∃ k,(k = i \/ S k) /\ (st k).hp.length <= b /\ b < (st (k + 1)).hp.length):=fun b hb=>(DS' b).2 (.inl hb)
  have close:∀ (v:Value) (ρ'':Rho) (w'':World) (q'':Nat),(st (i + 1)).env = put ops[i].dst v (st i).env -> Agree (fun b=>D b \/ ∃ k,S k /\ (st k).hp.length <= b /\ b < (st (k + 1)).hp.length) ρ' ρ'' ->
    Cl (fun b=>D b \/ ∃ k,(k = i \/ S k) /\ (st k).hp.length <= b /\ b < (st (k + 1)).hp.length) v -> m <= q'' -> q'' <= ops.size ->
    (∀ j (p:Oper),q'' <= j -> ops[j]? = some p -> wri M.P ls quiet p = true -> ¬ (j = i \/ S j)) -> (q'' = m \/ ∀ j (p:Oper),j < q'' -> ops[j]? = some p -> silL M.P ls p.op = false -> (j = i \/ S j)) ->
    HOk M.P ρ'' (fun b=>D b \/ ∃ k,(k = i \/ S k) /\ (st k).hp.length <= b /\ b < (st (k + 1)).hp.length) (st q'').hp w'' ro N (W fun j=>j = i \/ S j) -> K (a'.put ops[i].dst (ρ''.val v)) w'' :=
    fun v ρ'' w'' q'' hv hag hcl hmq hqn hlater hdone hhok=>by
   refine hK _ _ ρ'' q'' ⟨hmq,hqn,hlater,hdone,hhok,I.agree.trans hag fun b hb=>.inl hb,fun t k hk hcut hno' u hu=>?_,?_,?_,fun j p hp hj e he=>?_,fun j hj=>?_⟩
   ·by_cases hdt:ops[i].dst = some t
    ·have hik:i < k:=by
      rcases Nat.lt_or_ge i k with h | h
      ·exact h
      ·exact absurd (.inl rfl) (hno' i _ h ho hdt)
     rcases hcut with hk0 | ⟨p,hp,hpt,hSp⟩
     ·omega
     ·by_cases hki:k - 1 = i
      ·have hk':k = i + 1:=by omega
       subst hk';rw [hv,hdt] at hu;simp only [put,look,if_true,oIq] at hu;subst hu;refine ⟨?_,hcl⟩
       have hlt:t < a'.tmps.size:=by rw [I.size]; exact okOp_dst k1 t hdt
       simp [hdt,Act.put,hlt]
      ·rcases hSp with hSp | hSp
       ·exact absurd hSp hki
       ·obtain ⟨ap,c1,_⟩:=behind (k - 1) p (by omega) hp hSp;simp [clash,hdt,hpt] at c1
    ·have hcut':k = 0 \/ ∃ o:Oper,ops[k - 1]? = some o /\ o.dst = some t /\ S (k - 1):=by
      rcases hcut with hk0 | ⟨p,hp,hpt,hSp⟩
      ·exact .inl hk0
      ·rcases hSp with hSp | hSp
       ·rw [hSp,ho] at hp; injection hp with hp; subst hp; exact absurd hpt hdt
       ·exact .inr ⟨p,hp,hpt,hSp⟩
     obtain ⟨e1,e2⟩:=I.env t k hk hcut' (fun j p hj hp hpt hSj=>hno' j p hj hp hpt (.inr hSj)) u hu;refine ⟨?_,e2.mono sub⟩;rw [<- hag.val e2] at e1
     cases hd:ops[i].dst with
     | none=>simpa [Act.put,hd] using e1
     | some d =>
      have:d ≠ t:=fun e=>hdt (by rw [hd,e])
      simp only [Act.put];rw [Array.getElem?_setIfInBounds_ne this]; exact e1
   ·cases ops[i].dst <;> simp [Act.put,I.size]
   ·cases ops[i].dst <;> simp [Act.put,I.defs]
   ·rcases hj with rfl | hj
    ·rw [ho] at hp; injection hp with hp; subst hp; exact .inr (hedge e he)
    ·exact .inr (I.clos j p hp hj e he)
   ·rcases hj with rfl | hj
    ·exact hi
    ·exact I.dom j hj
  have globS:Glob M.P ρ' (fun b=>D b \/ ∃ k,S k /\ (st k).hp.length <= b /\ b < (st (k + 1)).hp.length):=hg.mono I.agree fun b hb=>.inl hb
  have relS:∀ x ∈ ops[i].op.operands.toList,Rel1 ρ' (fun b=>D b \/ ∃ k,S k /\ (st k).hp.length <= b /\ b < (st (k + 1)).hp.length) (st i).env a'.eval x:=fun x hx =>
   rel1_of2 (okOp_x k1 x hx) (fun t v hxt hv=>rd t (by subst hxt; exact List.mem_append_left _ (mem_tmpsOf hx)) v hv) globS
  have grdS:∀ t want v,ao.guard = some (t,want) -> look (st i).env t = some v -> a'.tmps[t]? = some (ρ'.val v):=fun t want v hgu hv =>
   (rd t (by unfold reads; rw [hgu]; simp) v hv).1
  by_cases hrl:r = ops[i]
  case neg =>
   have hij:i = jl:=Classical.byContradiction fun hne=>hrl ((hsame i _ r ho hr).2.2.2 hne);subst hij;obtain ⟨l1,l2⟩:=hsl _ r ho hr hrl;have hmem:∀ k (o:Oper),ops[k]? = some o -> k < ops.size:=fun k o hk=>(Array.getElem?_eq_some_iff.1 hk).1;have e1:=silHp i _ ho l1;refine hlate r _ ao hr ho hrl h2 (st i).env (fun t ht=>?_) (fun t ht=>?_) S _ (st q).hp a' w' ρ' I.hok I.agree (fun b hb=>?_) hSi (fun b hb=>?_) rd K fun w'' hw''=>?_
   ·have:∀ k,k <= ops.size -> look (st k).env t = look s.env t:=fun k=>by
     induction k with
     | zero=>intro _; rw [tr.zero]
     | succ k ih =>
      intro hk;have hok:=Array.getElem?_eq_getElem (xs:=ops) (i:=k) (by omega);obtain ⟨v,hv⟩:=hput k _ hok;rw [hv,look_put_ne (ht k _ hok)];exact ih (by omega)
    exact this i (by omega)
   ·have:∀ k,i <= k -> k <= ops.size -> look (st k).env t = look (st i).env t:=fun k=>by
     induction k with
     | zero =>
      intro h0 _; have:i = 0:=by omega
      subst this; rfl
     | succ k ih =>
      intro hik hk
      by_cases he:i = k + 1
      ·subst he; rfl
      have hok:=Array.getElem?_eq_getElem (xs:=ops) (i:=k) (by omega);obtain ⟨v,hv⟩:=hput k _ hok;rw [hv,look_put_ne (ht k _ (by omega) hok)];exact ih (by omega) (by omega)
    rw [<- tr.last]; exact this ops.size (by omega) (Nat.le_refl _)
   ·rcases hb with hb | ⟨k,hk,hb⟩
    ·exact .inl hb
    ·exact .inr (nLt hro (nLt (tr.len k (Nat.le_of_lt (I.dom k hk))) hb.1))
   ·exact oldSt q I.qn b hb
   ·have hDD:(fun b=>D b \/ ∃ k,(k = i \/ S k) /\ (st k).hp.length <= b /\ b < (st (k + 1)).hp.length) = (fun b=>D b \/ ∃ k,S k /\ (st k).hp.length <= b /\ b < (st (k + 1)).hp.length):=by
     funext b; apply propext; rw [DS',e1]
     exact ⟨fun h=>h.elim id fun h=>by omega,.inl⟩
    obtain ⟨v,hv⟩:=hput i _ ho
    have hu:a'.put r.dst undef = a'.put ops[i].dst (ρ'.val undef):=by
     rw [(hsame i _ r ho hr).2.1,l2]; rfl
    rw [hu];refine close undef ρ' w'' q (by rw [hv,l2]; rfl) (.refl _ _) (.flat (by simp [flat_eq,undef])) I.mq I.qn (fun j p hj hp hw hS=>?_) (I.done.imp id fun hd j p hj hp hs=>.inr (hd j p hj hp hs)) (by rw [hDD]; exact hw'')
    rcases hS with rfl | hS
    ·rw [ho] at hp; injection hp with hp; subst hp; rw [wri_loud hw] at l1; cases l1
    ·exact I.later j p hj hp hw hS
  case pos =>
  subst hrl
  have hStep:∀ (r:Oper) (a':Act) (w':World),Step M.P ops r a' w' K Q -> Step M.P real r a' w' K Q:=fun r a' w' hst=>by
   have hyl:∀ tm,yielded ops tm = yielded real tm:=fun tm=>by
    funext j
    simp only [yielded]
    cases ho':ops[j]? with
    | none =>
     have:real[j]? = none:=by rw [Array.getElem?_eq_none_iff] at ho' ⊢; omega
     simp [this]
    | some o' =>
     have hj:=(Array.getElem?_eq_some_iff.1 ho').1;have hr':=Array.getElem?_eq_getElem (xs:=real) (i:=j) (by omega);rw [hr'];simp [(hsame j o' _ ho' hr').2.1]
   unfold Step at hst ⊢
   rwa [hyl] at hst
  have hWS:W (fun j=>j = i \/ S j) = W S:=hW i S (hr.trans ho.symm);rw [hWS] at hK close;apply hStep
  cases hsil:silL M.P ls ops[i].op with
  | true =>
   obtain ⟨e1,e3⟩:=silSt i _ ao ho hao hsil
   have hw0:wri M.P ls quiet ops[i] = false:=by
    cases hh:wri M.P ls quiet ops[i] with
    | false=>rfl
    | true=>rw [wri_loud hh] at hsil; cases hsil
   have hro2:ro <= roOf quiet ao.op ro ⟨(st i).env,(st q).hp,[]⟩:=by
    unfold roOf; split
    ·exact nLt hro (tr.len q I.qn)
    ·exact Nat.le_refl _
   obtain ⟨v,v1,_,v2⟩:=step1_sound (a:=a') (s:=⟨(st i).env,(st q).hp,[]⟩) hM hcall (e3 q I.qn (fun j p hj hp hw=>by
    rcases I.done with h | h
    ·rw [h] at hj; rw [hm1 j p hj hp] at hw; cases hw
    ·exact hno j p hp (h j p hj hp (wri_loud hw))) []) h2 (I.hok.raise hro2) globS (nLt hro (tr.len q I.qn)) relS grdS
   refine v2 K Q fun ρ'' w'' g1 g2 g3=>?_;simp only [Dn_eq] at g1 g3
   have hDD:(fun b=>D b \/ ∃ k,(k = i \/ S k) /\ (st k).hp.length <= b /\ b < (st (k + 1)).hp.length) = (fun b=>D b \/ ∃ k,S k /\ (st k).hp.length <= b /\ b < (st (k + 1)).hp.length):=by
    funext b; apply propext; rw [DS',e1]
    exact ⟨fun h=>h.elim id fun h=>by omega,.inl⟩
   refine close v ρ'' w'' q v1 g2 (by rw [hDD]; exact g3) I.mq I.qn (fun j p hj hp hw hS=>?_) (I.done.imp id fun hd j p hj hp hs=>.inr (hd j p hj hp hs)) (by
    rw [hDD]; exact g1.lower g2 (fun b hb=>.inl hb) fun b hb hr hl=>I.hok.fresh b hb hr hl)
   rcases hS with rfl | hS
   ·rw [ho] at hp; injection hp with hp; subst hp; rw [hw0] at hw; cases hw
   ·exact I.later j p hj hp hw hS
  | false =>
   cases hwri:wri M.P ls quiet ops[i] with
   | false =>
    have him:i < m:=by
     rcases Nat.lt_or_ge i m with h | h
     ·exact h
     ·rcases hm2 i _ h ho with h' | h'
      ·rw [hsil] at h'; cases h'
      ·rw [hwri] at h'; cases h'
    have hqm:q = m:=by
     rcases I.done with h | h
     ·exact h
     ·exact absurd (h i _ (Nat.lt_of_lt_of_le him I.mq) ho hsil) hSi
    subst hqm
    have hq2:quiet = true /\ isW ops[i].op = false:=by
     unfold wri at hwri
     cases hqq:quiet with
     | true=>rw [hqq] at hwri; exact ⟨rfl,by simpa using hwri⟩
     | false=>rw [hqq] at hwri; simp [hsil] at hwri
    have hroE:roOf quiet ao.op ro (st i) = (st i).hp.length:=by unfold roOf; rw [hq2.1,h5,hq2.2]; simp
    have notin:∀ b,(D b \/ ∃ k,S k /\ (st k).hp.length <= b /\ b < (st (k + 1)).hp.length) -> ¬ ((st i).hp.length <= b /\ b < (st (i + 1)).hp.length):=fun b hb hr=>by
     rcases hb with hb | ⟨k,hk,hb⟩
     ·have:=DLt b hb; have:=tr.len i (by omega); omega
     ·have hkn:=I.dom k hk
      rcases Nat.lt_trichotomy k i with h | h | h
      ·have:=lenMono i (k + 1) (by omega) (by omega); omega
      ·subst h; exact hSi hk
      ·have:=lenMono k (i + 1) (by omega) (by omega); omega
    have inT:∀ b,(D b \/ ∃ k,S k /\ (st k).hp.length <= b /\ b < (st (k + 1)).hp.length) -> b < (st i).hp.length -> Dn D s.hp.length (st i).hp.length b:=fun b hb hl=>by
     rcases hb with hb | ⟨k,hk,hb⟩
     ·exact .inl hb
     ·exact .inr ⟨nLt (tr.len k (Nat.le_of_lt (I.dom k hk))) hb.1,hl⟩
    have ofT:∀ v,Cl (fun b=>D b \/ ∃ k,S k /\ (st k).hp.length <= b /\ b < (st (k + 1)).hp.length) v -> Cl (Dn D s.hp.length (st i).hp.length) v ->
      Cl (fun b=>(D b \/ ∃ k,S k /\ (st k).hp.length <= b /\ b < (st (k + 1)).hp.length) /\ b < (st i).hp.length) v:=fun v h1 h2 b hb=>⟨h1 b hb,by
     rcases h2 b hb with h | h
     ·exact Nat.lt_of_lt_of_le (DLt b h) (tr.len i (by omega))
     ·exact h.2⟩
    have hokI:HOk M.P ρ' (fun b=>(D b \/ ∃ k,S k /\ (st k).hp.length <= b /\ b < (st (k + 1)).hp.length) /\ b < (st i).hp.length) (st i).hp w' (st i).hp.length (fun B=>B < w'.heap.size) (Old.of w') :=
     (I.hok.sub (fun b hb=>hb.1) (fun b hb=>(pre q i (by omega) (Nat.le_refl _) b hb.2).symm) (fun b hb cs e hk v hv=>by
      refine ofT v ?_ ((closT i (by omega)).2 b (inT b hb.1 hb.2) cs e hk v hv)
      have hk':(st q).hp[b]? = some (.cells cs e):=by rw [pre q i (by omega) (Nat.le_refl _) b hb.2]; exact hk
      exact ((I.hok.at_ hb.1 hk').2 v hv).1)).now
    obtain ⟨v,v1,_,v2⟩:=step1_sound (a:=a') hM hcall h3 h2 (by rw [hroE]; exact hokI) (fun g hgl=>⟨⟨(globS g hgl).1,by
      have:=DLt g (hg g hgl).1; have:=tr.len i (by omega); omega⟩,(globS g hgl).2⟩) (nLt hro (tr.len i (by omega)))
     (fun x hx=>rel1_of2 (okOp_x k1 x hx) (fun t v hxt hv=>⟨(rd t (by subst hxt; exact List.mem_append_left _ (mem_tmpsOf hx)) v hv).1,
      ofT v (rd t (by subst hxt; exact List.mem_append_left _ (mem_tmpsOf hx)) v hv).2 ((closT i (by omega)).1 t v hv)⟩) (fun g hgl=>⟨⟨(globS g hgl).1,by
      have:=DLt g (hg g hgl).1; have:=tr.len i (by omega); omega⟩,(globS g hgl).2⟩)) grdS
    refine v2 K Q fun ρ1 w1 g1 g2 g3=>?_;rw [hroE] at g1
    let ρ2:Rho:=⟨fun b=>if (st i).hp.length <= b /\ b < (st (i + 1)).hp.length then ρ1.blk b else ρ'.blk b,fun b=>if (st i).hp.length <= b /\ b < (st (i + 1)).hp.length then ρ1.cap b else ρ'.cap b,fun b=>if (st i).hp.length <= b /\ b < (st (i + 1)).hp.length then ρ1.off b else ρ'.off b⟩
    have agA:Agree (fun b=>D b \/ ∃ k,S k /\ (st k).hp.length <= b /\ b < (st (k + 1)).hp.length) ρ' ρ2:=fun b hb=>by simp [ρ2,notin b hb]
    have agB:Agree (Dn (fun b=>(D b \/ ∃ k,S k /\ (st k).hp.length <= b /\ b < (st (k + 1)).hp.length) /\ b < (st i).hp.length) (st i).hp.length (st (i + 1)).hp.length) ρ1 ρ2:=fun b hb=>by
     rcases hb with hb | hb
     ·simp only [ρ2,notin b hb.1,if_false]; exact ⟨(g2 b hb).1.symm,(g2 b hb).2.1.symm,(g2 b hb).2.2.symm⟩
     ·simp [ρ2,hb]
    have subB:∀ b,Dn (fun b=>(D b \/ ∃ k,S k /\ (st k).hp.length <= b /\ b < (st (k + 1)).hp.length) /\ b < (st i).hp.length) (st i).hp.length (st (i + 1)).hp.length b ->
      (D b \/ ∃ k,(k = i \/ S k) /\ (st k).hp.length <= b /\ b < (st (k + 1)).hp.length):=fun b hb=>by
     rcases hb with hb | hb
     ·exact sub b hb.1
     ·exact (DS' b).2 (.inr hb)
    have oldW:∀ B,B < w'.heap.size -> w1.heap[B]? = w'.heap[B]?:=fun B hB=>g1.base B hB;have rngEq:∀ b,b < (st (i + 1)).hp.length -> (st q).hp[b]? = (st (i + 1)).hp[b]?:=fun b hb=>pre q (i + 1) (by omega) (Nat.le_refl _) b hb
    have hfin:HOk M.P ρ2 (fun b=>D b \/ ∃ k,(k = i \/ S k) /\ (st k).hp.length <= b /\ b < (st (k + 1)).hp.length) (st q).hp w1 ro N (W S):=by
     refine ⟨fun b hb=>?_,fun b c hb hc hlb hlc hne hwk=>?_,fun b hb hr hl=>?_,fun B hB=>?_,fun B hB=>?_,I.hok.io.trans g1.io⟩
     ·rcases (DS' b).1 hb with hb | hb
      ·obtain ⟨k,hk,hok⟩:=I.hok.blk b hb;exact ⟨k,hk,hok.mono hb agA sub fun hkd=>oldW _ (hok.lt hkd)⟩
      ·obtain ⟨k,hk,hok⟩:=g1.blk b (.inr hb);exact ⟨k,by rw [rngEq b hb.2]; exact hk,hok.mono (.inr hb) agB subB fun _=>rfl⟩
     ·have ltOld:∀ b,(D b \/ ∃ k,S k /\ (st k).hp.length <= b /\ b < (st (k + 1)).hp.length) -> live (st q).hp b -> ρ2.blk b < w'.heap.size:=fun b hb ⟨k,hk,hkd⟩=>by
       rw [(agA b hb).1]; exact (I.hok.at_ hb hk).lt hkd
      have liveNew:∀ b,((st i).hp.length <= b /\ b < (st (i + 1)).hp.length) -> live (st q).hp b -> live (st (i + 1)).hp b:=fun b hb ⟨k,hk,hkd⟩=>⟨k,by rw [<- rngEq b hb.2]; exact hk,hkd⟩
      have geNew:∀ b,((st i).hp.length <= b /\ b < (st (i + 1)).hp.length) -> live (st q).hp b -> w'.heap.size <= ρ2.blk b:=fun b hb hl=>by
       rw [(agB b (.inr hb)).1]; exact Nat.le_of_not_lt (g1.fresh b (.inr hb) hb.1 (liveNew b hb hl))
      rcases (DS' b).1 hb with hb | hb <;> rcases (DS' c).1 hc with hc | hc
      ·rw [(agA b hb).1,(agA c hc).1]; exact I.hok.inj b c hb hc hlb hlc hne hwk
      ·have:=ltOld b hb hlb; have:=geNew c hc hlc; omega
      ·have:=ltOld c hc hlc; have:=geNew b hb hlb; omega
      ·rw [(agB b (.inr hb)).1,(agB c (.inr hc)).1]; exact g1.inj b c (.inr hb) (.inr hc) (liveNew b hb hlb) (liveNew c hc hlc) hne (hwk.imp (fun h'=>h'.to (rngEq b hb.2).symm) fun h'=>h'.to (rngEq c hc.2).symm)
     ·rcases (DS' b).1 hb with hb | hb
      ·rw [(agA b hb).1]; exact I.hok.fresh b hb hr hl
      ·rw [(agB b (.inr hb)).1];obtain ⟨k,hk,hkd⟩:=hl;exact fun hN=>g1.fresh b (.inr hb) hb.1 ⟨k,by rw [<- rngEq b hb.2]; exact hk,hkd⟩ (I.hok.top _ hN)
     ·rw [oldW B (I.hok.top B hB)]; exact I.hok.base B hB
     ·exact g1.top B (I.hok.top B hB)
    have:=close v ρ2 w1 q v1 agA (g3.mono subB) I.mq I.qn (fun j p hj hp hw hS=>by
     rcases hS with rfl | hS
     ·omega
     ·exact I.later j p hj hp hw hS) (.inl rfl) hfin
    rw [agB.val g3] at this;exact this
   | true =>
    have hmi:m <= i:=by
     rcases Nat.lt_or_ge i m with h | h
     ·have:=hm1 i _ h ho; rw [hwri] at this; cases this
     ·exact h
    have hdone:∀ j (p:Oper),j < i -> ops[j]? = some p -> silL M.P ls p.op = false -> S j:=fun j p hj hp hs=>by
     by_cases hS:S j
     ·exact hS
     ·obtain ⟨ap,_,_,c2⟩:=before j p hj hp hS;rw [hwri,hs] at c2; cases c2
    have hqi:q <= i:=by
     rcases Nat.lt_or_ge i q with h | h
     ·rcases I.done with h' | h'
      ·omega
      ·exact absurd (h' i _ h ho hsil) hSi
     ·exact h
    have hhp:(st i).hp = (st q).hp:=still q i hqi (by omega) fun j p hj hji hp=>by
     cases hs:silL M.P ls p.op with
     | true=>rfl
     | false =>
      rcases hm2 j p (nLt I.mq hj) hp with h' | h'
      ·rw [hs] at h'; exact h'
      ·exact absurd (hdone j p hji hp hs) (I.later j p hj hp h')
    have hroE:roOf quiet ao.op ro (st i) = ro:=by
     unfold roOf
     cases hqq:quiet with
     | false=>simp
     | true =>
      have:isW ao.op = true:=by rw [h5]; unfold wri at hwri; rw [hqq] at hwri; simpa using hwri
      simp [this]
    obtain ⟨v,v1,_,v2⟩:=step1_sound (a:=a') hM hcall h3 h2 (by rw [hroE,hhp]; exact I.hok) globS (nLt hro (tr.len i (by omega))) relS grdS;refine v2 K Q fun ρ'' w'' g1 g2 g3=>?_;rw [hroE] at g1
    have hDD:(Dn (fun b=>D b \/ ∃ k,S k /\ (st k).hp.length <= b /\ b < (st (k + 1)).hp.length) (st i).hp.length (st (i + 1)).hp.length) =
      (fun b=>D b \/ ∃ k,(k = i \/ S k) /\ (st k).hp.length <= b /\ b < (st (k + 1)).hp.length):=by
     funext b; apply propext; exact (DS' b).symm
    rw [hDD] at g1 g3;refine close v ρ'' w'' (i + 1) v1 g2 g3 (by omega) (by omega) (fun j p hj hp hw hS=>?_) (.inr fun j p hj hp hs=>?_) g1
    ·rcases hS with rfl | hS
     ·omega
     ·obtain ⟨ap,_,c2⟩:=behind j p (by omega) hp hS;rw [hw,hsil] at c2; cases c2
    ·by_cases hji:j = i
     ·exact .inl hji
     ·exact .inr (hdone j p (by omega) hp hs)
 have fin:∀ (S:Nat -> Prop) a' w' ρ' q,Inv ls dfs M nt ro N (W S) quiet ops D ρ st m S a' w' ρ' q -> (∀ i,i < ops.size -> S i) -> Q .normal a' w':=fun S a' w' ρ' q I hall=>by
  have hcov:∀ n,n <= ops.size -> ∀ b,s.hp.length <= b -> b < (st n).hp.length -> ∃ k,S k /\ (st k).hp.length <= b /\ b < (st (k + 1)).hp.length:=fun n=>by
   induction n with
   | zero=>intro _ b h1 h2; rw [tr.zero] at h2; omega
   | succ n ih =>
    intro hn b h1 h2
    by_cases hb:b < (st n).hp.length
    ·exact ih (by omega) b h1 hb
    ·exact ⟨n,hall n (by omega),by omega,h2⟩
  have hDD:(fun b=>D b \/ ∃ k,S k /\ (st k).hp.length <= b /\ b < (st (k + 1)).hp.length) = Dn D s.hp.length s'.hp.length:=by
   funext b; apply propext; rw [<- tr.last]
   constructor
   ·rintro (hb | ⟨k,hk,hb⟩)
    ·exact .inl hb
    ·have hkn:=I.dom k hk;exact .inr ⟨nLt (tr.len k (by omega)) hb.1,Nat.lt_of_lt_of_le hb.2 (lenMono ops.size (k + 1) (by omega) (Nat.le_refl _))⟩
   ·rintro (hb | hb)
    ·exact .inl hb
    ·exact .inr (hcov ops.size (Nat.le_refl _) b hb.1 hb.2)
  have hhp:s'.hp = (st q).hp:=by
   rw [<- tr.last]
   exact still q ops.size I.qn (Nat.le_refl _) fun j p hj hjn hp=>by
    rcases hm2 j p (nLt I.mq hj) hp with h' | h'
    ·exact h'
    ·exact absurd (hall j hjn) (I.later j p hj hp h')
  have hSn:S = fun i=>i < ops.size:=by funext i; exact propext ⟨I.dom i,hall i⟩
  refine hQ ρ' a' w' (by rw [<- hDD,hhp]; have:=I.hok; rw [hSn] at this ⊢; exact this) I.agree (fun t v hv=>?_) I.size I.defs;rw [<- hDD];rw [<- tr.last] at hv;obtain ⟨k,g1,g2,g3,g4⟩:=cut_of hput t ops.size (Nat.le_refl _);refine I.env t k g1 ?_ (fun j p hkj hp hpt hSj=>g3 j p hkj (I.dom j hSj) hp hpt) v (by rw [<- g4]; exact hv)
  rcases g2 with g2 | ⟨p,hp,hpt⟩
  ·exact .inl g2
  ·exact .inr ⟨p,hp,hpt,hall _ (Array.getElem?_eq_some_iff.1 hp).1⟩
 have all:∀ (fuel:Nat) (listed:Array Bool) a' w' ρ' q,listed.size = ops.size -> cnt listed ops.size <= fuel -> Inv ls dfs M nt ro N (W fun i=>listed.getD i false = true) quiet ops D ρ st m (fun i=>listed.getD i false = true) a' w' ρ' q ->
   wpAny M.P .any real Q fuel listed a' w':=fun fuel=>by
  have flip:∀ (listed:Array Bool),listed.size = ops.size -> ∀ i,i < ops.size -> listed.getD i true = listed.getD i false:=fun listed hl i hi=>by simp [Array.getElem?_eq_getElem (show i < listed.size by omega)]
  have final:∀ (listed:Array Bool) a' w' ρ' q,listed.size = ops.size -> Region.ready .any real listed = [] -> Inv ls dfs M nt ro N (W fun i=>listed.getD i false = true) quiet ops D ρ st m (fun i=>listed.getD i false = true) a' w' ρ' q -> Q .normal a' w' :=
    fun listed a' w' ρ' q hl hr I=>fin _ a' w' ρ' q I fun i hi=>by
   rcases Classical.em (∃ i,i < ops.size /\ listed.getD i false = false) with hex | hex
   ·obtain ⟨j,⟨hj,hjl⟩,hmin⟩:=exists_least hex
    have:j ∈ Region.ready .any real listed:=mem_ready.2 ⟨by rw [flip listed hl j hj]; exact hjl,real[j],Array.getElem?_eq_getElem (by omega),fun e he hb=>by
     rw [(hsame j ops[j] real[j] (Array.getElem?_eq_getElem hj) (Array.getElem?_eq_getElem (by omega))).1] at he
     have hlt:=edgeLt j ops[j] (by simp [Array.getElem?_eq_getElem hj]) e.on (by
      unfold edgesOf; exact List.mem_map.2 ⟨e,List.mem_filter.2 ⟨by simpa using he,hb⟩,rfl⟩)
     have:=hmin e.on hlt
     cases hh:listed.getD e.on false with
     | true=>rfl
     | false=>exact absurd ⟨by omega,hh⟩ this⟩
    rw [hr] at this; cases this
   ·cases hh:listed.getD i false with
    | true=>rfl
    | false=>exact absurd ⟨i,hi,hh⟩ hex
  induction fuel with
  | zero =>
   intro listed a' w' ρ' q hl hc I
   have hr:Region.ready .any real listed = []:=by
    cases hh:Region.ready .any real listed with
    | nil=>rfl
    | cons j r =>
     have hj:j ∈ Region.ready .any real listed:=by rw [hh]; simp
     obtain ⟨h0,o,ho,_⟩:=mem_ready.1 hj
     have:=cnt_zero (Nat.le_zero.1 hc) j (by rw [<- hrs]; exact (Array.getElem?_eq_some_iff.1 ho).1)
     rw [this] at h0; cases h0
   exact ⟨hr,final listed a' w' ρ' q hl hr I⟩
  | succ fuel ih =>
   intro listed a' w' ρ' q hl hc I;refine ⟨fun hr=>final listed a' w' ρ' q hl hr I,fun i hi=>?_⟩;obtain ⟨h0,o,ho,hall⟩:=mem_ready.1 hi
   have hlt:i < ops.size:=by rw [<- hrs]; exact (Array.getElem?_eq_some_iff.1 ho).1
   have haft:=(hsame i ops[i] o (Array.getElem?_eq_getElem hlt) ho).1;unfold wpOp;rw [ho]
   have:=step (fun i=>listed.getD i false = true) a' w' ρ' q i I hlt (by rw [<- flip listed hl i hlt,h0]; simp) (fun e he=>by
    unfold edgesOf at he;obtain ⟨e',he',rfl⟩:=List.mem_map.1 he;obtain ⟨he1,he2⟩:=List.mem_filter.1 he'
    exact hall e' (by rw [haft]; simpa using he1) he2) o ho (wpAny M.P .any real Q fuel (listed.setIfInBounds i true)) (fun a'' w'' ρ'' q'' I'=>by
    have heq:(fun j=>j = i \/ listed.getD j false = true) = (fun j=>(listed.setIfInBounds i true).getD j false = true):=by
     funext j; apply propext
     by_cases hji:j = i
     ·subst hji; simp [show j < listed.size by omega]
     ·simp only [hji,false_or]; rw [getD_set_ne false (Ne.symm hji)]
    rw [heq] at I'
    exact ih _ a'' w'' ρ'' q'' (by simp [hl]) (by have:=cnt_set h0 hlt; omega) I')
   exact this
 have hrep:∀ i,¬ (Array.replicate ops.size false).getD i false = true:=fun i=>by
  rw [Array.getD_eq_getD_getElem?,Array.getElem?_replicate]; split <;> simp
 refine all ops.size _ _ _ ρ m (by simp) (cnt_le _ _) ⟨Nat.le_refl _,hm,fun i o _ ho _=>hrep i,.inl rfl,?_,.refl _ _,fun t k hk hcut hno v hv=>?_,hsz,hdf,fun i o ho hS=>absurd hS (hrep i),fun i hS=>absurd hS (hrep i)⟩
 ·have hDD:(fun b=>D b \/ ∃ i,(Array.replicate ops.size false).getD i false = true /\ (st i).hp.length <= b /\ b < (st (i + 1)).hp.length) = D:=by
   funext b; apply propext
   exact ⟨fun h=>h.elim id fun ⟨i,hi,_⟩=>absurd hi (hrep i),.inl⟩
  rw [hDD]
  have hpre:∀ b,D b -> (st m).hp[b]? = s.hp[b]?:=fun b hb=>by
   have:=pre m 0 (Nat.zero_le _) (Nat.le_refl _) b (by rw [tr.zero]; exact DLt b hb)
   rw [this,tr.zero]
  have hWF:(W fun i=>(Array.replicate ops.size false).getD i false = true) = W fun _=>False:=congrArg W (funext fun i=>propext ⟨hrep i,False.elim⟩);rw [hWF]
  exact (h.sub (fun b hb=>hb) hpre fun b hb cs e hk v hv=>by
   have hk':s.hp[b]? = some (.cells cs e):=by rw [<- hpre b hb]; exact hk
   exact ((h.at_ hb hk').2 v hv).1).world rfl
 ·rcases hcut with rfl | ⟨o,_,_,hS⟩
  ·rw [tr.zero] at hv;obtain ⟨e1,e2⟩:=he t v hv;exact ⟨e1,e2.mono fun b hb=>.inl hb⟩
  ·exact absurd hS (hrep _)
theorem draw_sound (hM:MOk M) (hcall:CallOk M call) {Q:Exit -> Act -> World -> Prop} (hc:convOps M.P nt ops ops.toList = some al) (hd:okDraw M.P [] quiet ops.toList al = true)
  {dfs:List Deferred} (hs:stepsA M call nb ro quiet al s = some s') (h:HOk M.P ρ D s.hp w ro N W0) (hg:Glob M.P ρ D) (he:ER ρ D s.env a.tmps) (hsz:a.tmps.size = nt) (hdf:a.defers = dfs)
  (hro:ro <= s.hp.length) (hnb:nb <= s.hp.length)
  (hQ:∀ ρ' a' w',HOk M.P ρ' (Dn D s.hp.length s'.hp.length) s'.hp w' ro N W0 -> Agree D ρ ρ' -> ER ρ' (Dn D s.hp.length s'.hp.length) s'.env (a':Act).tmps -> a'.tmps.size = nt -> a'.defers = dfs -> Q .normal a' w') :
  wpAny M.P .any ops Q ops.size (Array.replicate ops.size false) a { w with drawn:=w.drawn + 1 } :=
 draw_soundL (real:=ops) (W:=fun _=>W0) (jl:=0) hM hcall rfl (fun i o r h1 h2=>by rw [h1] at h2; cases h2; exact ⟨rfl,rfl,rfl,fun _=>rfl⟩) (fun _ _ _=>rfl)
  (fun r o ao h1 h2 hne=>absurd (oIj (h1.symm.trans h2)) hne) (fun _ _ _ _ _ _ _ _ h=>by rw [ldIn_nil] at h; cases h) hc hd (fun o r h1 h2 hne=>absurd (oIj (h2.symm.trans h1)) hne) hs h hg he hsz hdf hro hnb hQ
end
end Go.AM
