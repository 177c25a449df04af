import Derived.Test.YtaadjlpfdajggaaGreatDoorFjAm13
import Derived.WalkKit
import Derived.ProofKit
import Derived.OpenShut
import Derived.Deep.DeepHandedRow
import Derived.Lib.LaidTab
import Derived.WideKeyArgs
import Derived.Test.YtaadjlpfdajggaaGreatDoorFjAm22
import Derived.Test.YtaadjlpfdajggaaGreatDoorFjAm26
import Derived.Deep.Slices
set_option linter.unusedVariables false
namespace Go.AM
open Go Go.ChangeShapes Go.WideShapes Go.ChangeAt Go.RowKit
section
variable {H:Type} {enc:TypeId × Value -> H} {P:Program} {W W':World}
structure OldKept (W W':World):Prop where
 os:W'.os = W.os
 out:W'.output = W.output
 le:W.heap.size <= W'.heap.size
 same:∀ B,B < W.heap.size -> W'.heap[B]? = W.heap[B]?
theorem OldKept.kept (h:OldKept W W') (may:MemPlace -> Prop):W.keptBut W' may:=by
 refine ⟨h.os,h.out,fun i hi=>?_⟩;rw [h.same i hi]
 cases ho:W.heap[i]? with
 | none=>simp
 | some o=>cases o <;> simp
theorem trodAll_stays (hl:laidOutB P = true) {sp:Nat -> Bool}:∀ {ts:List TypeId} {vs:List Value} {ds:List (DataW H)} {ps:List MemPlace},
  (∀ t ∈ ts,P.readableRec t = true /\ t < P.types.size) -> DataW.TrodAll enc P W 0 (fun _=>true) true ts vs ds ps -> (∀ p ∈ ps,W.sameAt W' p) -> (∀ p ∈ ps,sp p.block = true) -> DataW.TrodAll enc P W' 0 sp true ts vs ds ps
 | [],[],[],_,_,h,_,_=>h
 | t :: ts,v :: vs,d :: ds,_,hr,⟨p,q,h1,h2,rfl⟩,hs,hp =>
  ⟨p,q,WideElems.Trod_stays hl (hr t (by simp)).1 (hr t (by simp)).2 h1 (fun x hx=>hs x (by simp [hx])) (fun x hx=>hp x (by simp [hx])),
   trodAll_stays hl (fun t ht=>hr t (by simp [ht])) h2 (fun x hx=>hs x (by simp [hx])) (fun x hx=>hp x (by simp [hx])),rfl⟩
theorem OldKept.sameAt (h:OldKept W W') {p:MemPlace} (hp:p.block < W.heap.size):W.sameAt W' p:=by
 cases p with
 | cell b o=>simp only [World.sameAt,World.cell?,h.same b hp]
 | map b=>exact h.same b hp
theorem trodAll_length {sp:Nat -> Bool} {held:Bool} {base:Nat}:∀ {ts:List TypeId} {vs:List Value} {ds:List (DataW H)} {ps:List MemPlace},DataW.TrodAll enc P W base sp held ts vs ds ps -> ds.length = ts.length
 | [],[],[],_,_=>rfl
 | _ :: _,_ :: _,_ :: _,_,⟨_,_,_,h2,_⟩=>by simp [trodAll_length h2]
theorem law_post {f:Func} {s:ChangeSpec} {fresh handsOn:Bool} {args:Array Value} {ds gs:List (DataW H)} {before:List MemPlace} {bt:TypeId} (hv:s.vars = [])
  (hf:f.resultTypes = #[bt]) (hb:P.underlying bt = some .bool) (hs:∀ ds:List (DataW H),ds.length = f.params.toList.length -> s.fn H ds = { results:=[.lit (.bool true)],args:=ds })
  (hl:laidOutB P = true) (hr:∀ t ∈ f.params.toList,P.readableRec t = true /\ t < P.types.size)
  (hW:DataW.Whole enc P f.params.toList s.vars false W args.toList ds gs before) (hk:OldKept W W'):s.post enc P f false fresh handsOn false W args (.bool true) W':=by
 have hlt:∀ p ∈ before,p.block < W.heap.size:=fun p hp=>hW.lt p hp;have hW':=hW;obtain ⟨p,q,h1,h2,rfl,h4,h5⟩:=hW
 have hg:gs = [] /\ q = []:=by
  rw [hv] at h2;exact trodVars_none h2
 obtain ⟨rfl,rfl⟩:=hg;have hs':=hs ds (trodAll_length h1);refine ⟨ds,[],p ++ [],[],p,[],hW',?_,?_,?_,hk.kept _,fun h=>by cases h⟩
 ·rw [List.append_nil,hs',hf];exact trodAll_cons_mk (shut_bool hb _) trodAll_mk0
 ·rw [List.append_nil,hs'];exact trodAll_stays hl hr h1 (fun x hx=>hk.sameAt (hlt x (by simp [hx]))) (fun x hx=>by simpa using hlt x (by simp [hx]))
 ·rw [List.append_nil,hs',hv];exact rfl
end
end Go.AM

set_option linter.unusedVariables false
namespace Go.AM
open Go Go.ChangeShapes Go.WideShapes Go.ChangeAt Go.RowKit
def RdT (P:Program) (w:World) (t:TypeId) {α:Type} (c:α -> List Value) (Wf:α -> Prop):Prop :=
 ∀ {H:Type} (enc:TypeId × Value -> H) (base:Nat) (sp:Nat -> Bool) (held:Bool) (fuel:Nat) (cs:List Value) x,DataW.trod enc P w base sp held fuel t cs = some x -> ∃ a,cs = c a /\ Wf a
def InK (k:IntKind) (n:Int):Prop:=k.min <= n /\ n <= k.max
section
variable {P:Program} {w:World} {t e:TypeId}
theorem rd_int {k:IntKind} (ht:P.underlying t = some (.int k)):RdT P w t (cInt k) (InK k):=fun enc base sp held fuel cs x h=>by
 obtain ⟨n,h1,_,h3⟩:=DataW.trod_int ht h;simp only [Lit.wf,Bool.and_eq_true,decide_eq_true_eq] at h3;exact ⟨n,h1,h3⟩
theorem rd_bool (ht:P.underlying t = some .bool):RdT P w t cBool (fun _=>True):=fun enc base sp held fuel cs x h=>by
 obtain ⟨n,h1,_⟩:=DataW.trod_bool ht h;exact ⟨n,h1,trivial⟩
theorem rd_elems {α:Type} {c:α -> List Value} {Wf:α -> Prop} {z:Nat} (hc:Enc c z) (he:RdT P w e c Wf) {H:Type} (enc:TypeId × Value -> H) (base:Nat) (sp:Nat -> Bool) (held:Bool) (fuel:Nat):∀ (n:Nat) (cs:List Value) xs,
  (List.range' 0 n).mapM (fun i=>DataW.trod enc P w base sp held fuel e ((cs.drop (i * z)).take z)) = some xs -> cs.length = n * z -> ∃ l:List α,l.length = n /\ cs = l.flatMap c /\ ∀ a ∈ l,Wf a:=by
 have key:∀ (n k:Nat) (cs:List Value) xs,(List.range' k n).mapM (fun i=>DataW.trod enc P w base sp held fuel e ((cs.drop (i * z)).take z)) = some xs -> cs.length = (k + n) * z -> ∃ l:List α,l.length = n /\ cs.drop (k * z) = l.flatMap c /\ ∀ a ∈ l,Wf a:=fun n=>by
  induction n with
  | zero=>intro k cs xs _ hl; exact ⟨[],rfl,by simp [hl],by simp⟩
  | succ n ih =>
   intro k cs xs h hl;rw [List.range'_succ,List.mapM_cons] at h;simp only [bind,oBe,pure,oIq] at h;obtain ⟨y,hy,ys,hys,rfl⟩:=h;obtain ⟨a,ha,hwa⟩:=he enc base sp held fuel _ _ hy;obtain ⟨l,h1,h2,h3⟩:=ih (k + 1) cs ys hys (by rw [hl]; congr 1; omega);refine ⟨a :: l,by simp [h1],?_,fun b hb=>?_⟩
   ·rw [List.flatMap_cons,<- ha,<- h2,Nat.succ_mul,<- List.drop_drop,List.take_append_drop]
   ·rcases List.mem_cons.1 hb with rfl | hb
    ·exact hwa
    ·exact h3 b hb
 intro n cs xs h hl
 have:=key n 0 cs xs h (by simpa using hl)
 simpa using this
theorem rd_arr {α:Type} {c:α -> List Value} {Wf:α -> Prop} {n z:Nat} (ht:P.underlying t = some (.array n e)) (hz:P.cellsOf e = z) (hs:P.cellsOf t = n * z) (hc:Enc c z) (he:RdT P w e c Wf):RdT P w t (cArr (n:=n) c) (fun a=>∀ x ∈ a.l,Wf x):=fun enc base sp held fuel cs x h=>by
 cases fuel with
 | zero=>simp [DataW.trod] at h
 | succ m =>
  rw [DataW.trod_step] at h;unfold DataW.trodStep at h;simp only [ht] at h
  split at h
  case isFalse=>cases h
  rename_i hl
  simp only [oMe] at h;obtain ⟨ys,hy,_⟩:=h;rw [hs] at hl;rw [List.range_eq_range',hz] at hy;obtain ⟨l,h1,h2,h3⟩:=rd_elems hc he enc base sp held m n cs ys hy hl;exact ⟨⟨l,h1⟩,h2,h3⟩
def RdF (P:Program) (w:World) (N:Nat) (fs:List Field) (o:Nat) {α:Type} (c:α -> List Value) (Wf:α -> Prop):Prop :=
 ∀ {H:Type} (enc:TypeId × Value -> H) (base:Nat) (sp:Nat -> Bool) (held:Bool) (fuel:Nat) (cs:List Value) xs,cs.length = N ->
  fs.mapM (fun f=>DataW.trod enc P w base sp held fuel f.type ((cs.drop f.offset).take (P.cellsOf f.type))) = some xs -> ∃ a,cs.drop o = c a /\ Wf a
theorem rdF_nil {N:Nat}:RdF P w N [] N (fun _:Unit=>[]) (fun _=>True):=fun enc base sp held fuel cs xs hl h=>⟨(),List.drop_eq_nil_of_le (by omega),trivial⟩
theorem rdF_cons {N z o:Nat} {f:Field} {fs:List Field} {α β:Type} {c1:α -> List Value} {c2:β -> List Value} {W1:α -> Prop} {W2:β -> Prop} (ho:f.offset = o) (hz:P.cellsOf f.type = z)
  (h1:RdT P w f.type c1 W1) (h2:RdF P w N fs (o + z) c2 W2):RdF P w N (f :: fs) o (fun x:α × β=>c1 x.1 ++ c2 x.2) (fun x=>W1 x.1 /\ W2 x.2):=fun enc base sp held fuel cs xs hl h=>by
 rw [List.mapM_cons] at h;simp only [bind,oBe,pure,oIq] at h;obtain ⟨y,hy,ys,hys,rfl⟩:=h;obtain ⟨a,ha,hwa⟩:=h1 enc base sp held fuel _ _ hy;obtain ⟨b,hb,hwb⟩:=h2 enc base sp held fuel cs ys hl hys;refine ⟨(a,b),?_,hwa,hwb⟩;show cs.drop o = c1 a ++ c2 b;rw [<- ha,<- hb,ho,hz,<- List.drop_drop,List.take_append_drop]
theorem rd_struct {α:Type} {c:α -> List Value} {Wf:α -> Prop} {N:Nat} {fs:Array Field} (ht:P.underlying t = some (.struct fs)) (hN:P.cellsOf t = N) (h:RdF P w N fs.toList 0 c Wf):RdT P w t c Wf:=fun enc base sp held fuel cs x hx=>by
 cases fuel with
 | zero=>simp [DataW.trod] at hx
 | succ m =>
  rw [DataW.trod_step] at hx;unfold DataW.trodStep at hx;simp only [ht] at hx
  split at hx
  case isFalse=>cases hx
  rename_i hl
  simp only [oMe] at hx;obtain ⟨ys,hy,_⟩:=hx
  have:=h enc base sp held m cs ys (hl.trans hN) hy
  simpa using this
theorem RdT.map {α β:Type} {c:α -> List Value} {c':β -> List Value} {Wf:α -> Prop} {Wf':β -> Prop} (h:RdT P w t c Wf) (g:α -> β) (hc:∀ a,c a = c' (g a)) (hW:∀ a,Wf a -> Wf' (g a)):RdT P w t c' Wf':=fun enc base sp held fuel cs x hx=>by
 obtain ⟨a,h1,h2⟩:=h enc base sp held fuel cs x hx;exact ⟨g a,h1.trans (hc a),hW a h2⟩
section
variable {H:Type} {enc:TypeId × Value -> H} {r:Reach} {b0 base:Nat} {sp:Nat -> Bool} {held:Bool} {v:Value} {d:DataW H} {ps:List MemPlace}
end
end
theorem tab_run {T:FuncId -> Option Co} {n:Nat} {k:Co} {H:Hp} {args:List Value} {x:k.X} {r:k.R} {v:Value} {H':Hp} (hT:T k.f = some k) (hx:k.rd H.length H args x) (hm:k.m n x = some r) (hl:k.lay r args H = (v,H')):tabC T n H.length k.f args H = some (v,H',[]):=by
 rw [ans_tab hT H.length H args x r hx hm,hl]
end Go.AM

set_option linter.unusedVariables false
set_option linter.unusedSimpArgs false
namespace Go.AM
open Go Go.Deep Go.ChangeShapes Go.WideShapes Go.ChangeAt Go.RowKit
structure View where
 cs:List Value
 e:TypeId
 B:Nat
 off:Nat
 cap:Nat
 deriving Inhabited
def View.ok (P:Program) (w:World) (v:View):Prop:=((∃ o,w.heap[v.B]? = some o) /\ ∃ z,szO P v.e = some z /\ v.cs.length <= v.cap * z) /\ ∀ (i:Nat) u,v.cs[i]? = some u -> w.cell? ⟨v.B,i + v.off,none⟩ = some u /\ flat u = true /\ oneB u = true
def View.b (v:View):Blk:=.view v.cs v.e
def vrho (n:Nat) (vs:List View):Rho:=⟨fun b=>if b < n then b else (vs.getD (b - n) default).B,fun b=>if b < n then 0 else (vs.getD (b - n) default).cap,fun b=>if b < n then 0 else (vs.getD (b - n) default).off⟩
section
variable {P:Program} {chk:Hp -> Bool} {g:Hp} {w:World} {vs:List View}
theorem views_hok (hb:Base P chk g) (hw:Holds g w) (hv:∀ v ∈ vs,v.ok P w):HOk P (vrho g.length vs) (fun b=>b < (g ++ vs.map View.b).length) (g ++ vs.map View.b) w (g ++ vs.map View.b).length (fun B=>B < w.heap.size) (Old.of w) where
 blk b hlt:=by
  have hk:=List.getElem?_eq_getElem hlt
  by_cases hbl:b < g.length
  ·have hk':(g ++ vs.map View.b)[b]? = some g[b]:=by rw [lGl hbl,List.getElem?_eq_getElem hbl]
   refine ⟨_,hk',?_⟩
   rcases hb.kind b _ (List.getElem?_eq_getElem hbl) with h | ⟨cs,h⟩
   ·rw [h]; trivial
   ·have:=hw b cs ((List.getElem?_eq_getElem hbl).trans (congrArg some h))
    rw [h];simp only [BlkOk,vrho,hbl,if_true];exact ⟨⟨this.1,trivial⟩,this.2⟩
  ·have hj:b - g.length < vs.length:=by simp at hlt; omega
   have hk':(g ++ vs.map View.b)[b]? = some (vs[b - g.length]).b:=by
    rw [lGr (by omega),List.getElem?_map,List.getElem?_eq_getElem hj]; rfl
   refine ⟨_,hk',?_⟩;have hok:=hv _ (List.getElem_mem hj)
   have hd:vs.getD (b - g.length) default = vs[b - g.length]:=by simp [List.getD,hj]
   simp only [View.b,BlkOk,vrho,hbl,if_false,hd];exact hok
 inj b c hlb hlc _ _ hne hwk:=by
  have no:∀ b,¬ wk (g ++ vs.map View.b) b:=fun b ⟨k,hk,hkw⟩=>by
   by_cases hbl:b < g.length
   ·rw [lGl hbl] at hk
    rcases hb.kind b k hk with h | ⟨cs,h⟩ <;> subst h <;> cases hkw
   ·rw [lGr (by omega),List.getElem?_map] at hk;obtain ⟨v,_,rfl⟩:=oMe.1 hk
    cases hkw
  rcases hwk with h | h
  ·exact (no b h).elim
  ·exact (no c h).elim
 fresh b hb' hr:=by omega
 base B _:=rfl
 top B hB:=hB
 io:=Io.of w
theorem law_views {M:Mach} {c:CallF} (hc:CallOk M c) (hb:Base M.P chk g) (hw:Holds g w) (hv:∀ v ∈ vs,v.ok M.P w) {f:FuncId} {args:List Value} {v:Value} {H':Hp} {d:List Nat}
  (hr:c (g ++ vs.map View.b).length f args (g ++ vs.map View.b) = some (v,H',d)) (hf:f < PB) (hargs:∀ a ∈ args,∀ i ∈ addrs a,i < (g ++ vs.map View.b).length) (hfl:flat v = true) :
  Calls M.P f (args.map (vrho g.length vs).val).toArray w fun e w'=>e = .returned v /\ Io w' (Old.of w) /\ w.heap.size <= w'.heap.size /\ ∀ B,B < w.heap.size -> w'.heap[B]? = w.heap[B]?:=by
 have hok:=views_hok hb hw hv
 have:=(hc _ _ _ _ _ _ _ hr (Nat.le_refl _)).2 _ _ w _ _ hok (fun i hi=>by
  have hi':i < g.length:=by rw [hb.size]; exact hi
  exact ⟨by simp; omega,by simp [vrho,hi'],by simp [vrho,hi']⟩) fun a ha i hi=>hargs a ha i hi
 rw [realF_lt hf] at this
 refine this.mono fun e w' ⟨ρ',he,hk,_,_⟩=>⟨by rw [he.lt hf,Rho.val_flat hfl],hk.io,?_,fun B hB=>hk.base B hB⟩
 rcases Nat.eq_zero_or_pos w.heap.size with h0 | h0
 ·omega
 ·have:=hk.top (w.heap.size - 1) (by omega); omega
end
theorem exists_list {α:Type} {p:Nat -> α -> Prop}:∀ (n:Nat),(∀ i,i < n -> ∃ a,p i a) -> ∃ l:List α,l.length = n /\ ∀ i a,l[i]? = some a -> p i a
 | 0,_=>⟨[],rfl,fun i a h=>by simp at h⟩
 | n + 1,h=>by
  obtain ⟨l,h1,h2⟩:=exists_list n fun i hi=>h i (by omega);obtain ⟨a,ha⟩:=h n (by omega);refine ⟨l ++ [a],by simp [h1],fun i b hb=>?_⟩
  by_cases hi:i < n
  ·rw [lGl (by omega)] at hb; exact h2 i b hb
  ·have:=(lGs.1 hb).1
   simp [h1] at this
   have hin:i = n:=by omega
   subst hin;rw [lGr (by omega)] at hb;simp [h1] at hb;exact hb ▸ ha
theorem mapM_get {α β:Type} {f:α -> Option β}:∀ {l:List α} {r:List β},l.mapM f = some r -> ∀ (i:Nat) a,l[i]? = some a -> ∃ b,f a = some b /\ r[i]? = some b
 | [],_,_,i,a,h=>by simp at h
 | x :: l,r,hr,i,a,h=>by
  rw [List.mapM_cons] at hr;simp only [bind,oBe,pure,oIq] at hr;obtain ⟨y,hy,ys,hys,rfl⟩:=hr
  cases i with
  | zero=>simp at h; subst h; exact ⟨y,hy,rfl⟩
  | succ i=>simp at h; obtain ⟨b,h1,h2⟩:=mapM_get hys i a h; exact ⟨b,h1,by simpa using h2⟩
def rawSl {α:Type} (x:Sl α) (a:Addr) (cap:Nat):Value :=
 match x with
 | none=>.slice none 0 0
 | some l=>.slice (some a) l.length cap
structure TreeOk {α:Type} (w:World) (c:α -> List Value) (Wf:α -> Prop) (a:Addr) (cap:Nat) (more l:List α):Prop where
 spot:a.spot = none
 blk:∃ o,w.heap[a.block]? = some o
 len:(l ++ more).length = cap
 wf:∀ y ∈ l ++ more,Wf y
 small:cap <= maxLen
 cell:∀ (i:Nat) q,((l ++ more).flatMap c)[i]? = some q -> w.cell? ⟨a.block,i + a.off,none⟩ = some q
theorem TreeOk.wf' {α:Type} {w:World} {c:α -> List Value} {Wf:α -> Prop} {a:Addr} {cap:Nat} {more l:List α} (h:TreeOk w c Wf a cap more l):l.length <= maxLen /\ ∀ y ∈ l,Wf y :=
 ⟨by have:=h.len; have:=h.small; simp at *; omega,fun y hy=>h.wf y (List.mem_append_left _ hy)⟩
section
variable {P:Program} {w:World} {H:Type} {enc:TypeId × Value -> H} {b0 base:Nat} {sp:Nat -> Bool} {held:Bool} {d:DataW H} {ps:List MemPlace} {t u e:TypeId}
theorem op_wsl {α:Type} {c:α -> List Value} {Wf:α -> Prop} {z:Nat} {fd:Field} {v:Value} (ht:P.underlying t = some (.struct #[fd])) (hft:fd.type = u) (hfo:fd.offset = 0) (hu:P.underlying u = some (.slice e)) (hN:P.cellsOf t = 1) (hNu:P.cellsOf u = 1)
  (hts:P.cellTypes P.depth t = some [u]) (hz:P.cellsOf e = z) (hc:Enc c z) (he:RdT P w e c Wf) (hsp:∀ b,sp b = true) (hval:Value.okWide P w .any b0 t v) (hd:DataW.Trod enc P w base sp held t v d ps) :
  ∃ (x:Sl α) (a:Addr) (cap:Nat) (more:List α),v = .agg #[rawSl x a cap] /\
   ∀ l,x = some l -> TreeOk w c Wf a cap more l:=by
 unfold Value.okWide at hval;rw [ht] at hval;obtain ⟨cs,rfl,hsz,ts,hts',_,hcell⟩:=hval
 rw [hts] at hts'; injection hts' with hts'; subst hts'
 rw [hN] at hsz
 obtain ⟨q,rfl⟩:∃ q,cs = #[q]:=by
  match cs,hsz with
  | ⟨[q]⟩,_=>exact ⟨q,rfl⟩
 obtain ⟨u',hu',hq⟩:=hcell 0 q rfl;simp at hu'; subst hu';obtain ⟨fuel,hf⟩:=hd
 cases fuel with
 | zero=>simp [DataW.trod] at hf
 | succ m =>
  rw [DataW.trod_step] at hf;unfold DataW.trodStep at hf;simp only [ht,Value.cells,List.length_cons,List.length_nil,hN,if_true,oMe] at hf;obtain ⟨ys,hy,_⟩:=hf;simp only [List.mapM_cons,List.mapM_nil,bind,oBe,pure] at hy;obtain ⟨y,hy,_⟩:=hy;rw [hft,hfo,hNu] at hy;simp only [List.drop_zero,List.take_succ_cons,List.take_zero] at hy
  rcases open_slice hu hy with ⟨h1,_⟩ | ⟨a,len,cap,n,k,D,Pl,h1,hb,hlc,hm,hn,_,hx⟩
  ·injection h1 with h1
   exact ⟨none,default,0,[],by rw [h1]; rfl,fun l hl=>by cases hl⟩
  ·injection h1 with h1
   subst h1;rw [hsp,if_pos rfl] at hn; subst hn
   have hq':Cell.ok P w .any b0 u (.slice (some a) len n):=by
    unfold Cell.okWide at hq;simp only [hu] at hq;exact hq
   unfold Cell.ok at hq';simp only [hu] at hq';obtain ⟨_,_,_,hspot,row,cells,hshape,_⟩:=hq';obtain ⟨ab,ao,as⟩:=a;simp only at hspot hshape hx;subst hspot
   have hheap:∃ o,w.heap[ab]? = some o:=by
    unfold World.shape? at hshape
    cases ho:w.heap[ab]? with
    | none=>simp [ho] at hshape
    | some o=>exact ⟨o,rfl⟩
   obtain ⟨L,hL,hLp⟩:=exists_list (p:=fun i y=>w.cells? base ((⟨ab,ao,none⟩:Addr).add (i * P.cellsOf e)) (P.cellsOf e) = some (c y) /\ Wf y) n fun i hi=>by
    obtain ⟨cs',h2,h3⟩:=hx i hi;obtain ⟨y,rfl,hy⟩:=he enc base sp held k _ _ h3;exact ⟨y,h2,hy⟩
   refine ⟨some (L.take len),⟨ab,ao,none⟩,n,L.drop len,?_,fun l hl=>?_⟩
   ·simp only [rawSl,List.length_take,hL,Nat.min_eq_left hlc]
   ·injection hl with hl; subst hl
    refine ⟨rfl,hheap,by rw [List.take_append_drop]; exact hL,(List.take_append_drop len L).symm ▸ fun y hy=>?_,hm,(List.take_append_drop len L).symm ▸ fun i q hq=>?_⟩
    ·obtain ⟨i,hi⟩:=List.mem_iff_getElem?.1 hy;exact (hLp i y hi).2
    ·have hi:=(lGs.1 hq).1;rw [flatMap_len hc.len] at hi
     have hz0:0 < z:=by
      rcases Nat.eq_zero_or_pos z with h | h
      ·subst h; simp at hi
      ·exact h
     have hj:i / z < L.length:=Nat.div_lt_of_lt_mul (by rw [Nat.mul_comm]; exact hi);obtain ⟨g1,_⟩:=hLp (i / z) _ (List.getElem?_eq_getElem hj);rw [hz] at g1;unfold World.cells? at g1
     split at g1
     case isFalse=>cases g1
     obtain ⟨q',g2,g3⟩:=mapM_get g1 (i % z) (i % z) (by rw [List.getElem?_range (Nat.mod_lt _ hz0)])
     haveI:Inhabited α:=⟨L[i / z]⟩
     have hseg:=seg_el hc.len L (i / z) [] hj;rw [List.append_nil] at hseg
     have hget:(L.flatMap c)[i]? = (c L[i / z])[i % z]?:=by
      have h4:=hseg.1;rw [hc.len,show L.getD (i / z) default = L[i / z] by simp [List.getD,hj]] at h4;rw [<- h4,List.getElem?_take_of_lt (Nat.mod_lt _ hz0),List.getElem?_drop]
      congr 1
      rw [Nat.mul_comm]; exact (Nat.div_add_mod i z).symm
     rw [hget,g3] at hq
     injection hq with hq; subst hq
     rw [add_none,add_none] at g2;have hdm:=Nat.div_add_mod i z;rw [Nat.mul_comm] at hdm;rw [<- g2];exact congrArg (fun o=>w.cell? ⟨ab,o,none⟩) (show i + ao = ao + i / z * z + i % z by omega)
end
def vwOf {α:Type} (c:α -> List Value) (e:TypeId) (x:Sl α) (a:Addr) (cap:Nat) (more:List α):List View :=
 match x with
 | none=>[]
 | some l=>[⟨(l ++ more).flatMap c,e,a.block,a.off,cap⟩]
section
variable {α:Type} {P:Program} {w:World} {c:α -> List Value} {Wf:α -> Prop} {e:TypeId} {z:Nat} {x:Sl α} {a:Addr} {cap:Nat} {more:List α} {g:Hp} {vs us:List View}
theorem vwOf_ok (hc:Enc c z) (hz:szO P e = some z) (h:∀ l,x = some l -> TreeOk w c Wf a cap more l):∀ v ∈ vwOf c e x a cap more,v.ok P w:=by
 cases x with
 | none=>simp [vwOf]
 | some l =>
  have h:=h l rfl;intro v hv;simp only [vwOf,List.mem_singleton] at hv;subst hv;refine ⟨⟨h.blk,z,hz,?_⟩,fun i u hu=>⟨h.cell i u hu,?_,?_⟩⟩
  ·show ((l ++ more).flatMap c).length <= cap * z;rw [flatMap_len hc.len,h.len]; exact Nat.le_refl _
  ·obtain ⟨y,_,hy⟩:=List.mem_flatMap.1 (List.mem_iff_getElem?.2 ⟨i,hu⟩);exact hc.flat y u hy
  ·obtain ⟨y,_,hy⟩:=List.mem_flatMap.1 (List.mem_iff_getElem?.2 ⟨i,hu⟩);exact hc.one y u hy
theorem vwOf_sl:SlH (g ++ (vs ++ (vwOf c e x a cap more ++ us)).map View.b) c e x (g.length + vs.length):=by
 intro l hl;subst hl;refine ⟨more.flatMap c,.view ?_⟩;rw [lGr (by omega),List.getElem?_map,lGr (by omega)];simp [vwOf,View.b]
theorem vwOf_val (h:∀ l,x = some l -> TreeOk w c Wf a cap more l):(vrho g.length (vs ++ (vwOf c e x a cap more ++ us))).val (vAgg [slV x (g.length + vs.length)]) = .agg #[rawSl x a cap]:=by
 cases x with
 | none=>simp [slV,vAgg,Rho.val,vmap,rawSl]
 | some l =>
  have h:=h l rfl;obtain ⟨ab,ao,as⟩:=a;have h1:=h.spot;simp only at h1;subst h1;simp [slV,vAgg,Rho.val,vmap,vrho,vwOf,rawSl];omega
theorem vwOf_addrs:∀ i ∈ addrs (vAgg [slV x (g.length + vs.length)]),i < (g ++ (vs ++ (vwOf c e x a cap more ++ us)).map View.b).length:=by
 intro i hi
 cases x with
 | none=>simp [vAgg,slV,addrs] at hi
 | some l =>
  simp [vAgg,slV,addrs] at hi;subst hi;simp [vwOf]
end
theorem mv_nil {f:Value -> Value}:([]:List Value).map f = []:=rfl
theorem mv_cons {f:Value -> Value} {a b:Value} {l m:List Value} (h:f a = b) (h':l.map f = m):(a :: l).map f = b :: m:=by rw [List.map_cons,h,h']
theorem am_nil {n:Nat}:∀ a ∈ ([]:List Value),∀ i ∈ addrs a,i < n:=by simp
theorem am_cons {v:Value} {l:List Value} {n:Nat} (h:∀ i ∈ addrs v,i < n) (h':∀ a ∈ l,∀ i ∈ addrs a,i < n):∀ a ∈ v :: l,∀ i ∈ addrs a,i < n:=by
 intro a ha
 rcases List.mem_cons.1 ha with rfl | ha
 ·exact h
 ·exact h' a ha
theorem vk_nil {P:Program} {w:World}:∀ v ∈ ([]:List View),v.ok P w:=by simp
theorem vk_app {P:Program} {w:World} {l m:List View} (h:∀ v ∈ l,v.ok P w) (h':∀ v ∈ m,v.ok P w):∀ v ∈ l ++ m,v.ok P w:=by
 intro v hv
 rcases List.mem_append.1 hv with hv | hv
 ·exact h v hv
 ·exact h' v hv
theorem law_viewed {H:Type} {enc:TypeId × Value -> H} {W:World} {M:Mach} {c:CallF} {chk:Hp -> Bool} {g:Hp} {vs:List View} {f:FuncId} {fn:Func} {s:ChangeSpec} {fresh handsOn:Bool} {args:Array Value} {av:List Value} {ds gs:List (DataW H)} {before:List MemPlace} {bt:TypeId} {H':Hp} {d:List Nat}
  (hc:CallOk M c) (hb:Base M.P chk g) (hvs:∀ v ∈ vs,v.ok M.P W) (hr:c (g ++ vs.map View.b).length f av (g ++ vs.map View.b) = some (.bool true,H',d)) (hm:av.map (vrho g.length vs).val = args.toList) (hargs:∀ a ∈ av,∀ i ∈ addrs a,i < (g ++ vs.map View.b).length) (hh:Holds g W) (hsm:f < PB)
  (hv:s.vars = []) (hf:fn.resultTypes = #[bt]) (hbt:M.P.underlying bt = some .bool) (hs:∀ ds:List (DataW H),ds.length = fn.params.toList.length -> s.fn H ds = { results:=[.lit (.bool true)],args:=ds })
  (hl:laidOutB M.P = true) (hread:∀ t ∈ fn.params.toList,M.P.readableRec t = true /\ t < M.P.types.size)
  (hW:DataW.Whole enc M.P fn.params.toList s.vars false W args.toList ds gs before) :
  Calls M.P f args W fun e W'=>∃ v,e = .returned v /\ s.post enc M.P fn false fresh handsOn false W args v W':=by
 have:=law_views hc hb hh hvs hr hsm hargs (by simp [flat_eq])
 rw [hm,Array.toArray_toList] at this
 exact this.mono fun e W' ⟨h1,h2,h4,h5⟩=>⟨_,h1,law_post hv hf hbt hs hl hread hW ⟨h2.1,h2.2.1,h4,h5⟩⟩
end Go.AM
