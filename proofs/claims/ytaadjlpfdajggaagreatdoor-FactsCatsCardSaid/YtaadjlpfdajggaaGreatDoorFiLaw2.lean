import Derived.Test.YtaadjlpfdajggaaGreatDoorFiLaw
import Derived.Test.YtaadjlpfdajggaaGreatDoorFiAm22
set_option linter.unusedVariables false
namespace Go.AM
open Go Go.ChangeShapes Go.WideShapes Go.ChangeAt Go.RowKit
def RdT (P:Program) (w:World) (t:TypeId) {α:Type} (c:α → List Value) (Wf:α → Prop):Prop :=
 ∀ {H:Type} (enc:TypeId × Value → H) (base:Nat) (sp:Nat → Bool) (held:Bool) (fuel:Nat) (cs:List Value) x,DataW.trod enc P w base sp held fuel t cs = some x → ∃ a,cs = c a ∧ Wf a
def InK (k:IntKind) (n:Int):Prop:=k.min ≤ n ∧ n ≤ k.max
section
variable {P:Program} {w:World} {t e:TypeId}
theorem rd_int {k:IntKind} (ht:P.underlying t = some (.int k)):RdT P w t (cInt k) (InK k):=fun enc base sp held fuel cs x h=>by
 obtain ⟨n,h1,_,h3⟩:=DataW.trod_int ht h
 simp only [Lit.wf,Bool.and_eq_true,decide_eq_true_eq] at h3
 exact ⟨n,h1,h3⟩
theorem rd_bool (ht:P.underlying t = some .bool):RdT P w t cBool (fun _=>True):=fun enc base sp held fuel cs x h=>by
 obtain ⟨n,h1,_⟩:=DataW.trod_bool ht h
 exact ⟨n,h1,trivial⟩
theorem rd_elems {α:Type} {c:α → List Value} {Wf:α → Prop} {z:Nat} (hc:Enc c z) (he:RdT P w e c Wf) {H:Type} (enc:TypeId × Value → H) (base:Nat) (sp:Nat → Bool) (held:Bool) (fuel:Nat):∀ (n:Nat) (cs:List Value) xs,
  (List.range' 0 n).mapM (fun i=>DataW.trod enc P w base sp held fuel e ((cs.drop (i * z)).take z)) = some xs → cs.length = n * z → ∃ l:List α,l.length = n ∧ cs = l.flatMap c ∧ ∀ a ∈ l,Wf a:=by
 have key:∀ (n k:Nat) (cs:List Value) xs,(List.range' k n).mapM (fun i=>DataW.trod enc P w base sp held fuel e ((cs.drop (i * z)).take z)) = some xs → cs.length = (k + n) * z → ∃ l:List α,l.length = n ∧ cs.drop (k * z) = l.flatMap c ∧ ∀ a ∈ l,Wf a:=fun n=>by
  induction n with
  | zero=>intro k cs xs _ hl; exact ⟨[],rfl,by simp [hl],by simp⟩
  | succ n ih =>
   intro k cs xs h hl
   rw [List.range'_succ,List.mapM_cons] at h
   simp only [bind,Option.bind_eq_some_iff,pure,Option.some.injEq] at h
   obtain ⟨y,hy,ys,hys,rfl⟩:=h
   obtain ⟨a,ha,hwa⟩:=he enc base sp held fuel _ _ hy
   obtain ⟨l,h1,h2,h3⟩:=ih (k + 1) cs ys hys (by rw [hl]; congr 1; omega)
   refine ⟨a :: l,by simp [h1],?_,fun b hb=>?_⟩
   ·rw [List.flatMap_cons,← ha,← h2,Nat.succ_mul,← List.drop_drop,List.take_append_drop]
   ·rcases List.mem_cons.1 hb with rfl | hb
    ·exact hwa
    ·exact h3 b hb
 intro n cs xs h hl
 have:=key n 0 cs xs h (by simpa using hl)
 simpa using this
theorem rd_arr {α:Type} {c:α → List Value} {Wf:α → Prop} {n z:Nat} (ht:P.underlying t = some (.array n e)) (hz:P.cellsOf e = z) (hs:P.cellsOf t = n * z) (hc:Enc c z) (he:RdT P w e c Wf):RdT P w t (cArr (n:=n) c) (fun a=>∀ x ∈ a.l,Wf x):=fun enc base sp held fuel cs x h=>by
 cases fuel with
 | zero=>simp [DataW.trod] at h
 | succ m =>
  rw [DataW.trod_step] at h
  unfold DataW.trodStep at h
  simp only [ht] at h
  split at h
  case isFalse=>cases h
  rename_i hl
  simp only [Option.map_eq_some_iff] at h
  obtain ⟨ys,hy,_⟩:=h
  rw [hs] at hl
  rw [List.range_eq_range',hz] at hy
  obtain ⟨l,h1,h2,h3⟩:=rd_elems hc he enc base sp held m n cs ys hy hl
  exact ⟨⟨l,h1⟩,h2,h3⟩
def RdF (P:Program) (w:World) (N:Nat) (fs:List Field) (o:Nat) {α:Type} (c:α → List Value) (Wf:α → Prop):Prop :=
 ∀ {H:Type} (enc:TypeId × Value → H) (base:Nat) (sp:Nat → Bool) (held:Bool) (fuel:Nat) (cs:List Value) xs,cs.length = N →
  fs.mapM (fun f=>DataW.trod enc P w base sp held fuel f.type ((cs.drop f.offset).take (P.cellsOf f.type))) = some xs → ∃ a,cs.drop o = c a ∧ Wf a
theorem rdF_nil {N:Nat}:RdF P w N [] N (fun _:Unit=>[]) (fun _=>True):=fun enc base sp held fuel cs xs hl h=>⟨(),List.drop_eq_nil_of_le (by omega),trivial⟩
theorem rdF_cons {N z o:Nat} {f:Field} {fs:List Field} {α β:Type} {c1:α → List Value} {c2:β → List Value} {W1:α → Prop} {W2:β → Prop} (ho:f.offset = o) (hz:P.cellsOf f.type = z)
  (h1:RdT P w f.type c1 W1) (h2:RdF P w N fs (o + z) c2 W2):RdF P w N (f :: fs) o (fun x:α × β=>c1 x.1 ++ c2 x.2) (fun x=>W1 x.1 ∧ W2 x.2):=fun enc base sp held fuel cs xs hl h=>by
 rw [List.mapM_cons] at h
 simp only [bind,Option.bind_eq_some_iff,pure,Option.some.injEq] at h
 obtain ⟨y,hy,ys,hys,rfl⟩:=h
 obtain ⟨a,ha,hwa⟩:=h1 enc base sp held fuel _ _ hy
 obtain ⟨b,hb,hwb⟩:=h2 enc base sp held fuel cs ys hl hys
 refine ⟨(a,b),?_,hwa,hwb⟩
 show cs.drop o = c1 a ++ c2 b
 rw [← ha,← hb,ho,hz,← List.drop_drop,List.take_append_drop]
theorem rd_struct {α:Type} {c:α → List Value} {Wf:α → Prop} {N:Nat} {fs:Array Field} (ht:P.underlying t = some (.struct fs)) (hN:P.cellsOf t = N) (h:RdF P w N fs.toList 0 c Wf):RdT P w t c Wf:=fun enc base sp held fuel cs x hx=>by
 cases fuel with
 | zero=>simp [DataW.trod] at hx
 | succ m =>
  rw [DataW.trod_step] at hx
  unfold DataW.trodStep at hx
  simp only [ht] at hx
  split at hx
  case isFalse=>cases hx
  rename_i hl
  simp only [Option.map_eq_some_iff] at hx
  obtain ⟨ys,hy,_⟩:=hx
  have:=h enc base sp held m cs ys (hl.trans hN) hy
  simpa using this
theorem RdT.map {α β:Type} {c:α → List Value} {c':β → List Value} {Wf:α → Prop} {Wf':β → Prop} (h:RdT P w t c Wf) (g:α → β) (hc:∀ a,c a = c' (g a)) (hW:∀ a,Wf a → Wf' (g a)):RdT P w t c' Wf':=fun enc base sp held fuel cs x hx=>by
 obtain ⟨a,h1,h2⟩:=h enc base sp held fuel cs x hx
 exact ⟨g a,h1.trans (hc a),hW a h2⟩
section
variable {H:Type} {enc:TypeId × Value → H} {r:Reach} {b0 base:Nat} {sp:Nat → Bool} {held:Bool} {v:Value} {d:DataW H} {ps:List MemPlace}
end
end
theorem tab_run {T:FuncId → Option Co} {n:Nat} {k:Co} {H:Hp} {args:List Value} {x:k.X} {r:k.R} {v:Value} {H':Hp} (hT:T k.f = some k) (hx:k.rd H.length H args x) (hm:k.m n x = some r) (hl:k.lay r args H = (v,H')):tabC T n H.length k.f args H = some (v,H',[]):=by
 rw [ans_tab hT H.length H args x r hx hm,hl]
end Go.AM
