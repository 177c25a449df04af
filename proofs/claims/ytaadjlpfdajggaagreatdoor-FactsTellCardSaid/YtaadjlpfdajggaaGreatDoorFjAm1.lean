import Derived.Test.YtaadjlpfdajggaaGreatDoorFjAm0
import Derived.Laws.CopyRow
import Derived.Laws.Cells
import Derived.Laws.World
set_option linter.unusedVariables false
set_option linter.unusedSimpArgs false
namespace Go.AM
open Go
theorem pureRun_run {α:Type} {P:Program}:∀ {s:Sem α} {a:α},pureRun P s = some a -> ∀ w,s.run P w = .ok a w
 | .pure _,_,h,w=>by simp [pureRun] at h; simp [Sem.run,h]
 | .program k,_,h,w=>by simp only [pureRun] at h; simp only [Sem.run]; exact pureRun_run h w
 | .mark _ k,_,h,w=>by simp only [pureRun] at h; simp only [Sem.run]; exact pureRun_run h w
 | .load ..,_,h,_=>by simp [pureRun] at h
 | .store ..,_,h,_=>by simp [pureRun] at h
 | .new ..,_,h,_=>by simp [pureRun] at h
 | .shape ..,_,h,_=>by simp [pureRun] at h
 | .freeze ..,_,h,_=>by simp [pureRun] at h
 | .frozen ..,_,h,_=>by simp [pureRun] at h
 | .getObj ..,_,h,_=>by simp [pureRun] at h
 | .setObj ..,_,h,_=>by simp [pureRun] at h
 | .choose ..,_,h,_=>by simp [pureRun] at h
 | .sys ..,_,h,_=>by simp [pureRun] at h
 | .halt ..,_,h,_=>by simp [pureRun] at h
theorem pureRun_bind {α β:Type} (P:Program) (s:Sem α) (f:α -> Sem β):pureRun P (s >>= f) = (pureRun P s).bind fun a=>pureRun P (f a):=by
 change pureRun P (s.bind f) = _
 induction s <;> simp_all [Sem.bind,pureRun]
@[simp] theorem pureRun_pure {α:Type} (P:Program) (a:α):pureRun P (pure a:Sem α) = some a:=rfl
@[simp] theorem pureRun_program (P:Program):pureRun P program = some P:=rfl
@[simp] theorem pureRun_mark (P:Program) (m:Mark):pureRun P (mark m) = some ():=rfl
@[simp] theorem pureRun_stuck {α:Type} (P:Program) (s:String):pureRun P (stuck s:Sem α) = none:=rfl
@[simp] theorem pureRun_unsupported {α:Type} (P:Program) (u:Unsupported):pureRun P (unsupported u:Sem α) = none:=rfl
section values
variable (fb gb fo go:Nat -> Nat) (fs gs:Nat -> Nat -> Nat)
@[simp] theorem vmap_pointer (a:Addr):vmap fb fo fs (.pointer (some a)) = .pointer (some ⟨fb a.block,a.off + fo a.block,a.spot⟩):=by rw [vmap]
@[simp] theorem vmap_slice (a:Addr) (n q:Nat):vmap fb fo fs (.slice (some a) n q) = .slice (some ⟨fb a.block,a.off + fo a.block,a.spot⟩) n (fs a.block q):=by rw [vmap]
@[simp] theorem vmap_map (r:Nat):vmap fb fo fs (.map (some r)) = .map (some (fb r)):=by rw [vmap]
@[simp] theorem vmap_chan (r:Nat):vmap fb fo fs (.chan (some r)) = .chan (some (fb r)):=by rw [vmap]
@[simp] theorem vmap_func (fn:Fn) (f c:Array Value):vmap fb fo fs (.func fn f c) = .func (fnMap fb fn) (f.map (vmap fb fo fs)) (c.map (vmap fb fo fs)):=by
 rw [vmap]; simp
@[simp] theorem vmap_iface (t:TypeId) (v:Value):vmap fb fo fs (.iface t v) = .iface t (vmap fb fo fs v):=by rw [vmap]
@[simp] theorem vmap_agg (cs:Array Value):vmap fb fo fs (.agg cs) = .agg (cs.map (vmap fb fo fs)):=by rw [vmap]; simp
@[simp] theorem vmap_tuple (cs:Array Value):vmap fb fo fs (.tuple cs) = .tuple (cs.map (vmap fb fo fs)):=by rw [vmap]; simp
@[simp] theorem vmap_bool (b:Bool):vmap fb fo fs (.bool b) = .bool b:=by simp [vmap]
@[simp] theorem vmap_int (k:IntKind) (n:Int):vmap fb fo fs (.int k n) = .int k n:=by simp [vmap]
@[simp] theorem vmap_float (k:FloatKind) (n:Nat):vmap fb fo fs (.float k n) = .float k n:=by simp [vmap]
@[simp] theorem vmap_complex (k:FloatKind) (n m:Nat):vmap fb fo fs (.complex k n m) = .complex k n m:=by simp [vmap]
@[simp] theorem vmap_string (s:ByteArray):vmap fb fo fs (.string s) = .string s:=by simp [vmap]
@[simp] theorem vmap_nilp:vmap fb fo fs (.pointer none) = .pointer none:=by simp [vmap]
@[simp] theorem vmap_nils (n q:Nat):vmap fb fo fs (.slice none n q) = .slice none n q:=by simp [vmap]
@[simp] theorem vmap_nilm:vmap fb fo fs (.map none) = .map none:=by simp [vmap]
@[simp] theorem vmap_nilc:vmap fb fo fs (.chan none) = .chan none:=by simp [vmap]
@[simp] theorem vmap_nilf:vmap fb fo fs .nilFunc = .nilFunc:=by simp [vmap]
@[simp] theorem vmap_nili:vmap fb fo fs .nilIface = .nilIface:=by simp [vmap]
@[simp] theorem addrs_pointer (a:Addr):addrs (.pointer (some a)) = [a.block]:=by rw [addrs]
@[simp] theorem addrs_slice (a:Addr) (n q:Nat):addrs (.slice (some a) n q) = [a.block]:=by rw [addrs]
@[simp] theorem addrs_map (r:Nat):addrs (.map (some r)) = [r]:=by rw [addrs]
@[simp] theorem addrs_chan (r:Nat):addrs (.chan (some r)) = [r]:=by rw [addrs]
@[simp] theorem addrs_func (fn:Fn) (f c:Array Value):addrs (.func fn f c) = fnAddrs fn ++ f.toList.flatMap addrs ++ c.toList.flatMap addrs:=by
 rw [addrs]; simp [List.flatMap_def,List.map_attach_eq_pmap]
@[simp] theorem addrs_iface (t:TypeId) (v:Value):addrs (.iface t v) = addrs v:=by rw [addrs]
@[simp] theorem addrs_agg (cs:Array Value):addrs (.agg cs) = cs.toList.flatMap addrs:=by
 rw [addrs]; simp [List.flatMap_def,List.map_attach_eq_pmap]
@[simp] theorem addrs_tuple (cs:Array Value):addrs (.tuple cs) = cs.toList.flatMap addrs:=by
 rw [addrs]; simp [List.flatMap_def,List.map_attach_eq_pmap]
@[simp] theorem addrs_bool (b:Bool):addrs (.bool b) = []:=by simp [addrs]
@[simp] theorem addrs_int (k:IntKind) (n:Int):addrs (.int k n) = []:=by simp [addrs]
@[simp] theorem addrs_float (k:FloatKind) (n:Nat):addrs (.float k n) = []:=by simp [addrs]
@[simp] theorem addrs_complex (k:FloatKind) (n m:Nat):addrs (.complex k n m) = []:=by simp [addrs]
@[simp] theorem addrs_string (s:ByteArray):addrs (.string s) = []:=by simp [addrs]
@[simp] theorem addrs_nilp:addrs (.pointer none) = []:=by simp [addrs]
@[simp] theorem addrs_nils (n q:Nat):addrs (.slice none n q) = []:=by simp [addrs]
@[simp] theorem addrs_nilm:addrs (.map none) = []:=by simp [addrs]
@[simp] theorem addrs_nilc:addrs (.chan none) = []:=by simp [addrs]
@[simp] theorem addrs_nilf:addrs .nilFunc = []:=by simp [addrs]
@[simp] theorem addrs_nili:addrs .nilIface = []:=by simp [addrs]
theorem value_ind {p:Value -> Prop} (atom:∀ v,(∀ fn f c,v ≠ .func fn f c) -> (∀ t u,v ≠ .iface t u) -> (∀ cs,v ≠ .agg cs) -> (∀ cs,v ≠ .tuple cs) -> p v)
  (func:∀ fn f c,(∀ x ∈ f.toList,p x) -> (∀ x ∈ c.toList,p x) -> p (.func fn f c)) (iface:∀ t v,p v -> p (.iface t v))
  (agg:∀ cs,(∀ x ∈ cs.toList,p x) -> p (.agg cs)) (tuple:∀ cs,(∀ x ∈ cs.toList,p x) -> p (.tuple cs)):∀ v,p v
 | .func fn f c=>func fn f c (fun x hx=>value_ind atom func iface agg tuple x) (fun x hx=>value_ind atom func iface agg tuple x)
 | .iface t v=>iface t v (value_ind atom func iface agg tuple v)
 | .agg cs=>agg cs fun x hx=>value_ind atom func iface agg tuple x
 | .tuple cs=>tuple cs fun x hx=>value_ind atom func iface agg tuple x
 | .bool _ | .int _ _ | .float _ _ | .complex _ _ _ | .string _ | .pointer _ | .slice _ _ _ | .map _ | .chan _ | .nilFunc | .nilIface=>atom _ (by simp) (by simp) (by simp) (by simp)
termination_by v=>SizeOf.sizeOf v
decreasing_by
 all_goals simp_wf
 all_goals first | omega | (have:=Array.sizeOf_lt_of_mem (Array.mem_toList_iff.1 hx); simp at this ⊢; omega)
variable {fb gb fo go fs gs}
theorem fnMap_congr {fn:Fn} (h:∀ b ∈ fnAddrs fn,fb b = gb b):fnMap fb fn = fnMap gb fn:=by
 cases fn <;> simp_all [fnMap,fnAddrs]
theorem vmap_congr {v:Value} (h:∀ b ∈ addrs v,fb b = gb b /\ fo b = go b /\ ∀ q,fs b q = gs b q):vmap fb fo fs v = vmap gb go gs v:=by
 induction v using value_ind with
 | atom v h1 h2 h3 h4 =>
  cases v with
  | func fn f c=>exact absurd rfl (h1 fn f c)
  | iface t u=>exact absurd rfl (h2 t u)
  | agg cs=>exact absurd rfl (h3 cs)
  | tuple cs=>exact absurd rfl (h4 cs)
  | pointer a=>cases a <;> simp_all
  | slice a n q=>cases a <;> simp_all
  | map r=>cases r <;> simp_all
  | chan r=>cases r <;> simp_all
  | _=>simp
 | func fn f c hf hc =>
  simp only [addrs_func,List.mem_append,List.mem_flatMap] at h;simp only [vmap_func,Value.func.injEq];refine ⟨fnMap_congr fun b hb=>(h b (.inl (.inl hb))).1,?_,?_⟩
  ·exact Array.map_congr_left fun x hx=>hf x (Array.mem_toList_iff.2 hx) fun b hb=>h b (.inl (.inr ⟨x,Array.mem_toList_iff.2 hx,hb⟩))
  ·exact Array.map_congr_left fun x hx=>hc x (Array.mem_toList_iff.2 hx) fun b hb=>h b (.inr ⟨x,Array.mem_toList_iff.2 hx,hb⟩)
 | iface t v ih=>simp only [vmap_iface,addrs_iface] at h ⊢; rw [ih h]
 | agg cs ih =>
  simp only [addrs_agg,List.mem_flatMap] at h;simp only [vmap_agg,Value.agg.injEq];exact Array.map_congr_left fun x hx=>ih x (Array.mem_toList_iff.2 hx) fun b hb=>h b ⟨x,Array.mem_toList_iff.2 hx,hb⟩
 | tuple cs ih =>
  simp only [addrs_tuple,List.mem_flatMap] at h;simp only [vmap_tuple,Value.tuple.injEq];exact Array.map_congr_left fun x hx=>ih x (Array.mem_toList_iff.2 hx) fun b hb=>h b ⟨x,Array.mem_toList_iff.2 hx,hb⟩
theorem fnMap_id {fn:Fn}:fnMap (fun b=>b) fn = fn:=by cases fn <;> rfl
theorem vmap_id (v:Value):vmap (fun b=>b) (fun _=>0) (fun _ q=>q) v = v:=by
 induction v using value_ind with
 | atom v h1 h2 h3 h4 =>
  cases v with
  | func fn f c=>exact absurd rfl (h1 fn f c)
  | iface t u=>exact absurd rfl (h2 t u)
  | agg cs=>exact absurd rfl (h3 cs)
  | tuple cs=>exact absurd rfl (h4 cs)
  | pointer a=>cases a <;> simp_all
  | slice a n q=>cases a <;> simp_all
  | map r=>cases r <;> simp_all
  | chan r=>cases r <;> simp_all
  | _=>simp
 | func fn f c hf hc =>
  simp only [vmap_func,Value.func.injEq];refine ⟨fnMap_id,?_,?_⟩
  ·conv=>rhs; rw [<- Array.map_id' f]
   exact Array.map_congr_left fun x hx=>hf x (Array.mem_toList_iff.2 hx)
  ·conv=>rhs; rw [<- Array.map_id' c]
   exact Array.map_congr_left fun x hx=>hc x (Array.mem_toList_iff.2 hx)
 | iface t v ih=>simp only [vmap_iface,ih]
 | agg cs ih =>
  simp only [vmap_agg,Value.agg.injEq]
  conv=>rhs; rw [<- Array.map_id' cs]
  exact Array.map_congr_left fun x hx=>ih x (Array.mem_toList_iff.2 hx)
 | tuple cs ih =>
  simp only [vmap_tuple,Value.tuple.injEq]
  conv=>rhs; rw [<- Array.map_id' cs]
  exact Array.map_congr_left fun x hx=>ih x (Array.mem_toList_iff.2 hx)
theorem vmap_noaddr {v:Value} (h:addrs v = []):vmap fb fo fs v = v:=by
 rw [vmap_congr (gb:=fun b=>b) (go:=fun _=>0) (gs:=fun _ q=>q) (by simp [h]),vmap_id]
theorem flat0_addrs {v:Value} (h:flat0 v = true):addrs v = []:=by
 unfold flat0 at h
 split at h <;> first | simp | cases h
theorem flat1_addrs {v:Value} (h:flat1 v = true):addrs v = []:=by
 unfold flat1 at h
 split at h
 ·simp only [List.all_eq_true] at h;simp only [addrs_agg,List.flatMap_eq_nil_iff];exact fun x hx=>flat0_addrs (h x hx)
 ·exact flat0_addrs h
theorem flatQ_addrs {v:Value} (h:flatQ v = true):addrs v = []:=by
 unfold flatQ at h
 split at h
 ·simp only [List.all_eq_true] at h;simp only [addrs_tuple,List.flatMap_eq_nil_iff];exact fun x hx=>flat1_addrs (h x hx)
 ·simp only [addrs_iface]; exact flat1_addrs h
 ·exact flat1_addrs h
theorem flat_eq (v:Value):flat v = (addrs v).isEmpty:=by
 unfold flat
 cases h:flatQ v with
 | false=>simp
 | true=>simp [flatQ_addrs h]
theorem addrsQ_eq (v:Value):addrsQ v = addrs v:=by
 unfold addrsQ
 split
 ·rename_i h; rw [flatQ_addrs h]
 ·split <;> simp
theorem addrsQ_fn:addrsQ = addrs:=funext addrsQ_eq
theorem vmap_flat {v:Value} (h:flat v = true):vmap fb fo fs v = v:=vmap_noaddr (by simpa [flat_eq] using h)
theorem fnMap_fnMap {fn:Fn}:fnMap gb (fnMap fb fn) = fnMap (fun b=>gb (fb b)) fn:=by cases fn <;> rfl
theorem vmap_vmap (v:Value):vmap gb go gs (vmap fb fo fs v) = vmap (fun b=>gb (fb b)) (fun b=>fo b + go (fb b)) (fun b q=>gs (fb b) (fs b q)) v:=by
 induction v using value_ind with
 | atom v h1 h2 h3 h4 =>
  cases v with
  | func fn f c=>exact absurd rfl (h1 fn f c)
  | iface t u=>exact absurd rfl (h2 t u)
  | agg cs=>exact absurd rfl (h3 cs)
  | tuple cs=>exact absurd rfl (h4 cs)
  | pointer a=>cases a <;> simp_all [Nat.add_assoc]
  | slice a n q=>cases a <;> simp_all [Nat.add_assoc]
  | map r=>cases r <;> simp_all
  | chan r=>cases r <;> simp_all
  | _=>simp
 | func fn f c hf hc =>
  simp only [vmap_func,Value.func.injEq,Array.map_map];refine ⟨fnMap_fnMap,?_,?_⟩
  ·exact Array.map_congr_left fun x hx=>hf x (Array.mem_toList_iff.2 hx)
  ·exact Array.map_congr_left fun x hx=>hc x (Array.mem_toList_iff.2 hx)
 | iface t v ih=>simp only [vmap_iface,ih]
 | agg cs ih =>
  simp only [vmap_agg,Value.agg.injEq,Array.map_map];exact Array.map_congr_left fun x hx=>ih x (Array.mem_toList_iff.2 hx)
 | tuple cs ih =>
  simp only [vmap_tuple,Value.tuple.injEq,Array.map_map];exact Array.map_congr_left fun x hx=>ih x (Array.mem_toList_iff.2 hx)
theorem fnAddrs_fnMap {fn:Fn}:fnAddrs (fnMap fb fn) = (fnAddrs fn).map fb:=by cases fn <;> rfl
theorem flatMap_map_of {l:List Value} (h:∀ x ∈ l,addrs (vmap fb fo fs x) = (addrs x).map fb):(l.map (vmap fb fo fs)).flatMap addrs = (l.flatMap addrs).map fb:=by
 induction l with
 | nil=>rfl
 | cons x l ih=>simp only [List.map_cons,List.flatMap_cons,List.map_append]; rw [h x (by simp),ih fun y hy=>h y (by simp [hy])]
theorem addrs_vmap (v:Value):addrs (vmap fb fo fs v) = (addrs v).map fb:=by
 induction v using value_ind with
 | atom v h1 h2 h3 h4 =>
  cases v with
  | func fn f c=>exact absurd rfl (h1 fn f c)
  | iface t u=>exact absurd rfl (h2 t u)
  | agg cs=>exact absurd rfl (h3 cs)
  | tuple cs=>exact absurd rfl (h4 cs)
  | pointer a=>cases a <;> simp_all
  | slice a n q=>cases a <;> simp_all
  | map r=>cases r <;> simp_all
  | chan r=>cases r <;> simp_all
  | _=>simp
 | func fn f c hf hc=>simp only [vmap_func,addrs_func,Array.toList_map,flatMap_map_of hf,flatMap_map_of hc,fnAddrs_fnMap,List.map_append]
 | iface t v ih=>simp only [vmap_iface,addrs_iface,ih]
 | agg cs ih=>simp only [vmap_agg,addrs_agg,Array.toList_map,flatMap_map_of ih]
 | tuple cs ih=>simp only [vmap_tuple,addrs_tuple,Array.toList_map,flatMap_map_of ih]
@[simp] theorem vmap_cells (v:Value):(vmap fb fo fs v).cells = v.cells.map (vmap fb fo fs):=by
 cases v with
 | agg cs=>simp [Value.cells]
 | pointer a=>cases a <;> simp [Value.cells]
 | slice a n q=>cases a <;> simp [Value.cells]
 | map r=>cases r <;> simp [Value.cells]
 | chan r=>cases r <;> simp [Value.cells]
 | _=>simp [Value.cells]
@[simp] theorem vmap_oneB (v:Value):oneB (vmap fb fo fs v) = oneB v:=by
 cases v with
 | pointer a=>cases a <;> simp [oneB]
 | slice a n q=>cases a <;> simp [oneB]
 | map r=>cases r <;> simp [oneB]
 | chan r=>cases r <;> simp [oneB]
 | _=>simp [oneB]
theorem oneB_oneCell' (v:Value):v.oneCell' = oneB v:=by cases v <;> rfl
theorem addrs_cells (v:Value):v.cells.toList.flatMap addrs = addrs v:=by
 cases v <;> simp [Value.cells]
theorem reloc_eq (f:Nat -> Nat) (v:Value):reloc f v = vmap f (fun _=>0) (fun _ q=>q) v:=by
 unfold reloc
 split
 ·rename_i h; rw [vmap_noaddr (flatQ_addrs h)]
 ·split <;> simp
end values
end Go.AM
