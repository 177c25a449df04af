import Derived.Test.YtaadjlpfdajggaaGreatDoorFiAm13
import Derived.WalkKit
import Derived.ProofKit
import Derived.OpenShut
import Derived.Deep.DeepHandedRow
import Derived.Lib.LaidTab
import Derived.WideKeyArgs
set_option linter.unusedVariables false
namespace Go.AM
open Go Go.ChangeShapes Go.WideShapes Go.ChangeAt Go.RowKit
section
variable {H:Type} {enc:TypeId × Value → H} {P:Program} {W W':World}
structure OldKept (W W':World):Prop where
 os:W'.os = W.os
 out:W'.output = W.output
 le:W.heap.size ≤ W'.heap.size
 same:∀ B,B < W.heap.size → W'.heap[B]? = W.heap[B]?
theorem OldKept.kept (h:OldKept W W') (may:MemPlace → Prop):W.keptBut W' may:=by
 refine ⟨h.os,h.out,fun i hi=>?_⟩
 rw [h.same i hi]
 cases ho:W.heap[i]? with
 | none=>simp
 | some o=>cases o <;> simp
theorem trodAll_stays (hl:laidOutB P = true) {sp:Nat → Bool}:∀ {ts:List TypeId} {vs:List Value} {ds:List (DataW H)} {ps:List MemPlace},
  (∀ t ∈ ts,P.readableRec t = true ∧ t < P.types.size) → DataW.TrodAll enc P W 0 (fun _=>true) true ts vs ds ps → (∀ p ∈ ps,W.sameAt W' p) → (∀ p ∈ ps,sp p.block = true) → DataW.TrodAll enc P W' 0 sp true ts vs ds ps
 | [],[],[],_,_,h,_,_=>h
 | t :: ts,v :: vs,d :: ds,_,hr,⟨p,q,h1,h2,rfl⟩,hs,hp =>
  ⟨p,q,WideElems.Trod_stays hl (hr t (by simp)).1 (hr t (by simp)).2 h1 (fun x hx=>hs x (by simp [hx])) (fun x hx=>hp x (by simp [hx])),
   trodAll_stays hl (fun t ht=>hr t (by simp [ht])) h2 (fun x hx=>hs x (by simp [hx])) (fun x hx=>hp x (by simp [hx])),rfl⟩
theorem OldKept.sameAt (h:OldKept W W') {p:MemPlace} (hp:p.block < W.heap.size):W.sameAt W' p:=by
 cases p with
 | cell b o=>simp only [World.sameAt,World.cell?,h.same b hp]
 | map b=>exact h.same b hp
theorem trodAll_length {sp:Nat → Bool} {held:Bool} {base:Nat}:∀ {ts:List TypeId} {vs:List Value} {ds:List (DataW H)} {ps:List MemPlace},DataW.TrodAll enc P W base sp held ts vs ds ps → ds.length = ts.length
 | [],[],[],_,_=>rfl
 | _ :: _,_ :: _,_ :: _,_,⟨_,_,_,h2,_⟩=>by simp [trodAll_length h2]
theorem law_post {f:Func} {s:ChangeSpec} {fresh handsOn:Bool} {args:Array Value} {ds gs:List (DataW H)} {before:List MemPlace} {bt:TypeId} (hv:s.vars = [])
  (hf:f.resultTypes = #[bt]) (hb:P.underlying bt = some .bool) (hs:∀ ds:List (DataW H),ds.length = f.params.toList.length → s.fn H ds = { results:=[.lit (.bool true)],args:=ds })
  (hl:laidOutB P = true) (hr:∀ t ∈ f.params.toList,P.readableRec t = true ∧ t < P.types.size)
  (hW:DataW.Whole enc P f.params.toList s.vars false W args.toList ds gs before) (hk:OldKept W W'):s.post enc P f false fresh handsOn false W args (.bool true) W':=by
 have hlt:∀ p ∈ before,p.block < W.heap.size:=fun p hp=>hW.lt p hp
 have hW':=hW
 obtain ⟨p,q,h1,h2,rfl,h4,h5⟩:=hW
 have hg:gs = [] ∧ q = []:=by
  rw [hv] at h2
  exact trodVars_none h2
 obtain ⟨rfl,rfl⟩:=hg
 have hs':=hs ds (trodAll_length h1)
 refine ⟨ds,[],p ++ [],[],p,[],hW',?_,?_,?_,hk.kept _,fun h=>by cases h⟩
 ·rw [List.append_nil,hs',hf]
  exact trodAll_cons_mk (shut_bool hb _) trodAll_mk0
 ·rw [List.append_nil,hs']
  exact trodAll_stays hl hr h1 (fun x hx=>hk.sameAt (hlt x (by simp [hx]))) (fun x hx=>by simpa using hlt x (by simp [hx]))
 ·rw [List.append_nil,hs',hv]
  exact rfl
end
end Go.AM
