/-
  LexTells returns true for every input, and its arguments read behind the call as before: the given statement Rows.LexTellsCardSaid. No condition but the row's own: the package-level variables that it lists are as they are laid (their tie to the program's text is in the card).
-/
import Derived.Test.YtcjnmmeibppblaaDoorTeGround
import Derived.Test.YtcjnmmeibppblaaDoorTeAll
import Derived.Test.YtcjnmmeibppblaaDoorTeLaw2
import Derived.Test.YtcjnmmeibppblaaDoorTePureTells
set_option maxRecDepth 100000
set_option linter.unusedVariables false
set_option linter.unusedSimpArgs false
namespace Go.Proofs.YtcjnmmeibppblaaDoor.lexTells
open Go Go.AM Go.ChangeShapes Go.WideShapes Go.ChangeAt Go.RowKit
theorem contract (H:Type) (enc:TypeId × Value → H) (W:World) (base_:Nat) (args:Array Value) (ds gs:List (DataW H)) (before:List MemPlace)
  (hval:∀ (j:Nat) t v,Tryd.f3.params[j]? = some t → args[j]? = some v → Value.okWide Tryd.prog W .any base_ t v)
  (hW:DataW.Whole enc Tryd.prog Tryd.f3.params.toList Rows.lexTellsSpec.vars false W args.toList ds gs before) (hL:laidMetH Tryd.prog Rows.lexTellsRow.laid W) :
  Calls Tryd.prog 3 args W fun e W'=>∃ v,e = .returned v ∧ Rows.lexTellsSpec.post enc Tryd.prog Tryd.f3 false true false false W args v W':=by
 have hW':=hW
 obtain ⟨p,q,hA0,hV,rfl,hfz,hnd⟩:=hW
 have r_:DataW.TrodAll enc Tryd.prog W 0 (fun _=>true) true Tryd.f3.params.toList args.toList ds p:=hA0
 rw [Tryd.params3] at r_ hval
 obtain ⟨v0,vs0,d0,ds0,p0,q0,g0,rfl,rfl,h0,r0⟩:=trodAll_cons r_
 obtain ⟨z1,rfl,rfl⟩:=trodAll_nil r0
 obtain rfl:args = #[v0]:=by cases args; simp_all
 obtain ⟨x0,rfl,w0⟩:=op_str Tryd.underlying9 (hval 0 9 v0 rfl rfl) h0
 obtain ⟨n,hn⟩:=pure x0 w0
 refine law_flat (M:=Mt) (allOk n) base (tab_run (k:=K_law06_LexTells) (x:=x0) (H:=G) (r:=true) rfl ?_ hn rfl) ?_ (holdsG hL) (pb rfl) rfl (bt:=4) (by kernel_rfl) (by kernel_rfl) (fun ds hds=>?_) laidOutT (fun t ht=>?_) hW'
 ·first | exact rfl | exact ⟨rfl,rfl⟩
 ·exact (fm_cons rfl fm_nil)
 ·match ds,hds with
  | [d0],_=>rfl
 ·change t ∈ Tryd.f3.params.toList at ht
  rw [Tryd.params3] at ht
  simp at ht; subst ht
  exact ⟨by kernel_rfl,of_decide_eq_true (by kernel_rfl)⟩
theorem laid_met (os:Os):laidMet Tryd.prog Rows.lexTellsRow.laid ((laidWorld os).forCall (fun _ _=>0) ⟨#[],#[.string ⟨#[]⟩],[]⟩).memory :=
 laidMet_of_run' 8 (by kernel_rfl) (by kernel_rfl)
theorem reads (os:Os) {H:Type} (enc:TypeId × Value → H):∃ places,DataW.whole enc Tryd.prog ((laidWorld os).forCall (fun _ _=>0) ⟨#[],#[.string ⟨#[]⟩],[]⟩).memory Tryd.f3.params.toList Rows.lexTellsSpec.vars false (#[.string ⟨#[]⟩]:Array Value).toList 8 = some ([.lit (.string [])],[],places) :=
 ⟨[],by kernel_rfl⟩
theorem lifted (os:Os) (started:os.Started) (H:Type) (enc:TypeId × Value → H) (F:Stop.Interp) :
  ReturnsInHanded {} Tryd.checked os 3 .any ((OpenSpec.ofChange Rows.lexTellsSpec).preRow enc Tryd.prog Tryd.f3 Rows.lexTellsRow.domain false Rows.lexTellsRow.laid) (((OpenSpec.ofChange Rows.lexTellsSpec).at F).post enc Tryd.prog Tryd.f3 false true false false):=by
 obtain ⟨places,hx⟩:=reads os enc
 refine returnsInHanded_of_row (C:=Tryd.checked) (s:=OpenSpec.ofChange Rows.lexTellsSpec) own started (by kernel_rfl) Tryd.func3
  (witness_row_at (enc:=enc) (C:=Tryd.checked) false (laidWorld os) #[.string ⟨#[]⟩] rfl (by kernel_rfl) (by kernel_rfl) (by kernel_rfl)
   (OpenSpec.preRow_of_cond 8 hx (by kernel_rfl) (fun k hk=>by cases hk) (by kernel_rfl) (laid_met os))) ?_
 intro W base args ds gs before hval hW _ _ _ hL _ _
 exact contract H enc W base args ds gs before hval hW hL
theorem said:Rows.LexTellsSaid :=
 OpenClaim.holds_of_cond 3 Tryd.f3 rfl rfl rfl rfl rfl rfl rfl ⟨rfl,rfl,rfl,rfl,rfl⟩ rfl rfl rfl rfl rfl (by kernel_rfl) Tryd.func3 (by kernel_rfl)
  (of_decide_eq_true (by kernel_rfl)) (by unfold Func.isWrapper; first | (rw [if_pos (by decide +kernel)]; kernel_rfl) | (rw [if_neg (by decide +kernel)]; exact ⟨rfl,rfl⟩))
  (fun os started H enc _ F=>by rw [OpenClaim.pre_eq_preRow]; exact lifted os started H enc F)
theorem plain (f : FuncId) (fn : Func) (hf : Tryd.pinned.checked.prog.funcNamed "clew/clewlaw06.LexTells" = some f) (hfn : Tryd.pinned.checked.prog.funcs[f]? = some fn) :
  false = Tryd.pinned.checked.prog.looks [] ∧ ∀ (j:Nat) t,fn.params[j]? = some t → Tryd.pinned.checked.prog.wantsStandIn t = false:=by
 obtain rfl : f = 3 := Option.some.inj ((show Tryd.prog.funcNamed "clew/clewlaw06.LexTells" = some 3 by kernel_rfl).symm.trans hf) |>.symm
 obtain rfl:fn = Tryd.f3:=(Option.some.inj (Tryd.func3.symm.trans hfn)).symm
 refine ⟨by kernel_rfl,fun j t ht=>?_⟩
 rw [Tryd.params3] at ht
 have h:=Array.mem_of_getElem? ht
 simp at h
 rcases h with rfl
 ·exact (show Tryd.prog.wantsStandIn 9 = false by kernel_rfl)
theorem card:Rows.LexTellsCardSaid :=
 Claim7.holds_tied_plain_at .later [] _ _ _ _ said (fun _ h=>by cases h) (by kernel_rfl) (fun _ h=>by cases h) lexTells_row_tie rfl ⟨rfl,rfl⟩ (by kernel_rfl) rfl plain (by kernel_rfl)
end Go.Proofs.YtcjnmmeibppblaaDoor.lexTells
