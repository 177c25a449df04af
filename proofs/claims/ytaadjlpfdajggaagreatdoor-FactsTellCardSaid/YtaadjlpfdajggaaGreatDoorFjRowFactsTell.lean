/-
  FactsTell returns true for every input, and its arguments read behind the call as before: the given statement Rows.FactsTellCardSaid. No condition but the row's own: the package-level variables that it lists are as they are laid (their tie to the program's text is in the card).
-/
import Derived.Test.YtaadjlpfdajggaaGreatDoorFjGround
import Derived.Test.YtaadjlpfdajggaaGreatDoorFjAll
import Derived.Test.YtaadjlpfdajggaaGreatDoorFjLaw3
import Derived.Test.YtaadjlpfdajggaaGreatDoorFjPlain
set_option maxRecDepth 100000
set_option linter.unusedVariables false
set_option linter.unusedSimpArgs false
namespace Go.Proofs.YtaadjlpfdajggaaGreatDoor.factsTell
open Go Go.AM Go.ChangeShapes Go.WideShapes Go.ChangeAt Go.RowKit
theorem rdS25 {w:World}:RdT Tryz.prog w 25 S_g.c (fun s=>(∀ x ∈ s.f_W.l,InK .u64 x) ∧ True) :=
 RdT.map (rd_struct Tryz.underlying25 (N:=4) (by kernel_rfl) (rdF_cons (N:=4) (o:=0) (c1:=((cArr (n:=4) (cInt .u64)))) (c2:=(fun _:Unit=>[])) (W1:=(fun (v:(Arr Int 4))=>∀ x ∈ v.l,InK .u64 x)) (W2:=(fun _:Unit=>True)) (by rfl) (z:=4) (by kernel_rfl) (rd_arr (z:=1) Tryz.underlying23 (by kernel_rfl) (by kernel_rfl) enc_int (rd_int Tryz.underlying22)) rdF_nil)) (fun (a:(Arr Int 4) × Unit)=>(⟨a.1⟩:S_g)) (fun a=>by simp only [S_g.c,List.append_nil]) (fun a h=>h)
theorem rdS72 {w:World}:RdT Tryz.prog w 72 S_c.c (fun s=>(InK .i64 s.f_Kind) ∧ (InK .i64 s.f_A) ∧ (InK .i64 s.f_B) ∧ ((∀ x ∈ s.f_Set.f_W.l,InK .u64 x) ∧ True) ∧ (InK .i64 s.f_Min) ∧ (InK .i64 s.f_Max) ∧ (InK .i64 s.f_Mode) ∧ (InK .i64 s.f_N) ∧ (True) ∧ True) :=
 RdT.map (rd_struct Tryz.underlying72 (N:=12) (by kernel_rfl) (rdF_cons (N:=12) (o:=0) (c1:=((cInt .i64))) (c2:=(fun x:Int × Int × S_g × Int × Int × Int × Int × Bool × Unit=>((cInt .i64)) x.1 ++ (fun x:Int × S_g × Int × Int × Int × Int × Bool × Unit=>((cInt .i64)) x.1 ++ (fun x:S_g × Int × Int × Int × Int × Bool × Unit=>(S_g.c) x.1 ++ (fun x:Int × Int × Int × Int × Bool × Unit=>((cInt .i64)) x.1 ++ (fun x:Int × Int × Int × Bool × Unit=>((cInt .i64)) x.1 ++ (fun x:Int × Int × Bool × Unit=>((cInt .i64)) x.1 ++ (fun x:Int × Bool × Unit=>((cInt .i64)) x.1 ++ (fun x:Bool × Unit=>(cBool) x.1 ++ (fun _:Unit=>[]) x.2) x.2) x.2) x.2) x.2) x.2) x.2) x.2)) (W1:=(fun (v:Int)=>InK .i64 v)) (W2:=(fun x:Int × Int × S_g × Int × Int × Int × Int × Bool × Unit=>(fun (v:Int)=>InK .i64 v) x.1 ∧ (fun x:Int × S_g × Int × Int × Int × Int × Bool × Unit=>(fun (v:Int)=>InK .i64 v) x.1 ∧ (fun x:S_g × Int × Int × Int × Int × Bool × Unit=>(fun (v:S_g)=>(∀ x ∈ v.f_W.l,InK .u64 x) ∧ True) x.1 ∧ (fun x:Int × Int × Int × Int × Bool × Unit=>(fun (v:Int)=>InK .i64 v) x.1 ∧ (fun x:Int × Int × Int × Bool × Unit=>(fun (v:Int)=>InK .i64 v) x.1 ∧ (fun x:Int × Int × Bool × Unit=>(fun (v:Int)=>InK .i64 v) x.1 ∧ (fun x:Int × Bool × Unit=>(fun (v:Int)=>InK .i64 v) x.1 ∧ (fun x:Bool × Unit=>(fun (v:Bool)=>True) x.1 ∧ (fun _:Unit=>True) x.2) x.2) x.2) x.2) x.2) x.2) x.2) x.2)) (by rfl) (z:=1) (by kernel_rfl) (rd_int Tryz.underlying3) (rdF_cons (N:=12) (o:=1) (c1:=((cInt .i64))) (c2:=(fun x:Int × S_g × Int × Int × Int × Int × Bool × Unit=>((cInt .i64)) x.1 ++ (fun x:S_g × Int × Int × Int × Int × Bool × Unit=>(S_g.c) x.1 ++ (fun x:Int × Int × Int × Int × Bool × Unit=>((cInt .i64)) x.1 ++ (fun x:Int × Int × Int × Bool × Unit=>((cInt .i64)) x.1 ++ (fun x:Int × Int × Bool × Unit=>((cInt .i64)) x.1 ++ (fun x:Int × Bool × Unit=>((cInt .i64)) x.1 ++ (fun x:Bool × Unit=>(cBool) x.1 ++ (fun _:Unit=>[]) x.2) x.2) x.2) x.2) x.2) x.2) x.2)) (W1:=(fun (v:Int)=>InK .i64 v)) (W2:=(fun x:Int × S_g × Int × Int × Int × Int × Bool × Unit=>(fun (v:Int)=>InK .i64 v) x.1 ∧ (fun x:S_g × Int × Int × Int × Int × Bool × Unit=>(fun (v:S_g)=>(∀ x ∈ v.f_W.l,InK .u64 x) ∧ True) x.1 ∧ (fun x:Int × Int × Int × Int × Bool × Unit=>(fun (v:Int)=>InK .i64 v) x.1 ∧ (fun x:Int × Int × Int × Bool × Unit=>(fun (v:Int)=>InK .i64 v) x.1 ∧ (fun x:Int × Int × Bool × Unit=>(fun (v:Int)=>InK .i64 v) x.1 ∧ (fun x:Int × Bool × Unit=>(fun (v:Int)=>InK .i64 v) x.1 ∧ (fun x:Bool × Unit=>(fun (v:Bool)=>True) x.1 ∧ (fun _:Unit=>True) x.2) x.2) x.2) x.2) x.2) x.2) x.2)) (by rfl) (z:=1) (by kernel_rfl) (rd_int Tryz.underlying3) (rdF_cons (N:=12) (o:=2) (c1:=((cInt .i64))) (c2:=(fun x:S_g × Int × Int × Int × Int × Bool × Unit=>(S_g.c) x.1 ++ (fun x:Int × Int × Int × Int × Bool × Unit=>((cInt .i64)) x.1 ++ (fun x:Int × Int × Int × Bool × Unit=>((cInt .i64)) x.1 ++ (fun x:Int × Int × Bool × Unit=>((cInt .i64)) x.1 ++ (fun x:Int × Bool × Unit=>((cInt .i64)) x.1 ++ (fun x:Bool × Unit=>(cBool) x.1 ++ (fun _:Unit=>[]) x.2) x.2) x.2) x.2) x.2) x.2)) (W1:=(fun (v:Int)=>InK .i64 v)) (W2:=(fun x:S_g × Int × Int × Int × Int × Bool × Unit=>(fun (v:S_g)=>(∀ x ∈ v.f_W.l,InK .u64 x) ∧ True) x.1 ∧ (fun x:Int × Int × Int × Int × Bool × Unit=>(fun (v:Int)=>InK .i64 v) x.1 ∧ (fun x:Int × Int × Int × Bool × Unit=>(fun (v:Int)=>InK .i64 v) x.1 ∧ (fun x:Int × Int × Bool × Unit=>(fun (v:Int)=>InK .i64 v) x.1 ∧ (fun x:Int × Bool × Unit=>(fun (v:Int)=>InK .i64 v) x.1 ∧ (fun x:Bool × Unit=>(fun (v:Bool)=>True) x.1 ∧ (fun _:Unit=>True) x.2) x.2) x.2) x.2) x.2) x.2)) (by rfl) (z:=1) (by kernel_rfl) (rd_int Tryz.underlying3) (rdF_cons (N:=12) (o:=3) (c1:=(S_g.c)) (c2:=(fun x:Int × Int × Int × Int × Bool × Unit=>((cInt .i64)) x.1 ++ (fun x:Int × Int × Int × Bool × Unit=>((cInt .i64)) x.1 ++ (fun x:Int × Int × Bool × Unit=>((cInt .i64)) x.1 ++ (fun x:Int × Bool × Unit=>((cInt .i64)) x.1 ++ (fun x:Bool × Unit=>(cBool) x.1 ++ (fun _:Unit=>[]) x.2) x.2) x.2) x.2) x.2)) (W1:=(fun (v:S_g)=>(∀ x ∈ v.f_W.l,InK .u64 x) ∧ True)) (W2:=(fun x:Int × Int × Int × Int × Bool × Unit=>(fun (v:Int)=>InK .i64 v) x.1 ∧ (fun x:Int × Int × Int × Bool × Unit=>(fun (v:Int)=>InK .i64 v) x.1 ∧ (fun x:Int × Int × Bool × Unit=>(fun (v:Int)=>InK .i64 v) x.1 ∧ (fun x:Int × Bool × Unit=>(fun (v:Int)=>InK .i64 v) x.1 ∧ (fun x:Bool × Unit=>(fun (v:Bool)=>True) x.1 ∧ (fun _:Unit=>True) x.2) x.2) x.2) x.2) x.2)) (by rfl) (z:=4) (by kernel_rfl) rdS25 (rdF_cons (N:=12) (o:=7) (c1:=((cInt .i64))) (c2:=(fun x:Int × Int × Int × Bool × Unit=>((cInt .i64)) x.1 ++ (fun x:Int × Int × Bool × Unit=>((cInt .i64)) x.1 ++ (fun x:Int × Bool × Unit=>((cInt .i64)) x.1 ++ (fun x:Bool × Unit=>(cBool) x.1 ++ (fun _:Unit=>[]) x.2) x.2) x.2) x.2)) (W1:=(fun (v:Int)=>InK .i64 v)) (W2:=(fun x:Int × Int × Int × Bool × Unit=>(fun (v:Int)=>InK .i64 v) x.1 ∧ (fun x:Int × Int × Bool × Unit=>(fun (v:Int)=>InK .i64 v) x.1 ∧ (fun x:Int × Bool × Unit=>(fun (v:Int)=>InK .i64 v) x.1 ∧ (fun x:Bool × Unit=>(fun (v:Bool)=>True) x.1 ∧ (fun _:Unit=>True) x.2) x.2) x.2) x.2)) (by rfl) (z:=1) (by kernel_rfl) (rd_int Tryz.underlying3) (rdF_cons (N:=12) (o:=8) (c1:=((cInt .i64))) (c2:=(fun x:Int × Int × Bool × Unit=>((cInt .i64)) x.1 ++ (fun x:Int × Bool × Unit=>((cInt .i64)) x.1 ++ (fun x:Bool × Unit=>(cBool) x.1 ++ (fun _:Unit=>[]) x.2) x.2) x.2)) (W1:=(fun (v:Int)=>InK .i64 v)) (W2:=(fun x:Int × Int × Bool × Unit=>(fun (v:Int)=>InK .i64 v) x.1 ∧ (fun x:Int × Bool × Unit=>(fun (v:Int)=>InK .i64 v) x.1 ∧ (fun x:Bool × Unit=>(fun (v:Bool)=>True) x.1 ∧ (fun _:Unit=>True) x.2) x.2) x.2)) (by rfl) (z:=1) (by kernel_rfl) (rd_int Tryz.underlying3) (rdF_cons (N:=12) (o:=9) (c1:=((cInt .i64))) (c2:=(fun x:Int × Bool × Unit=>((cInt .i64)) x.1 ++ (fun x:Bool × Unit=>(cBool) x.1 ++ (fun _:Unit=>[]) x.2) x.2)) (W1:=(fun (v:Int)=>InK .i64 v)) (W2:=(fun x:Int × Bool × Unit=>(fun (v:Int)=>InK .i64 v) x.1 ∧ (fun x:Bool × Unit=>(fun (v:Bool)=>True) x.1 ∧ (fun _:Unit=>True) x.2) x.2)) (by rfl) (z:=1) (by kernel_rfl) (rd_int Tryz.underlying3) (rdF_cons (N:=12) (o:=10) (c1:=((cInt .i64))) (c2:=(fun x:Bool × Unit=>(cBool) x.1 ++ (fun _:Unit=>[]) x.2)) (W1:=(fun (v:Int)=>InK .i64 v)) (W2:=(fun x:Bool × Unit=>(fun (v:Bool)=>True) x.1 ∧ (fun _:Unit=>True) x.2)) (by rfl) (z:=1) (by kernel_rfl) (rd_int Tryz.underlying3) (rdF_cons (N:=12) (o:=11) (c1:=(cBool)) (c2:=(fun _:Unit=>[])) (W1:=(fun (v:Bool)=>True)) (W2:=(fun _:Unit=>True)) (by rfl) (z:=1) (by kernel_rfl) (rd_bool Tryz.underlying4) rdF_nil)))))))))) (fun (a:Int × Int × Int × S_g × Int × Int × Int × Int × Bool × Unit)=>(⟨a.1,a.2.1,a.2.2.1,a.2.2.2.1,a.2.2.2.2.1,a.2.2.2.2.2.1,a.2.2.2.2.2.2.1,a.2.2.2.2.2.2.2.1,a.2.2.2.2.2.2.2.2.1⟩:S_c)) (fun a=>by simp only [S_c.c,List.append_nil]) (fun a h=>h)
theorem contract (H:Type) (enc:TypeId × Value → H) (W:World) (base_:Nat) (args:Array Value) (ds gs:List (DataW H)) (before:List MemPlace)
  (hval:∀ (j:Nat) t v,Tryz.f5.params[j]? = some t → args[j]? = some v → Value.okWide Tryz.prog W .any base_ t v)
  (hW:DataW.Whole enc Tryz.prog Tryz.f5.params.toList Rows.factsTellSpec.vars false W args.toList ds gs before) (hL:laidMetH Tryz.prog Rows.factsTellRow.laid W) :
  Calls Tryz.prog 5 args W fun e W'=>∃ v,e = .returned v ∧ Rows.factsTellSpec.post enc Tryz.prog Tryz.f5 false true false false W args v W':=by
 have hW':=hW
 obtain ⟨p,q,hA0,hV,rfl,hfz,hnd⟩:=hW
 have r_:DataW.TrodAll enc Tryz.prog W 0 (fun _=>true) true Tryz.f5.params.toList args.toList ds p:=hA0
 rw [Tryz.params5] at r_ hval
 obtain ⟨v0,vs0,d0,ds0,p0,q0,g0,rfl,rfl,h0,r0⟩:=trodAll_cons r_
 obtain ⟨z1,rfl,rfl⟩:=trodAll_nil r0
 obtain rfl:args = #[v0]:=by cases args; simp_all
 obtain ⟨x0,a0,c0,m0,rfl,w0⟩:=op_wsl (c:=S_c.c) (Wf:=fun s=>(InK .i64 s.f_Kind) ∧ (InK .i64 s.f_A) ∧ (InK .i64 s.f_B) ∧ ((∀ x ∈ s.f_Set.f_W.l,InK .u64 x) ∧ True) ∧ (InK .i64 s.f_Min) ∧ (InK .i64 s.f_Max) ∧ (InK .i64 s.f_Mode) ∧ (InK .i64 s.f_N) ∧ (True) ∧ True) (z:=12) Tryz.underlying37 rfl rfl Tryz.underlying35 (by kernel_rfl) (by kernel_rfl) (by kernel_rfl) (by kernel_rfl) S_c.enc rdS72 (fun _=>rfl) (hval 0 37 v0 rfl rfl) h0
 obtain ⟨n,hn⟩:=pure x0 (fun l hl=>(w0 l hl).wf')
 refine law_viewed (M:=Mt) (vs:=(vwOf S_c.c 72 x0 a0 c0 m0) ++ []) (av:=[(vAgg [slV x0 (G.length + ([]:List View).length)])]) (allOk n) base (vk_app (vwOf_ok S_c.enc T.sz72 w0) (vk_nil)) (tab_run (k:=K_dW) (x:=x0) (r:=true) rfl ?_ hn rfl) ?_ ?_ (holdsG hL) (pb rfl) rfl rfl (bt:=4) (by kernel_rfl) (fun ds hds=>?_) laidOutT (fun t ht=>?_) hW'
 ·first | exact ⟨(G.length + ([]:List View).length),rfl,(vwOf_sl (vs:=[]) (us:=[]))⟩ | exact ⟨(G.length + ([]:List View).length),rfl,(vwOf_sl (vs:=[]) (us:=[])),rfl⟩ | exact ⟨(G.length + ([]:List View).length),rfl,(vwOf_sl (vs:=[]) (us:=[])),rfl,rfl⟩
 ·exact (mv_cons (vwOf_val (vs:=[]) (us:=[]) w0) mv_nil)
 ·exact (am_cons (vwOf_addrs (vs:=[]) (us:=[])) am_nil)
 ·match ds,hds with
  | [d0],_=>rfl
 ·change t ∈ Tryz.f5.params.toList at ht
  rw [Tryz.params5] at ht
  simp at ht; subst ht
  exact ⟨by kernel_rfl,of_decide_eq_true (by kernel_rfl)⟩
theorem laid_met (os:Os):laidMet Tryz.prog Rows.factsTellRow.laid ((laidWorld os).forCall (fun _ _=>0) ⟨#[],#[.agg #[.slice none 0 0]],[]⟩).memory :=
 laidMet_of_run' 8 (by kernel_rfl) (by kernel_rfl)
theorem reads (os:Os) {H:Type} (enc:TypeId × Value → H):∃ places,DataW.whole enc Tryz.prog ((laidWorld os).forCall (fun _ _=>0) ⟨#[],#[.agg #[.slice none 0 0]],[]⟩).memory Tryz.f5.params.toList Rows.factsTellSpec.vars false (#[.agg #[.slice none 0 0]]:Array Value).toList 8 = some ([.agg [.nil]],[],places) :=
 ⟨[],by kernel_rfl⟩
theorem lifted (os:Os) (started:os.Started) (H:Type) (enc:TypeId × Value → H) (F:Stop.Interp) :
  ReturnsInHanded {} Tryz.checked os 5 .any ((OpenSpec.ofChange Rows.factsTellSpec).preRow enc Tryz.prog Tryz.f5 Rows.factsTellRow.domain false Rows.factsTellRow.laid) (((OpenSpec.ofChange Rows.factsTellSpec).at F).post enc Tryz.prog Tryz.f5 false true false false):=by
 obtain ⟨places,hx⟩:=reads os enc
 refine returnsInHanded_of_row (C:=Tryz.checked) (s:=OpenSpec.ofChange Rows.factsTellSpec) own started (by kernel_rfl) Tryz.func5
  (witness_row_at (enc:=enc) (C:=Tryz.checked) false (laidWorld os) #[.agg #[.slice none 0 0]] rfl (by kernel_rfl) (by kernel_rfl) (by kernel_rfl)
   (OpenSpec.preRow_of_cond 8 hx (by kernel_rfl) (fun k hk=>by cases hk) (by kernel_rfl) (laid_met os))) ?_
 intro W base args ds gs before hval hW _ _ _ hL _ _
 exact contract H enc W base args ds gs before hval hW hL
theorem said:Rows.FactsTellSaid :=
 OpenClaim.holds_of_cond 5 Tryz.f5 rfl rfl rfl rfl rfl rfl rfl ⟨rfl,rfl,rfl,rfl,rfl⟩ rfl rfl rfl rfl rfl (by kernel_rfl) Tryz.func5 (by kernel_rfl)
  (of_decide_eq_true (by kernel_rfl)) (by unfold Func.isWrapper; first | (rw [if_pos (by decide +kernel)]; kernel_rfl) | (rw [if_neg (by decide +kernel)]; exact ⟨rfl,rfl⟩))
  (fun os started H enc _ F=>by rw [OpenClaim.pre_eq_preRow]; exact lifted os started H enc F)
theorem plain (f : FuncId) (fn : Func) (hf : Tryz.pinned.checked.prog.funcNamed "clew/clewlaw09.FactsTell" = some f) (hfn : Tryz.pinned.checked.prog.funcs[f]? = some fn) :
  true = Tryz.pinned.checked.prog.looks [] ∧ ∀ (j:Nat) t,fn.params[j]? = some t → Tryz.pinned.checked.prog.wantsStandIn t = false:=by
 obtain rfl : f = 5 := Option.some.inj ((show Tryz.prog.funcNamed "clew/clewlaw09.FactsTell" = some 5 by kernel_rfl).symm.trans hf) |>.symm
 obtain rfl:fn = Tryz.f5:=(Option.some.inj (Tryz.func5.symm.trans hfn)).symm
 refine ⟨by kernel_rfl,fun j t ht=>?_⟩
 rw [Tryz.params5] at ht
 have h:=Array.mem_of_getElem? ht
 simp at h
 rcases h with rfl
 ·exact (show Tryz.prog.wantsStandIn 37 = false by kernel_rfl)
theorem card:Rows.FactsTellCardSaid :=
 Claim7.holds_tied_plain_at .later [] _ _ _ _ said (fun _ h=>by cases h) (by kernel_rfl) (fun _ h=>by cases h) factsTell_row_tie rfl ⟨rfl,rfl⟩ (by kernel_rfl) rfl plain (by kernel_rfl)
end Go.Proofs.YtaadjlpfdajggaaGreatDoor.factsTell
