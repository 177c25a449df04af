/-
  FactsRest returns true for every input, and its arguments read behind the call as before: the given statement Rows.FactsRestCardSaid. No condition but the row's own: the package-level variables that it lists are as they are laid (their tie to the program's text is in the card).
-/
import Derived.Test.YtaadjlpfdajggaaGreatDoorFoGround
import Derived.Test.YtaadjlpfdajggaaGreatDoorFoAll
import Derived.Test.YtaadjlpfdajggaaGreatDoorLaw2
import Derived.Test.YtaadjlpfdajggaaGreatDoorFoPureRest
set_option maxRecDepth 100000
set_option linter.unusedVariables false
set_option linter.unusedSimpArgs false
namespace Go.Proofs.YtaadjlpfdajggaaGreatDoor.factsRest
open Go Go.AM Go.ChangeShapes Go.WideShapes Go.ChangeAt Go.RowKit

theorem rdS25 {w : World} : RdT Tryz.prog w 25 class_Set.c (fun s => (∀ x ∈ s.f_W.l, InK .u64 x) ∧ True) :=
  RdT.map (rd_struct Tryz.underlying25 (N := 4) (by kernel_rfl) (rdF_cons (N := 4) (o := 0) (c1 := ((cArr (n := 4) (cInt .u64)))) (c2 := (fun _ : Unit => [])) (W1 := (fun (v : (Arr Int 4)) => ∀ x ∈ v.l, InK .u64 x)) (W2 := (fun _ : Unit => True)) (by rfl) (z := 4) (by kernel_rfl) (rd_arr (z := 1) Tryz.underlying23 (by kernel_rfl) (by kernel_rfl) enc_int (rd_int Tryz.underlying22)) rdF_nil)) (fun (a : (Arr Int 4) × Unit) => (⟨a.1⟩ : class_Set)) (fun a => by simp only [class_Set.c, List.append_nil]) (fun a h => h)
theorem rdS54 {w : World} : RdT Tryz.prog w 54 facts_Facts.c (fun s => ((∀ x ∈ s.f_First.f_W.l, InK .u64 x) ∧ True) ∧ (True) ∧ (True) ∧ (s.f_Prefix.size ≤ maxLen) ∧ True) :=
  RdT.map (rd_struct Tryz.underlying54 (N := 7) (by kernel_rfl) (rdF_cons (N := 7) (o := 0) (c1 := (class_Set.c)) (c2 := (fun x : Bool × Bool × ByteArray × Unit => (cBool) x.1 ++ (fun x : Bool × ByteArray × Unit => (cBool) x.1 ++ (fun x : ByteArray × Unit => (cStr) x.1 ++ (fun _ : Unit => []) x.2) x.2) x.2)) (W1 := (fun (v : class_Set) => (∀ x ∈ v.f_W.l, InK .u64 x) ∧ True)) (W2 := (fun x : Bool × Bool × ByteArray × Unit => (fun (v : Bool) => True) x.1 ∧ (fun x : Bool × ByteArray × Unit => (fun (v : Bool) => True) x.1 ∧ (fun x : ByteArray × Unit => (fun (v : ByteArray) => v.size ≤ maxLen) x.1 ∧ (fun _ : Unit => True) x.2) x.2) x.2)) (by rfl) (z := 4) (by kernel_rfl) rdS25 (rdF_cons (N := 7) (o := 4) (c1 := (cBool)) (c2 := (fun x : Bool × ByteArray × Unit => (cBool) x.1 ++ (fun x : ByteArray × Unit => (cStr) x.1 ++ (fun _ : Unit => []) x.2) x.2)) (W1 := (fun (v : Bool) => True)) (W2 := (fun x : Bool × ByteArray × Unit => (fun (v : Bool) => True) x.1 ∧ (fun x : ByteArray × Unit => (fun (v : ByteArray) => v.size ≤ maxLen) x.1 ∧ (fun _ : Unit => True) x.2) x.2)) (by rfl) (z := 1) (by kernel_rfl) (rd_bool Tryz.underlying4) (rdF_cons (N := 7) (o := 5) (c1 := (cBool)) (c2 := (fun x : ByteArray × Unit => (cStr) x.1 ++ (fun _ : Unit => []) x.2)) (W1 := (fun (v : Bool) => True)) (W2 := (fun x : ByteArray × Unit => (fun (v : ByteArray) => v.size ≤ maxLen) x.1 ∧ (fun _ : Unit => True) x.2)) (by rfl) (z := 1) (by kernel_rfl) (rd_bool Tryz.underlying4) (rdF_cons (N := 7) (o := 6) (c1 := (cStr)) (c2 := (fun _ : Unit => [])) (W1 := (fun (v : ByteArray) => v.size ≤ maxLen)) (W2 := (fun _ : Unit => True)) (by rfl) (z := 1) (by kernel_rfl) (rd_str Tryz.underlying9) rdF_nil))))) (fun (a : class_Set × Bool × Bool × ByteArray × Unit) => (⟨a.1, a.2.1, a.2.2.1, a.2.2.2.1⟩ : facts_Facts)) (fun a => by simp only [facts_Facts.c, List.append_nil]) (fun a h => h)
theorem contract (H : Type) (enc : TypeId × Value → H) (W : World) (base_ : Nat) (args : Array Value) (ds gs : List (DataW H)) (before : List MemPlace)
    (hval : ∀ (j : Nat) t v, Tryz.f7.params[j]? = some t → args[j]? = some v → Value.okWide Tryz.prog W .any base_ t v)
    (hW : DataW.Whole enc Tryz.prog Tryz.f7.params.toList Rows.factsRestSpec.vars false W args.toList ds gs before) (hL : laidMetH Tryz.prog Rows.factsRestRow.laid W) :
    Calls Tryz.prog 7 args W fun e W' => ∃ v, e = .returned v ∧ Rows.factsRestSpec.post enc Tryz.prog Tryz.f7 false true false false W args v W' := by
  have hW' := hW
  obtain ⟨p, q, hA0, hV, rfl, hfz, hnd⟩ := hW
  have r_ : DataW.TrodAll enc Tryz.prog W 0 (fun _ => true) true Tryz.f7.params.toList args.toList ds p := hA0
  rw [Tryz.params7] at r_ hval
  obtain ⟨v0, vs0, d0, ds0, p0, q0, g0, rfl, rfl, h0, r0⟩ := trodAll_cons r_
  obtain ⟨v1, vs1, d1, ds1, p1, q1, g1, rfl, rfl, h1, r1⟩ := trodAll_cons r0
  obtain ⟨v2, vs2, d2, ds2, p2, q2, g2, rfl, rfl, h2, r2⟩ := trodAll_cons r1
  obtain ⟨z1, rfl, rfl⟩ := trodAll_nil r2
  obtain rfl : args = #[v0, v1, v2] := by cases args; simp_all
  obtain ⟨x0, rfl, w0⟩ := op_agg T.ag54 rdS54 (hval 0 54 v0 rfl rfl) h0
  obtain ⟨x1, rfl, w1⟩ := op_str Tryz.underlying9 (hval 1 9 v1 rfl rfl) h1
  obtain ⟨x2, rfl, w2⟩ := op_int Tryz.underlying5 (hval 2 5 v2 rfl rfl) h2
  obtain ⟨n, hn⟩ := pure x0 x1 x2 w0 w1 w2
  refine law_flat (M := Mt) (allOk n) base (tab_run (k := K_law09_FactsRest) (x := (x0, x1, x2)) (H := G) (r := true) rfl ?_ hn rfl) ?_ (holdsG hL) (pb rfl) rfl (bt := 4) (by kernel_rfl) (by kernel_rfl) (fun ds hds => ?_) laidOutT (fun t ht => ?_) hW'
  · first | exact rfl | exact ⟨rfl, rfl⟩
  · exact (fm_cons (flat_agg facts_Facts.enc _) (fm_cons rfl (fm_cons rfl fm_nil)))
  · match ds, hds with
    | [d0, d1, d2], _ => rfl
  · change t ∈ Tryz.f7.params.toList at ht
    rw [Tryz.params7] at ht
    simp at ht
    rcases ht with rfl | rfl | rfl <;> exact ⟨by kernel_rfl, of_decide_eq_true (by kernel_rfl)⟩

theorem laid_met (os : Os) : laidMet Tryz.prog Rows.factsRestRow.laid ((laidWorld os).forCall (fun _ _ => 0) ⟨#[], #[.agg #[.int .u64 0, .int .u64 0, .int .u64 0, .int .u64 0, .bool false, .bool false, .string ⟨#[]⟩], .string ⟨#[]⟩, .int .u8 0], []⟩).memory :=
  laidMet_of_run' 8 (by kernel_rfl) (by kernel_rfl)
theorem reads (os : Os) {H : Type} (enc : TypeId × Value → H) : ∃ places, DataW.whole enc Tryz.prog ((laidWorld os).forCall (fun _ _ => 0) ⟨#[], #[.agg #[.int .u64 0, .int .u64 0, .int .u64 0, .int .u64 0, .bool false, .bool false, .string ⟨#[]⟩], .string ⟨#[]⟩, .int .u8 0], []⟩).memory Tryz.f7.params.toList Rows.factsRestSpec.vars false (#[.agg #[.int .u64 0, .int .u64 0, .int .u64 0, .int .u64 0, .bool false, .bool false, .string ⟨#[]⟩], .string ⟨#[]⟩, .int .u8 0] : Array Value).toList 8 = some ([.agg [.agg [.agg [.lit (.int .u64 0), .lit (.int .u64 0), .lit (.int .u64 0), .lit (.int .u64 0)]], .lit (.bool false), .lit (.bool false), .lit (.string [])], .lit (.string []), .lit (.int .u8 0)], [], places) :=
  ⟨[], by kernel_rfl⟩

theorem lifted (os : Os) (started : os.Started) (H : Type) (enc : TypeId × Value → H) (F : Stop.Interp) :
    ReturnsInHanded {} Tryz.checked os 7 .any ((OpenSpec.ofChange Rows.factsRestSpec).preRow enc Tryz.prog Tryz.f7 Rows.factsRestRow.domain false Rows.factsRestRow.laid) (((OpenSpec.ofChange Rows.factsRestSpec).at F).post enc Tryz.prog Tryz.f7 false true false false) := by
  obtain ⟨places, hx⟩ := reads os enc
  refine returnsInHanded_of_row (C := Tryz.checked) (s := OpenSpec.ofChange Rows.factsRestSpec) own started (by kernel_rfl) Tryz.func7
    (witness_row_at (enc := enc) (C := Tryz.checked) false (laidWorld os) #[.agg #[.int .u64 0, .int .u64 0, .int .u64 0, .int .u64 0, .bool false, .bool false, .string ⟨#[]⟩], .string ⟨#[]⟩, .int .u8 0] rfl (by kernel_rfl) (by kernel_rfl) (by kernel_rfl)
      (OpenSpec.preRow_of_cond 8 hx (by kernel_rfl) (fun k hk => by cases hk) (by kernel_rfl) (laid_met os))) ?_
  intro W base args ds gs before hval hW _ _ _ hL _ _
  exact contract H enc W base args ds gs before hval hW hL

theorem said : Rows.FactsRestSaid :=
  OpenClaim.holds_of_cond 7 Tryz.f7 rfl rfl rfl rfl rfl rfl rfl ⟨rfl, rfl, rfl, rfl, rfl⟩ rfl rfl rfl rfl rfl (by kernel_rfl) Tryz.func7 (by kernel_rfl)
    (of_decide_eq_true (by kernel_rfl)) (by unfold Func.isWrapper; first | (rw [if_pos (by decide +kernel)]; kernel_rfl) | (rw [if_neg (by decide +kernel)]; exact ⟨rfl, rfl⟩))
    (fun os started H enc _ F => by rw [OpenClaim.pre_eq_preRow]; exact lifted os started H enc F)

/-- No parameter wants a stand-in; the program's own looks are off: what the card asks. -/
theorem plain (f : FuncId) (fn : Func) (hf : Tryz.pinned.checked.prog.funcNamed "clew/clewlaw09.FactsRest" = some f) (hfn : Tryz.pinned.checked.prog.funcs[f]? = some fn) :
    true = Tryz.pinned.checked.prog.looks [] ∧ ∀ (j : Nat) t, fn.params[j]? = some t → Tryz.pinned.checked.prog.wantsStandIn t = false := by
  obtain rfl : f = 7 := Option.some.inj ((show Tryz.prog.funcNamed "clew/clewlaw09.FactsRest" = some 7 by kernel_rfl).symm.trans hf) |>.symm
  obtain rfl : fn = Tryz.f7 := (Option.some.inj (Tryz.func7.symm.trans hfn)).symm
  refine ⟨by kernel_rfl, fun j t ht => ?_⟩
  rw [Tryz.params7] at ht
  have h := Array.mem_of_getElem? ht
  simp at h
  rcases h with rfl | rfl | rfl
  · exact (show Tryz.prog.wantsStandIn 54 = false by kernel_rfl)
  · exact (show Tryz.prog.wantsStandIn 9 = false by kernel_rfl)
  · exact (show Tryz.prog.wantsStandIn 5 = false by kernel_rfl)

/-- THE CARD. -/
theorem card : Rows.FactsRestCardSaid :=
  Claim7.holds_tied_plain_at .later [] _ _ _ _ said (fun _ h => by cases h) (by kernel_rfl) (fun _ h => by cases h) factsRest_row_tie rfl ⟨rfl, rfl⟩ (by kernel_rfl) rfl plain (by kernel_rfl)
end Go.Proofs.YtaadjlpfdajggaaGreatDoor.factsRest
