/-
  LexBytes returns true for every byte, and its argument reads behind the call as before: the given statement Rows.LexBytesCardSaid. No condition but the row's own: the table math/bits.deBruijn64tab is as it is laid (its tie to the program's text is in the card).
-/
import Derived.Test.YtcjnmmeibppblaaDoorGround
import Derived.Test.YtcjnmmeibppblaaDoorBytes0
import Derived.Test.YtcjnmmeibppblaaDoorBytes1
import Derived.Test.YtcjnmmeibppblaaDoorBytes2
import Derived.Test.YtcjnmmeibppblaaDoorBytes3
set_option maxRecDepth 100000
namespace Go.Proofs.YtcjnmmeibppblaaDoor.lexBytes
open Go Go.AM Go.ChangeShapes Go.WideShapes Go.ChangeAt Go.RowKit

theorem allBytes (n : Nat) (h : n < 256) : byteTrue n = true := by
  have key : ∀ a, ((List.range 16).all fun k => byteTrue (a + k)) = true → a ≤ n → n < a + 16 → byteTrue n = true := fun a ha h1 h2 => by
    have := List.all_eq_true.1 ha (n - a) (by simp; omega)
    rwa [Nat.add_sub_cancel' h1] at this
  by_cases h0 : n < 16; · exact key 0 b0 (by omega) h0
  by_cases h1 : n < 32; · exact key 16 b16 (by omega) h1
  by_cases h2 : n < 48; · exact key 32 b32 (by omega) h2
  by_cases h3 : n < 64; · exact key 48 b48 (by omega) h3
  by_cases h4 : n < 80; · exact key 64 b64 (by omega) h4
  by_cases h5 : n < 96; · exact key 80 b80 (by omega) h5
  by_cases h6 : n < 112; · exact key 96 b96 (by omega) h6
  by_cases h7 : n < 128; · exact key 112 b112 (by omega) h7
  by_cases h8 : n < 144; · exact key 128 b128 (by omega) h8
  by_cases h9 : n < 160; · exact key 144 b144 (by omega) h9
  by_cases h10 : n < 176; · exact key 160 b160 (by omega) h10
  by_cases h11 : n < 192; · exact key 176 b176 (by omega) h11
  by_cases h12 : n < 208; · exact key 192 b192 (by omega) h12
  by_cases h13 : n < 224; · exact key 208 b208 (by omega) h13
  by_cases h14 : n < 240; · exact key 224 b224 (by omega) h14
  exact key 240 b240 (by omega) (by omega)

theorem walk (n : Nat) (h : n < 256) : ∃ H' d, callW Mt CB 60 G.length 6 [.int .u8 n] G = some (.bool true, H', d) := by
  have := allBytes n h
  unfold byteTrue at this
  split at this
  · rename_i H' d hr; exact ⟨H', d, hr⟩
  · cases this

theorem contract (H : Type) (enc : TypeId × Value → H) (W : World) (base_ : Nat) (args : Array Value) (ds gs : List (DataW H)) (before : List MemPlace)
    (hval : ∀ (j : Nat) t v, Tryd.f6.params[j]? = some t → args[j]? = some v → Value.okWide Tryd.prog W .any base_ t v)
    (hW : DataW.Whole enc Tryd.prog Tryd.f6.params.toList Rows.lexBytesSpec.vars false W args.toList ds gs before) (hL : laidMetH Tryd.prog Rows.lexBytesRow.laid W) :
    Calls Tryd.prog 6 args W fun e W' => ∃ v, e = .returned v ∧ Rows.lexBytesSpec.post enc Tryd.prog Tryd.f6 false true false false W args v W' := by
  have hW' := hW
  obtain ⟨p, q, hA0, hV, rfl, hfz, hnd⟩ := hW
  have hA : DataW.TrodAll enc Tryd.prog W 0 (fun _ => true) true Tryd.f6.params.toList args.toList ds p := hA0
  rw [Tryd.params6] at hA hval
  obtain ⟨v0, vs0, d0, ds0, p0, q0, hargs, rfl, rfl, h0, r0⟩ := trodAll_cons hA
  obtain ⟨rfl, rfl, rfl⟩ := trodAll_nil r0
  obtain rfl : args = #[v0] := by cases args; simp_all
  obtain ⟨c, rfl, rfl, rfl, wf⟩ := open_int Tryd.underlying5 (hval 0 5 v0 rfl rfl) h0
  have hc : 0 ≤ c ∧ c < 256 := by
    simp only [Lit.wf, Bool.and_eq_true, decide_eq_true_eq] at wf
    have h1 : IntKind.u8.min = 0 := rfl
    have h2 : IntKind.u8.max = 255 := rfl
    rw [h1, h2] at wf
    omega
  obtain ⟨n, rfl⟩ : ∃ n : Nat, c = n := ⟨c.toNat, by omega⟩
  obtain ⟨H', d, hr⟩ := walk n (by omega)
  exact law_flat (M := Mt) (callW_ok okM okCB 60) base hr (by simp [flat_eq]) (holdsG hL) rfl (bt := 4) (by kernel_rfl) (by kernel_rfl) (fun ds hds => by
    match ds, hds with
    | [d], _ => rfl) laidOutT (fun t ht => by
    change t ∈ Tryd.f6.params.toList at ht
    rw [Tryd.params6] at ht
    simp at ht; subst ht
    exact ⟨by kernel_rfl, of_decide_eq_true (by kernel_rfl)⟩) hW'

theorem laid_met (os : Os) : laidMet Tryd.prog Rows.lexBytesRow.laid ((laidWorld os).forCall (fun _ _ => 0) ⟨#[], #[.int .u8 0], []⟩).memory :=
  laidMet_of_run' 8 (by kernel_rfl) (by kernel_rfl)
theorem reads (os : Os) {H : Type} (enc : TypeId × Value → H) : ∃ places, DataW.whole enc Tryd.prog ((laidWorld os).forCall (fun _ _ => 0) ⟨#[], #[.int .u8 0], []⟩).memory Tryd.f6.params.toList Rows.lexBytesSpec.vars false #[Value.int .u8 0].toList 8 = some ([.lit (.int .u8 0)], [], places) :=
  ⟨[], by kernel_rfl⟩

theorem lifted (os : Os) (started : os.Started) (H : Type) (enc : TypeId × Value → H) (F : Stop.Interp) :
    ReturnsInHanded {} Tryd.checked os 6 .any ((OpenSpec.ofChange Rows.lexBytesSpec).preRow enc Tryd.prog Tryd.f6 Rows.lexBytesRow.domain false Rows.lexBytesRow.laid) (((OpenSpec.ofChange Rows.lexBytesSpec).at F).post enc Tryd.prog Tryd.f6 false true false false) := by
  obtain ⟨places, hx⟩ := reads os enc
  refine returnsInHanded_of_row (C := Tryd.checked) (s := OpenSpec.ofChange Rows.lexBytesSpec) own started (by kernel_rfl) Tryd.func6
    (witness_row_at (enc := enc) (C := Tryd.checked) false (laidWorld os) #[.int .u8 0] rfl (by kernel_rfl) (by kernel_rfl) (by kernel_rfl)
      (OpenSpec.preRow_of_cond 8 hx (by kernel_rfl) (fun k hk => by cases hk) (by kernel_rfl) (laid_met os))) ?_
  intro W base args ds gs before hval hW _ _ _ hL _ _
  exact contract H enc W base args ds gs before hval hW hL

theorem said : Rows.LexBytesSaid :=
  OpenClaim.holds_of_cond 6 Tryd.f6 rfl rfl rfl rfl rfl rfl rfl ⟨rfl, rfl, rfl, rfl, rfl⟩ rfl rfl rfl rfl rfl (by kernel_rfl) Tryd.func6 (by kernel_rfl)
    (of_decide_eq_true (by kernel_rfl)) (by unfold Func.isWrapper; first | (rw [if_pos (by decide +kernel)]; kernel_rfl) | (rw [if_neg (by decide +kernel)]; exact ⟨rfl, rfl⟩))
    (fun os started H enc _ F => by rw [OpenClaim.pre_eq_preRow]; exact lifted os started H enc F)

/-- No parameter wants a stand-in; the program's own looks are off: what the card asks. -/
theorem plain (f : FuncId) (fn : Func) (hf : Tryd.pinned.checked.prog.funcNamed "clew/clewlaw06.LexBytes" = some f) (hfn : Tryd.pinned.checked.prog.funcs[f]? = some fn) :
    false = Tryd.pinned.checked.prog.looks [] ∧ ∀ (j : Nat) t, fn.params[j]? = some t → Tryd.pinned.checked.prog.wantsStandIn t = false := by
  obtain rfl : f = 6 := Option.some.inj ((show Tryd.prog.funcNamed "clew/clewlaw06.LexBytes" = some 6 by kernel_rfl).symm.trans hf) |>.symm
  obtain rfl : fn = Tryd.f6 := (Option.some.inj (Tryd.func6.symm.trans hfn)).symm
  refine ⟨by kernel_rfl, fun j t ht => ?_⟩
  rw [Tryd.params6] at ht
  obtain rfl : t = 5 := by simpa using Array.mem_of_getElem? ht
  exact (show Tryd.prog.wantsStandIn 5 = false by kernel_rfl)

/-- THE CARD. -/
theorem card : Rows.LexBytesCardSaid :=
  Claim7.holds_tied_plain_at .later [] _ _ _ _ said (fun _ h => by cases h) (by kernel_rfl) (fun _ h => by cases h) lexBytes_row_tie rfl ⟨rfl, rfl⟩ (by kernel_rfl) rfl plain (by kernel_rfl)
end Go.Proofs.YtcjnmmeibppblaaDoor.lexBytes
