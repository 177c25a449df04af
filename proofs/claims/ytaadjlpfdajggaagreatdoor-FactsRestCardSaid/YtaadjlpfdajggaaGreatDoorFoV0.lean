/-
  WHAT THE FUNCTIONS COMPUTE, AS TYPED FUNCTIONS, AND THAT THEY DO: printed by our own mir.py.
-/
import Derived.Test.YtaadjlpfdajggaaGreatDoorFoBase
set_option maxRecDepth 100000
set_option linter.unusedVariables false
set_option linter.unusedSimpArgs false
namespace Go.Proofs.YtaadjlpfdajggaaGreatDoor
open Go Go.AM
attribute [local congr] bind_first map_first
-- clew/clewlaw09.FactsOut
def b_law09_FactsOut (c_law09_Ref : T_law09_Ref) (c_law09_fixed : T_law09_fixed) (c_facts_Out : T_facts_Out) (c_ref09_Out : T_ref09_Out) (n : Nat) (x0 : facts_Facts) (x1 : ByteArray) (x2 : Int) : Option (Bool) := (sub x1 0 (min ((x1.size : Int)) 200)).bind fun v11 => (sub x0.f_Prefix 0 (min ((x0.f_Prefix.size : Int)) 200)).bind fun v14 => (c_facts_Out ({ x0 with f_Prefix := v14 }) v11 x2).bind fun v22 => (c_law09_Ref ({ x0 with f_Prefix := v14 })).bind fun v25 => (c_ref09_Out v25 v11 x2).bind fun v27 => (bif decide (v22 = v27) then ((c_law09_fixed).bind fun v29 => some v29) else some false).bind fun y30 => some y30

theorem w_law09_FactsOut {call : CallF} (hok : CallOk Mt call) {n : Nat} {c_law09_Ref : T_law09_Ref} (ha_law09_Ref : A_law09_Ref call c_law09_Ref) {c_law09_fixed : T_law09_fixed} (ha_law09_fixed : A_law09_fixed call c_law09_fixed) {c_facts_Out : T_facts_Out} (ha_facts_Out : A_facts_Out call c_facts_Out) {c_ref09_Out : T_ref09_Out} (ha_ref09_Out : A_ref09_Out call c_ref09_Out) {H0 : Hp} {x0 : facts_Facts} {x1 : ByteArray} {x2 : Int} {r : Bool} {ro : Nat} (hro : ro ≤ H0.length) (hm : b_law09_FactsOut c_law09_Ref c_law09_fixed c_facts_Out c_ref09_Out n x0 x1 x2 = some r) (hG1 : TabH1 H0) :
    Pt Mt ro 6 [(vAgg (facts_Facts.c x0)), (.string x1), (.int .i64 x2)] H0 (.bool (r)) H0 [] := by
  refine pt_new0 okM F6d (by exact Nat.le_of_ble_eq_true rfl) ?_ hro
  intro c hnt hnb hcr
  have hcn : c.ro ≤ c.nb := by omega
  have iv : Iv c.nb [] H0 H0 := by rw [hnb]; exact iv_refl
  rw [show args0 [(vAgg (facts_Facts.c x0)), (.string x1), (.int .i64 x2)] = [(0, (vAgg (facts_Facts.c x0))), (1, (.string x1)), (2, (.int .i64 x2))] from rfl]
  rw [b_law09_FactsOut] at hm
  simp only [C.f6]
  refine tk_os okM hok fun J hJ => ?_
  obtain ⟨b1, H2, a3, f4, q5, r6, x7, i8⟩ := bx_ok (M := Mt) (t := 54) (u := (vAgg (facts_Facts.c (x0)))) (cs := facts_Facts.c x0) H0 iv.le (by rw [facts_Facts.enc.len]; exact T.sz54) vAgg_cells (facts_Facts.enc.one _)
  have i9 := i8 _ _ iv
  simp only [C.f6r0, R, Nat.reduceEqDiff, a3]
  refine hJ _ ?_
  refine tk_os okM hok fun J hJ => ?_
  obtain ⟨v11, ev11, hm⟩ := bind_s hm
  simp only [C.f6r1, R, Nat.reduceEqDiff, len_str (M := Mt) Tryz.underlying9, sl_str3 (M := Mt) Tryz.underlying9, ev11]
  refine hJ _ ?_
  refine tk_os okM hok fun J hJ => ?_
  have a12 := ld_one (M := Mt) (t := 9) f4 T.ag9 (Seg.refl.sub (facts_Facts.seg3 x0))
  have a13 := ld_one (M := Mt) (t := 9) f4 T.ag9 (Seg.refl.sub (facts_Facts.seg3 x0))
  obtain ⟨v14, ev14, hm⟩ := bind_s hm
  obtain ⟨H15, a16, f17, u18⟩ := st_ok (M := Mt) (t := 9) (v := (.string (v14))) (c := cStr v14) (cs' := facts_Facts.c ({ x0 with f_Prefix := v14 })) f4 (by rw [enc_str.len]; exact T.sz9) rfl (enc_str.one _) (Nat.le_trans hcn r6) (Nat.le_trans (Nat.le_of_eq (congrArg _ (eqL enc_str.len))) (Seg.refl.sub (facts_Facts.seg3 x0)).2) (by rw [Nat.zero_add, facts_Facts.wr3 x0 v14])
  have i19 := i9.up u18 r6
  simp only [C.f6r2, R, Nat.reduceEqDiff, fa54_3, a12, a13, len_str (M := Mt) Tryz.underlying9, sl_str3 (M := Mt) Tryz.underlying9, ev14, a16]
  refine hJ _ ?_
  refine tk_os okM hok fun J hJ => ?_
  rw [C.f6r3]
  have a20 := ld_agg (M := Mt) (t := 54) f17 T.ag54 (by rw [facts_Facts.enc.len]; exact T.sz54) Seg.refl
  obtain ⟨v22, ev22, hm⟩ := bind_s hm
  have a21 := ha_facts_Out H15.length H15 ({ x0 with f_Prefix := v14 }) v11 x2 v22 ev22
  have a23 := ld_agg (M := Mt) (t := 54) f17 T.ag54 (by rw [facts_Facts.enc.len]; exact T.sz54) Seg.refl
  obtain ⟨v25, ev25, hm⟩ := bind_s hm
  have a24 := ha_law09_Ref H15.length H15 ({ x0 with f_Prefix := v14 }) v25 ev25
  obtain ⟨v27, ev27, hm⟩ := bind_s hm
  have a26 := ha_ref09_Out H15.length H15 v25 v11 x2 v27 ev27
  obtain ⟨y30, ey30, hm⟩ := bind_s hm
  refine rn_app_k (fun ⟨σ, H, _⟩ => Lk σ 32 (.bool (y30)) ∧ Iv c.nb [] H0 H) (fun J hJ => ?_) ?_
  · skip
    cases g34 : decide (v22 = v27)
    · skip
      have ey30 := cond_f ey30 g34
      obtain rfl := Option.some.inj ey30
      simp only [C.f6r3p0, R, Nat.reduceEqDiff, s_pt, s_gt, isW, Bool.false_eq_true, if_false, if_true, reduceIte, a20, c_fn F30, a21, a23, c_fn F28, a24, c_fn F31, a26, bin_beq (P := Mt.P) Tryz.underlying4, g34]
      refine hJ _ ?_
      exact ⟨(by first | rfl | (simp only [g34]; rfl) | simp only [g34, Lk, RB, Nat.reduceEqDiff, not_false_eq_true]), i19⟩
    · skip
      have ey30 := cond_t ey30 g34
      obtain ⟨v36, ev36, ey30⟩ := bind_s ey30
      have a35 := ha_law09_fixed H15.length H15  v36 (tabIv1 i19 hnb hG1) ev36
      obtain rfl := Option.some.inj ey30
      simp only [C.f6r3p0, R, Nat.reduceEqDiff, s_pt, s_gt, isW, Bool.false_eq_true, if_false, if_true, reduceIte, a20, c_fn F30, a21, a23, c_fn F28, a24, c_fn F31, a26, bin_beq (P := Mt.P) Tryz.underlying4, g34, c_fn F29, a35]
      refine hJ _ ?_
      exact ⟨(by first | rfl | (simp only [g34]; rfl) | simp only [g34, Lk, RB, Nat.reduceEqDiff, not_false_eq_true]), i19⟩
  rintro ⟨σ37, H31, d38⟩ ⟨h32, i33⟩
  simp only [C.f6r3p1, R, Nat.reduceEqDiff, s_pt, s_gt, isW, Bool.false_eq_true, if_false, if_true, reduceIte, h32]
  refine hJ _ ?_
  refine tk_ret okM ?_
  obtain rfl := Option.some.inj hm
  exact end_flat (.inl rfl) (vs := [(.bool (y30))]) (resT' (v := (.bool (y30))) rfl resN) (fm_cons rfl fm_nil)

-- clew/clewlaw09.FactsRest
def b_law09_FactsRest (c_law09_fixed : T_law09_fixed) (c_facts_Out : T_facts_Out) (n : Nat) (x0 : facts_Facts) (x1 : ByteArray) (x2 : Int) : Option (Bool) := (sub x1 0 (min ((x1.size : Int)) 200)).bind fun v11 => (sub (({ x0 with f_Fast := false }).f_Prefix) 0 (min (((({ x0 with f_Fast := false }).f_Prefix).size : Int)) 200)).bind fun v19 => (remO (IntKind.i64.wrap x2) (IntKind.i64.wrap (((v11.size : Int)) + 1))).bind fun v25 => (c_facts_Out (facts_Facts.w3 ({ x0 with f_Fast := false }) v19) v11 v25).bind fun v52 => (sub v11 v25 v11.size).bind fun v54 => (c_facts_Out (facts_Facts.w3 ({ x0 with f_Fast := false }) v19) v54 0).bind fun v56 => (bif decide (v52 = v56) then ((c_facts_Out (facts_Facts.w2 (facts_Facts.w3 ({ x0 with f_Fast := false }) v19) true) v11 v25).bind fun v59 => some (decide (v59 = (v52 || (decide (0 < v25)))))) else some false).bind fun y60 => (bif y60 then ((c_facts_Out (facts_Facts.w3 ({ x0 with f_Fast := false }) v19) v11 (IntKind.i64.wrap (((v11.size : Int)) + 1))).bind fun v76 => some (!v76)) else some false).bind fun y77 => (bif y77 then ((c_facts_Out (facts_Facts.w3 ({ x0 with f_Fast := false }) v19) v11 ((-1))).bind fun v92 => some (!v92)) else some false).bind fun y93 => (bif y93 then ((c_law09_fixed).bind fun v104 => some v104) else some false).bind fun y105 => some y105

theorem w_law09_FactsRest {call : CallF} (hok : CallOk Mt call) {n : Nat} {c_law09_fixed : T_law09_fixed} (ha_law09_fixed : A_law09_fixed call c_law09_fixed) {c_facts_Out : T_facts_Out} (ha_facts_Out : A_facts_Out call c_facts_Out) {H0 : Hp} {x0 : facts_Facts} {x1 : ByteArray} {x2 : Int} {r : Bool} {ro : Nat} (hro : ro ≤ H0.length) (hm : b_law09_FactsRest c_law09_fixed c_facts_Out n x0 x1 x2 = some r) (hG1 : TabH1 H0) :
    Pt Mt ro 7 [(vAgg (facts_Facts.c x0)), (.string x1), (.int .u8 x2)] H0 (.bool (r)) H0 [] := by
  refine pt_new0 okM F7d (by exact Nat.le_of_ble_eq_true rfl) ?_ hro
  intro c hnt hnb hcr
  have hcn : c.ro ≤ c.nb := by omega
  have iv : Iv c.nb [] H0 H0 := by rw [hnb]; exact iv_refl
  rw [show args0 [(vAgg (facts_Facts.c x0)), (.string x1), (.int .u8 x2)] = [(0, (vAgg (facts_Facts.c x0))), (1, (.string x1)), (2, (.int .u8 x2))] from rfl]
  rw [b_law09_FactsRest] at hm
  simp only [C.f7]
  refine tk_os okM hok fun J hJ => ?_
  obtain ⟨b1, H2, a3, f4, q5, r6, x7, i8⟩ := bx_ok (M := Mt) (t := 54) (u := (vAgg (facts_Facts.c (x0)))) (cs := facts_Facts.c x0) H0 iv.le (by rw [facts_Facts.enc.len]; exact T.sz54) vAgg_cells (facts_Facts.enc.one _)
  have i9 := i8 _ _ iv
  simp only [C.f7r0, R, Nat.reduceEqDiff, a3]
  refine hJ _ ?_
  refine tk_os okM hok fun J hJ => ?_
  obtain ⟨v11, ev11, hm⟩ := bind_s hm
  simp only [C.f7r1, R, Nat.reduceEqDiff, len_str (M := Mt) Tryz.underlying9, sl_str3 (M := Mt) Tryz.underlying9, ev11]
  refine hJ _ ?_
  refine tk_os okM hok fun J hJ => ?_
  obtain ⟨H12, a13, f14, u15⟩ := st_ok (M := Mt) (t := 4) (v := (.bool (false))) (c := cBool false) (cs' := facts_Facts.c ({ x0 with f_Fast := false })) f4 (by rw [enc_bool.len]; exact T.sz4) rfl (enc_bool.one _) (Nat.le_trans hcn r6) (Nat.le_trans (Nat.le_of_eq (congrArg _ (eqL enc_bool.len))) (Seg.refl.sub (facts_Facts.seg2 x0)).2) (by rw [Nat.zero_add, facts_Facts.wr2 x0 false])
  have i16 := i9.up u15 r6
  simp only [C.f7r2, R, Nat.reduceEqDiff, fa54_2, a13]
  refine hJ _ ?_
  refine tk_os okM hok fun J hJ => ?_
  have a17 := ld_one (M := Mt) (t := 9) f14 T.ag9 (Seg.refl.sub (facts_Facts.seg3 ({ x0 with f_Fast := false })))
  have a18 := ld_one (M := Mt) (t := 9) f14 T.ag9 (Seg.refl.sub (facts_Facts.seg3 ({ x0 with f_Fast := false })))
  obtain ⟨v19, ev19, hm⟩ := bind_s hm
  obtain ⟨H20, a21, f22, u23⟩ := st_ok (M := Mt) (t := 9) (v := (.string (v19))) (c := cStr v19) (cs' := facts_Facts.c (facts_Facts.w3 ({ x0 with f_Fast := false }) v19)) f14 (by rw [enc_str.len]; exact T.sz9) rfl (enc_str.one _) (Nat.le_trans hcn r6) (Nat.le_trans (Nat.le_of_eq (congrArg _ (eqL enc_str.len))) (Seg.refl.sub (facts_Facts.seg3 ({ x0 with f_Fast := false }))).2) (by rw [Nat.zero_add, facts_Facts.wr3 ({ x0 with f_Fast := false }) v19])
  have i24 := i16.up u23 r6
  simp only [C.f7r3, R, Nat.reduceEqDiff, fa54_3, a17, a18, len_str (M := Mt) Tryz.underlying9, sl_str3 (M := Mt) Tryz.underlying9, ev19, a21]
  refine hJ _ ?_
  refine tk_os okM hok fun J hJ => ?_
  obtain ⟨v25, ev25, hm⟩ := bind_s hm
  simp only [C.f7r4, R, Nat.reduceEqDiff, cv_int (M := Mt) Tryz.underlying5 Tryz.underlying3, len_str (M := Mt) Tryz.underlying9, ev25]
  refine hJ _ ?_
  refine tk_os okM hok fun J hJ => ?_
  have a26 := ld_agg (M := Mt) (t := 54) f22 T.ag54 (by rw [facts_Facts.enc.len]; exact T.sz54) Seg.refl
  obtain ⟨b27, H28, a29, f30, q31, r32, x33, i34⟩ := al_ok H20 54 (facts_Facts.c facts_Facts.zero) i24.le
  have i35 := i34 _ _ i24
  have f36 := x33 _ _ f22
  obtain ⟨H38, a39, f40, u41⟩ := st_ok (M := Mt) (t := 54) (v := (vAgg (facts_Facts.c (facts_Facts.w3 ({ x0 with f_Fast := false }) v19)))) (c := facts_Facts.c (facts_Facts.w3 ({ x0 with f_Fast := false }) v19)) (cs' := facts_Facts.c (facts_Facts.w3 ({ x0 with f_Fast := false }) v19)) f30 (by rw [facts_Facts.enc.len]; exact T.sz54) vAgg_cells (facts_Facts.enc.one _) (Nat.le_trans hcn r32) (le0 facts_Facts.enc.len) (wrs_all (eqL facts_Facts.enc.len))
  have i42 := i35.up u41 r32
  have f43 := (u41.get _ (ne_len f22 q31)).trans f36
  simp only [C.f7r5, R, Nat.reduceEqDiff, a26, zs54, a29, a39]
  refine hJ _ ?_
  refine tk_os okM hok fun J hJ => ?_
  obtain ⟨H44, a45, f46, u47⟩ := st_ok (M := Mt) (t := 4) (v := (.bool (true))) (c := cBool true) (cs' := facts_Facts.c (facts_Facts.w2 (facts_Facts.w3 ({ x0 with f_Fast := false }) v19) true)) f40 (by rw [enc_bool.len]; exact T.sz4) rfl (enc_bool.one _) (Nat.le_trans hcn r32) (Nat.le_trans (Nat.le_of_eq (congrArg _ (eqL enc_bool.len))) (Seg.refl.sub (facts_Facts.seg2 (facts_Facts.w3 ({ x0 with f_Fast := false }) v19))).2) (by rw [Nat.zero_add, facts_Facts.wr2 (facts_Facts.w3 ({ x0 with f_Fast := false }) v19) true])
  have i48 := i42.up u47 r32
  have f49 := (u47.get _ (ne_len f22 q31)).trans f43
  simp only [C.f7r6, R, Nat.reduceEqDiff, fa54_2, a45]
  refine hJ _ ?_
  refine tk_os okM hok fun J hJ => ?_
  have a50 := ld_agg (M := Mt) (t := 54) f49 T.ag54 (by rw [facts_Facts.enc.len]; exact T.sz54) Seg.refl
  obtain ⟨v52, ev52, hm⟩ := bind_s hm
  have a51 := ha_facts_Out c.ro H44 (facts_Facts.w3 ({ x0 with f_Fast := false }) v19) v11 v25 v52 ev52
  simp only [C.f7r7, R, Nat.reduceEqDiff, a50, c_fn F30, a51]
  refine hJ _ ?_
  refine tk_os okM hok fun J hJ => ?_
  rw [C.f7r8]
  have a53 := ld_agg (M := Mt) (t := 54) f49 T.ag54 (by rw [facts_Facts.enc.len]; exact T.sz54) Seg.refl
  obtain ⟨v54, ev54, hm⟩ := bind_s hm
  obtain ⟨v56, ev56, hm⟩ := bind_s hm
  have a55 := ha_facts_Out c.ro H44 (facts_Facts.w3 ({ x0 with f_Fast := false }) v19) v54 0 v56 ev56
  obtain ⟨y60, ey60, hm⟩ := bind_s hm
  refine rn_app_k (fun ⟨σ, H, _⟩ => Lk σ 1 (.string (v11)) ∧ Lk σ 3 (.pointer (some ⟨b1, 0, none⟩)) ∧ Lk σ 54 (.bool (y60)) ∧ H[b1]? = some (.cells (facts_Facts.c (facts_Facts.w3 ({ x0 with f_Fast := false }) v19)) 54) ∧ Iv c.nb [] H0 H) (fun J hJ => ?_) ?_
  · skip
    cases g67 : decide (v52 = v56)
    · skip
      have ey60 := cond_f ey60 g67
      obtain rfl := Option.some.inj ey60
      simp only [C.f7r8p0, R, Nat.reduceEqDiff, a53, sl_str (M := Mt) Tryz.underlying9, ev54, c_fn F30, a55, bin_beq (P := Mt.P) Tryz.underlying4, g67]
      refine hJ _ ?_
      exact ⟨(by first | rfl | (simp only [g67]; rfl) | simp only [g67, Lk, RB, Nat.reduceEqDiff, not_false_eq_true]), rfl, (by first | rfl | (simp only [g67]; rfl) | simp only [g67, Lk, RB, Nat.reduceEqDiff, not_false_eq_true]), f49, i48⟩
    · skip
      have ey60 := cond_t ey60 g67
      have a68 := ld_agg (M := Mt) (t := 54) f46 T.ag54 (by rw [facts_Facts.enc.len]; exact T.sz54) Seg.refl
      obtain ⟨v70, ev70, ey60⟩ := bind_s ey60
      have a69 := ha_facts_Out c.ro H44 (facts_Facts.w2 (facts_Facts.w3 ({ x0 with f_Fast := false }) v19) true) v11 v25 v70 ev70
      cases g71 : v52
      · skip
        rw [g71] at g67
        obtain rfl := Option.some.inj ey60
        simp only [C.f7r8p0, R, Nat.reduceEqDiff, a53, sl_str (M := Mt) Tryz.underlying9, ev54, c_fn F30, a55, bin_beq (P := Mt.P) Tryz.underlying4, g67, a68, a69, g71]
        refine hJ _ ?_
        exact ⟨(by first | rfl | (simp only [g67, g71]; rfl) | simp only [g67, g71, Lk, RB, Nat.reduceEqDiff, not_false_eq_true]), rfl, (by first | rfl | (simp only [g67, g71]; rfl) | simp only [g67, g71, Lk, RB, Nat.reduceEqDiff, not_false_eq_true]), f49, i48⟩
      · skip
        rw [g71] at g67
        obtain rfl := Option.some.inj ey60
        simp only [C.f7r8p0, R, Nat.reduceEqDiff, a53, sl_str (M := Mt) Tryz.underlying9, ev54, c_fn F30, a55, bin_beq (P := Mt.P) Tryz.underlying4, g67, a68, a69, g71]
        refine hJ _ ?_
        exact ⟨(by first | rfl | (simp only [g67, g71]; rfl) | simp only [g67, g71, Lk, RB, Nat.reduceEqDiff, not_false_eq_true]), rfl, (by first | rfl | (simp only [g67, g71]; rfl) | simp only [g67, g71, Lk, RB, Nat.reduceEqDiff, not_false_eq_true]), f49, i48⟩
  rintro ⟨σ72, H61, d73⟩ ⟨h62, h63, h64, f65, i66⟩
  obtain ⟨y77, ey77, hm⟩ := bind_s hm
  refine rn_app_k (fun ⟨σ, H, _⟩ => Lk σ 1 (.string (v11)) ∧ Lk σ 3 (.pointer (some ⟨b1, 0, none⟩)) ∧ Lk σ 63 (.bool (y77)) ∧ H[b1]? = some (.cells (facts_Facts.c (facts_Facts.w3 ({ x0 with f_Fast := false }) v19)) 54) ∧ Iv c.nb [] H0 H) (fun J hJ => ?_) ?_
  · skip
    cases g84 : y60
    · skip
      have ey77 := cond_f ey77 g84
      obtain rfl := Option.some.inj ey77
      simp only [C.f7r8p1, R, Nat.reduceEqDiff, h64, g84]
      refine hJ _ ?_
      exact ⟨h62, h63, (by first | rfl | (simp only [g84]; rfl) | simp only [g84, Lk, RB, Nat.reduceEqDiff, not_false_eq_true]), f65, i66⟩
    · skip
      have ey77 := cond_t ey77 g84
      have a85 := ld_agg (M := Mt) (t := 54) f65 T.ag54 (by rw [facts_Facts.enc.len]; exact T.sz54) Seg.refl
      obtain ⟨v87, ev87, ey77⟩ := bind_s ey77
      have a86 := ha_facts_Out c.ro H61 (facts_Facts.w3 ({ x0 with f_Fast := false }) v19) v11 (IntKind.i64.wrap (((v11.size : Int)) + 1)) v87 ev87
      obtain rfl := Option.some.inj ey77
      simp only [C.f7r8p1, R, Nat.reduceEqDiff, h64, g84, a85, h63, h62, len_str (M := Mt) Tryz.underlying9, c_fn F30, a86]
      refine hJ _ ?_
      exact ⟨h62, h63, (by first | rfl | (simp only [g84]; rfl) | simp only [g84, Lk, RB, Nat.reduceEqDiff, not_false_eq_true]), f65, i66⟩
  rintro ⟨σ88, H78, d89⟩ ⟨h79, h80, h81, f82, i83⟩
  obtain ⟨y93, ey93, hm⟩ := bind_s hm
  refine rn_app_k (fun ⟨σ, H, _⟩ => Lk σ 69 (.bool (y93)) ∧ Iv c.nb [] H0 H) (fun J hJ => ?_) ?_
  · skip
    cases g97 : y77
    · skip
      have ey93 := cond_f ey93 g97
      obtain rfl := Option.some.inj ey93
      simp only [C.f7r8p2, R, Nat.reduceEqDiff, h81, g97]
      refine hJ _ ?_
      exact ⟨(by first | rfl | (simp only [g97]; rfl) | simp only [g97, Lk, RB, Nat.reduceEqDiff, not_false_eq_true]), i83⟩
    · skip
      have ey93 := cond_t ey93 g97
      have a98 := ld_agg (M := Mt) (t := 54) f82 T.ag54 (by rw [facts_Facts.enc.len]; exact T.sz54) Seg.refl
      obtain ⟨v100, ev100, ey93⟩ := bind_s ey93
      have a99 := ha_facts_Out c.ro H78 (facts_Facts.w3 ({ x0 with f_Fast := false }) v19) v11 ((-1)) v100 ev100
      obtain rfl := Option.some.inj ey93
      simp only [C.f7r8p2, R, Nat.reduceEqDiff, h81, g97, a98, h80, h79, c_fn F30, a99]
      refine hJ _ ?_
      exact ⟨(by first | rfl | (simp only [g97]; rfl) | simp only [g97, Lk, RB, Nat.reduceEqDiff, not_false_eq_true]), i83⟩
  rintro ⟨σ101, H94, d102⟩ ⟨h95, i96⟩
  obtain ⟨y105, ey105, hm⟩ := bind_s hm
  refine rn_app_k (fun ⟨σ, H, _⟩ => Lk σ 72 (.bool (y105)) ∧ Iv c.nb [] H0 H) (fun J hJ => ?_) ?_
  · skip
    cases g109 : y93
    · skip
      have ey105 := cond_f ey105 g109
      obtain rfl := Option.some.inj ey105
      simp only [C.f7r8p3, R, Nat.reduceEqDiff, h95, g109]
      refine hJ _ ?_
      exact ⟨(by first | rfl | (simp only [g109]; rfl) | simp only [g109, Lk, RB, Nat.reduceEqDiff, not_false_eq_true]), i96⟩
    · skip
      have ey105 := cond_t ey105 g109
      obtain ⟨v111, ev111, ey105⟩ := bind_s ey105
      have a110 := ha_law09_fixed c.ro H94  v111 (tabIv1 i96 hnb hG1) ev111
      obtain rfl := Option.some.inj ey105
      simp only [C.f7r8p3, R, Nat.reduceEqDiff, h95, g109, c_fn F29, a110]
      refine hJ _ ?_
      exact ⟨(by first | rfl | (simp only [g109]; rfl) | simp only [g109, Lk, RB, Nat.reduceEqDiff, not_false_eq_true]), i96⟩
  rintro ⟨σ112, H106, d113⟩ ⟨h107, i108⟩
  simp only [C.f7r8p4, R, Nat.reduceEqDiff, h107]
  refine hJ _ ?_
  refine tk_ret okM ?_
  obtain rfl := Option.some.inj hm
  exact end_flat (.inl rfl) (vs := [(.bool (y105))]) (resT' (v := (.bool (y105))) rfl resN) (fm_cons rfl fm_nil)

-- clew/clewlaw09.Ref
def b_law09_Ref (c_ref01_Of : T_ref01_Of) (n : Nat) (x0 : facts_Facts) : Option (ref09_Facts) := (c_ref01_Of x0.f_First.f_W).bind fun v24 => some (({ ref09_Facts.zero with f_First := v24, f_Open := x0.f_Open, f_Fast := x0.f_Fast, f_Prefix := x0.f_Prefix } : ref09_Facts))

theorem w_law09_Ref {call : CallF} (hok : CallOk Mt call) {n : Nat} {c_ref01_Of : T_ref01_Of} (ha_ref01_Of : A_ref01_Of call c_ref01_Of) {H0 : Hp} {x0 : facts_Facts} {r : ref09_Facts} {ro : Nat} (hro : ro ≤ H0.length) (hm : b_law09_Ref c_ref01_Of n x0 = some r) :
    Pt Mt ro 28 [(vAgg (facts_Facts.c x0))] H0 (vAgg (ref09_Facts.c (r))) H0 [] := by
  refine pt_new0 okM F28d (by exact Nat.le_of_ble_eq_true rfl) ?_ hro
  intro c hnt hnb hcr
  have hcn : c.ro ≤ c.nb := by omega
  have iv : Iv c.nb [] H0 H0 := by rw [hnb]; exact iv_refl
  rw [show args0 [(vAgg (facts_Facts.c x0))] = [(0, (vAgg (facts_Facts.c x0)))] from rfl]
  rw [b_law09_Ref] at hm
  simp only [C.f28]
  refine tk_os okM hok fun J hJ => ?_
  obtain ⟨b1, H2, a3, f4, q5, r6, x7, i8⟩ := bx_ok (M := Mt) (t := 54) (u := (vAgg (facts_Facts.c (x0)))) (cs := facts_Facts.c x0) H0 iv.le (by rw [facts_Facts.enc.len]; exact T.sz54) vAgg_cells (facts_Facts.enc.one _)
  have i9 := i8 _ _ iv
  obtain ⟨b11, H12, a13, f14, q15, r16, x17, i18⟩ := al_ok H2 61 (ref09_Facts.c ref09_Facts.zero) i9.le
  have i19 := i18 _ _ i9
  have f20 := x17 _ _ f4
  simp only [C.f28r0, R, Nat.reduceEqDiff, a3, zs61, a13]
  refine hJ _ ?_
  refine tk_os okM hok fun J hJ => ?_
  have a22 := ld_agg (M := Mt) (t := 23) f20 T.ag23 (by rw [(enc_arr (n := 4) enc_int).len]; exact T.sz23) ((Seg.refl.sub (facts_Facts.seg0 x0)).sub (class_Set.seg0 x0.f_First))
  obtain ⟨v24, ev24, hm⟩ := bind_s hm
  have a23 := ha_ref01_Of H12.length H12 x0.f_First.f_W v24 ev24
  have a25 := ld_one (M := Mt) (t := 4) f20 T.ag4 (Seg.refl.sub (facts_Facts.seg1 x0))
  have a26 := ld_one (M := Mt) (t := 4) f20 T.ag4 (Seg.refl.sub (facts_Facts.seg2 x0))
  have a27 := ld_one (M := Mt) (t := 9) f20 T.ag9 (Seg.refl.sub (facts_Facts.seg3 x0))
  obtain ⟨H28, a29, f30, u31⟩ := st_ok (M := Mt) (t := 61) (v := (vAgg (ref09_Facts.c (({ ref09_Facts.zero with f_First := v24, f_Open := x0.f_Open, f_Fast := x0.f_Fast, f_Prefix := x0.f_Prefix } : ref09_Facts))))) (c := ref09_Facts.c (({ ref09_Facts.zero with f_First := v24, f_Open := x0.f_Open, f_Fast := x0.f_Fast, f_Prefix := x0.f_Prefix } : ref09_Facts))) (cs' := ref09_Facts.c (({ ref09_Facts.zero with f_First := v24, f_Open := x0.f_Open, f_Fast := x0.f_Fast, f_Prefix := x0.f_Prefix } : ref09_Facts))) f14 (by rw [ref09_Facts.enc.len]; exact T.sz61) vAgg_cells (ref09_Facts.enc.one _) (Nat.le_trans hcn r16) (le0 ref09_Facts.enc.len) (wrs_all (eqL ref09_Facts.enc.len))
  have i32 := i19.up u31 r16
  have f33 := (u31.get _ (ne_len f4 q15)).trans f20
  simp only [C.f28r1, R, Nat.reduceEqDiff, s_pt, s_gt, isW, Bool.false_eq_true, if_false, if_true, reduceIte, fa54_0, fa25_0, a22, c_fn F59, a23, fa54_1, a25, fa54_2, a26, fa54_3, a27, bd61_0_1_2_3, a29]
  refine hJ _ ?_
  refine tk_ret okM ?_
  obtain rfl := Option.some.inj hm
  exact end_flat (.inl rfl) (vs := [(vAgg (ref09_Facts.c (({ ref09_Facts.zero with f_First := v24, f_Open := x0.f_Open, f_Fast := x0.f_Fast, f_Prefix := x0.f_Prefix } : ref09_Facts))))]) (resC' (v := (vAgg (ref09_Facts.c (({ ref09_Facts.zero with f_First := v24, f_Open := x0.f_Open, f_Fast := x0.f_Fast, f_Prefix := x0.f_Prefix } : ref09_Facts))))) rfl (ldv_of (ld_agg (M := Mt) (t := 61) f30 T.ag61 (by rw [ref09_Facts.enc.len]; exact T.sz61) Seg.refl)) resN) (fm_cons (flat_agg ref09_Facts.enc _) fm_nil)

-- clew/facts.Out
def b_facts_Out (c_class_Set_Has : T_class_Set_Has) (c_strings_HasPrefix : T_strings_HasPrefix) (n : Nat) (x0 : facts_Facts) (x1 : ByteArray) (x2 : Int) : Option (Bool) := bif ((decide (x2 < 0)) || (decide (((x1.size : Int)) < x2))) || (decide (x0 = (({ facts_Facts.zero with f_Open := true } : facts_Facts)))) then (some false) else ((bif !x0.f_Open then ((bif decide (x2 = ((x1.size : Int))) then some true else ((bt x1 x2).bind fun v40 => (c_class_Set_Has x0.f_First v40).bind fun v42 => some (!v42))).bind fun y43 => some y43) else some false).bind fun y44 => bif y44 then (some true) else ((bif x0.f_Fast && (decide (0 < x2)) then some true else ((sub x1 x2 x1.size).bind fun v77 => (c_strings_HasPrefix v77 x0.f_Prefix).bind fun v80 => some (!v80))).bind fun y81 => some y81))

theorem w_facts_Out {call : CallF} (hok : CallOk Mt call) {n : Nat} {c_class_Set_Has : T_class_Set_Has} (ha_class_Set_Has : A_class_Set_Has call c_class_Set_Has) {c_strings_HasPrefix : T_strings_HasPrefix} (ha_strings_HasPrefix : A_strings_HasPrefix call c_strings_HasPrefix) {H0 : Hp} {x0 : facts_Facts} {x1 : ByteArray} {x2 : Int} {r : Bool} {ro : Nat} (hro : ro ≤ H0.length) (hm : b_facts_Out c_class_Set_Has c_strings_HasPrefix n x0 x1 x2 = some r) :
    Pt Mt ro 30 [(vAgg (facts_Facts.c x0)), (.string x1), (.int .i64 x2)] H0 (.bool (r)) H0 [] := by
  refine pt_new0 okM F30d (by exact Nat.le_of_ble_eq_true rfl) ?_ hro
  intro c hnt hnb hcr
  have hcn : c.ro ≤ c.nb := by omega
  have iv : Iv c.nb [] H0 H0 := by rw [hnb]; exact iv_refl
  rw [show args0 [(vAgg (facts_Facts.c x0)), (.string x1), (.int .i64 x2)] = [(0, (vAgg (facts_Facts.c x0))), (1, (.string x1)), (2, (.int .i64 x2))] from rfl]
  rw [b_facts_Out] at hm
  simp only [C.f30]
  refine tk_os okM hok fun J hJ => ?_
  obtain ⟨b1, H2, a3, f4, q5, r6, x7, i8⟩ := bx_ok (M := Mt) (t := 54) (u := (vAgg (facts_Facts.c (x0)))) (cs := facts_Facts.c x0) H0 iv.le (by rw [facts_Facts.enc.len]; exact T.sz54) vAgg_cells (facts_Facts.enc.one _)
  have i9 := i8 _ _ iv
  simp only [C.f30r0, R, Nat.reduceEqDiff, a3]
  refine hJ _ ?_
  refine tk_seq_k fun K n11 x12 => ?_
  refine tk_os okM hok fun J hJ => ?_
  rw [C.f30r1]
  refine rn_app_k (fun ⟨σ, H, _⟩ => Lk σ 1 (.string (x1)) ∧ Lk σ 2 (.int .i64 (x2)) ∧ Lk σ 3 (.pointer (some ⟨b1, 0, none⟩)) ∧ Lk σ 14 (.bool ((decide (x2 < 0)) || (decide (((x1.size : Int)) < x2)))) ∧ H[b1]? = some (.cells (facts_Facts.c x0) 54) ∧ Iv c.nb [] H0 H) (fun J hJ => ?_) ?_
  · skip
    cases g20 : decide (x2 < 0)
    · skip
      simp only [C.f30r1p0, R, Nat.reduceEqDiff, g20, len_str (M := Mt) Tryz.underlying9]
      refine hJ _ ?_
      exact ⟨(by first | rfl | (simp only [g20]; rfl) | simp only [g20, Lk, RB, Nat.reduceEqDiff, not_false_eq_true]), (by first | rfl | (simp only [g20]; rfl) | simp only [g20, Lk, RB, Nat.reduceEqDiff, not_false_eq_true]), rfl, (by first | rfl | (simp only [g20]; rfl) | simp only [g20, Lk, RB, Nat.reduceEqDiff, not_false_eq_true]), f4, i9⟩
    · skip
      simp only [C.f30r1p0, R, Nat.reduceEqDiff, g20]
      refine hJ _ ?_
      exact ⟨(by first | rfl | (simp only [g20]; rfl) | simp only [g20, Lk, RB, Nat.reduceEqDiff, not_false_eq_true]), (by first | rfl | (simp only [g20]; rfl) | simp only [g20, Lk, RB, Nat.reduceEqDiff, not_false_eq_true]), rfl, (by first | rfl | (simp only [g20]; rfl) | simp only [g20, Lk, RB, Nat.reduceEqDiff, not_false_eq_true]), f4, i9⟩
  rintro ⟨σ21, H13, d22⟩ ⟨h14, h15, h16, h17, f18, i19⟩
  refine rn_k (fun ⟨σ, H, _⟩ => Lk σ 1 (.string (x1)) ∧ Lk σ 2 (.int .i64 (x2)) ∧ Lk σ 3 (.pointer (some ⟨b1, 0, none⟩)) ∧ Lk σ 19 (.bool (((decide (x2 < 0)) || (decide (((x1.size : Int)) < x2))) || (decide (x0 = (({ facts_Facts.zero with f_Open := true } : facts_Facts)))))) ∧ H[b1]? = some (.cells (facts_Facts.c x0) 54) ∧ Iv c.nb [] H0 H) (fun J hJ => ?_) ?_
  · skip
    cases g31 : (decide (x2 < 0)) || (decide (((x1.size : Int)) < x2))
    · skip
      have a32 := ld_agg (M := Mt) (t := 54) f18 T.ag54 (by rw [facts_Facts.enc.len]; exact T.sz54) Seg.refl
      simp only [C.f30r1p1, R, Nat.reduceEqDiff, h17, g31, a32, h16, bd54_1, eql54]
      refine hJ _ ?_
      exact ⟨h14, h15, h16, (by first | rfl | (simp only [g31]; rfl) | simp only [g31, Lk, RB, Nat.reduceEqDiff, not_false_eq_true]), f18, i19⟩
    · skip
      simp only [C.f30r1p1, R, Nat.reduceEqDiff, h17, g31]
      refine hJ _ ?_
      exact ⟨h14, h15, h16, (by first | rfl | (simp only [g31]; rfl) | simp only [g31, Lk, RB, Nat.reduceEqDiff, not_false_eq_true]), f18, i19⟩
  rintro ⟨σ33, H24, d34⟩ ⟨h25, h26, h27, h28, f29, i30⟩
  refine hJ _ ?_
  refine tk_cond (t := ((decide (x2 < 0)) || (decide (((x1.size : Int)) < x2))) || (decide (x0 = (({ facts_Facts.zero with f_Open := true } : facts_Facts))))) h28 (fun g35 => ?_) (fun g35 => ?_)
  · replace hm := cond_t hm g35
    refine tk_os okM hok fun J hJ => ?_
    simp only [C.f30r2, R, Nat.reduceEqDiff]
    refine hJ _ ?_
    refine tk_ret okM ?_
    refine x12 _ _ (by simp) ?_
    obtain rfl := Option.some.inj hm
    exact end_flat (.inl rfl) (vs := [(.bool (false))]) (resT' (v := (.bool (false))) rfl resN) (fm_cons rfl fm_nil)
  · replace hm := cond_f hm g35
    refine tk_skip okM ?_
    refine n11 _ ?_
    refine tk_seq_k fun K n36 x37 => ?_
    refine tk_os okM hok fun J hJ => ?_
    have a38 := ld_one (M := Mt) (t := 4) f29 T.ag4 (Seg.refl.sub (facts_Facts.seg1 x0))
    obtain ⟨y44, ey44, hm⟩ := bind_s hm
    refine rn_k (fun ⟨σ, H, _⟩ => Lk σ 1 (.string (x1)) ∧ Lk σ 2 (.int .i64 (x2)) ∧ Lk σ 3 (.pointer (some ⟨b1, 0, none⟩)) ∧ Lk σ 37 (.bool (y44)) ∧ H[b1]? = some (.cells (facts_Facts.c x0) 54) ∧ Iv c.nb [] H0 H) (fun J hJ => ?_) ?_
    · skip
      cases g52 : !x0.f_Open
      · skip
        have ey44 := cond_f ey44 g52
        obtain rfl := Option.some.inj ey44
        simp only [C.f30r3, R, Nat.reduceEqDiff, fa54_1, h27, a38, g52]
        refine hJ _ ?_
        exact ⟨h25, h26, h27, (by first | rfl | (simp only [g52]; rfl) | simp only [g52, Lk, RB, Nat.reduceEqDiff, not_false_eq_true]), f29, i30⟩
      · skip
        have ey44 := cond_t ey44 g52
        obtain ⟨y57, ey57, ey44⟩ := bind_s ey44
        try simp only [g52, Bool.true_or, Bool.false_or, Bool.true_and, Bool.false_and, cond_true, cond_false] at ey57
        cases g58 : decide (x2 = ((x1.size : Int)))
        · skip
          have ey57 := cond_f ey57 g58
          have a59 := ld_agg (M := Mt) (t := 25) f29 T.ag25 (by rw [class_Set.enc.len]; exact T.sz25) (Seg.refl.sub (facts_Facts.seg0 x0))
          obtain ⟨v60, ev60, ey57⟩ := bind_s ey57
          obtain ⟨v62, ev62, ey57⟩ := bind_s ey57
          have a61 := ha_class_Set_Has c.ro H24 x0.f_First v60 v62 ev62
          obtain rfl := Option.some.inj ey57
          obtain rfl := Option.some.inj ey44
          simp only [C.f30r3, R, Nat.reduceEqDiff, fa54_1, h27, a38, g52, h26, h25, len_str (M := Mt) Tryz.underlying9, g58, fa54_0, a59, idxP_str (M := Mt) Tryz.underlying9, ev60, c_fn F35, a61]
          refine hJ _ ?_
          exact ⟨h25, h26, h27, (by first | rfl | (simp only [g52, g58]; rfl) | simp only [g52, g58, Lk, RB, Nat.reduceEqDiff, not_false_eq_true]), f29, i30⟩
        · skip
          have ey57 := cond_t ey57 g58
          obtain rfl := Option.some.inj ey57
          obtain rfl := Option.some.inj ey44
          simp only [C.f30r3, R, Nat.reduceEqDiff, fa54_1, h27, a38, g52, h26, h25, len_str (M := Mt) Tryz.underlying9, g58]
          refine hJ _ ?_
          exact ⟨h25, h26, h27, (by first | rfl | (simp only [g52, g58]; rfl) | simp only [g52, g58, Lk, RB, Nat.reduceEqDiff, not_false_eq_true]), f29, i30⟩
    rintro ⟨σ63, H45, d64⟩ ⟨h46, h47, h48, h49, f50, i51⟩
    refine hJ _ ?_
    refine tk_cond (t := y44) h49 (fun g65 => ?_) (fun g65 => ?_)
    · replace hm := cond_t hm g65
      refine tk_os okM hok fun J hJ => ?_
      simp only [C.f30r4, R, Nat.reduceEqDiff]
      refine hJ _ ?_
      refine tk_ret okM ?_
      refine x37 _ _ (by simp) ?_
      obtain rfl := Option.some.inj hm
      exact end_flat (.inl rfl) (vs := [(.bool (true))]) (resT' (v := (.bool (true))) rfl resN) (fm_cons rfl fm_nil)
    · replace hm := cond_f hm g65
      refine tk_skip okM ?_
      refine n36 _ ?_
      refine tk_os okM hok fun J hJ => ?_
      rw [C.f30r5]
      have a66 := ld_one (M := Mt) (t := 4) f50 T.ag4 (Seg.refl.sub (facts_Facts.seg2 x0))
      refine rn_app_k (fun ⟨σ, H, _⟩ => Lk σ 1 (.string (x1)) ∧ Lk σ 2 (.int .i64 (x2)) ∧ Lk σ 3 (.pointer (some ⟨b1, 0, none⟩)) ∧ Lk σ 43 (.bool (x0.f_Fast && (decide (0 < x2)))) ∧ H[b1]? = some (.cells (facts_Facts.c x0) 54) ∧ Iv c.nb [] H0 H) (fun J hJ => ?_) ?_
      · skip
        cases g74 : x0.f_Fast
        · skip
          simp only [C.f30r5p0, R, Nat.reduceEqDiff, fa54_2, h48, a66, g74]
          refine hJ _ ?_
          exact ⟨h46, h47, h48, (by first | rfl | (simp only [g74]; rfl) | simp only [g74, Lk, RB, Nat.reduceEqDiff, not_false_eq_true]), f50, i51⟩
        · skip
          simp only [C.f30r5p0, R, Nat.reduceEqDiff, fa54_2, h48, a66, g74, h47]
          refine hJ _ ?_
          exact ⟨h46, h47, h48, (by first | rfl | (simp only [g74]; rfl) | simp only [g74, Lk, RB, Nat.reduceEqDiff, not_false_eq_true]), f50, i51⟩
      rintro ⟨σ75, H67, d76⟩ ⟨h68, h69, h70, h71, f72, i73⟩
      obtain ⟨y81, ey81, hm⟩ := bind_s hm
      refine rn_app_k (fun ⟨σ, H, _⟩ => Lk σ 52 (.bool (y81)) ∧ Iv c.nb [] H0 H) (fun J hJ => ?_) ?_
      · skip
        cases g85 : x0.f_Fast && (decide (0 < x2))
        · skip
          have ey81 := cond_f ey81 g85
          obtain ⟨v86, ev86, ey81⟩ := bind_s ey81
          have a87 := ld_one (M := Mt) (t := 9) f72 T.ag9 (Seg.refl.sub (facts_Facts.seg3 x0))
          obtain ⟨v89, ev89, ey81⟩ := bind_s ey81
          have a88 := ha_strings_HasPrefix c.ro H67 v86 x0.f_Prefix v89 ev89
          obtain rfl := Option.some.inj ey81
          simp only [C.f30r5p1, R, Nat.reduceEqDiff, h71, g85, h68, h69, sl_str (M := Mt) Tryz.underlying9, ev86, fa54_3, h70, a87, c_fn F61, a88]
          refine hJ _ ?_
          exact ⟨(by first | rfl | (simp only [g85]; rfl) | simp only [g85, Lk, RB, Nat.reduceEqDiff, not_false_eq_true]), i73⟩
        · skip
          have ey81 := cond_t ey81 g85
          obtain rfl := Option.some.inj ey81
          simp only [C.f30r5p1, R, Nat.reduceEqDiff, h71, g85]
          refine hJ _ ?_
          exact ⟨(by first | rfl | (simp only [g85]; rfl) | simp only [g85, Lk, RB, Nat.reduceEqDiff, not_false_eq_true]), i73⟩
      rintro ⟨σ90, H82, d91⟩ ⟨h83, i84⟩
      simp only [C.f30r5p2, R, Nat.reduceEqDiff, h83]
      refine hJ _ ?_
      refine tk_ret okM ?_
      obtain rfl := Option.some.inj hm
      exact end_flat (.inl rfl) (vs := [(.bool (y81))]) (resT' (v := (.bool (y81))) rfl resN) (fm_cons rfl fm_nil)

-- clew/clewref09.Out
def b_ref09_Out (n : Nat) (x0 : ref09_Facts) (x1 : ByteArray) (x2 : Int) : Option (Bool) := bif (decide (x2 < 0)) || (decide (((x1.size : Int)) < x2)) then (some false) else ((bif !x0.f_Open then ((bif decide (x2 = ((x1.size : Int))) then some true else ((bt x1 x2).bind fun v27 => (ck 256 (IntKind.i64.wrap v27)).bind fun j28 => some (!(x0.f_First.f_In.nth j28)))).bind fun y30 => some y30) else some false).bind fun y31 => bif y31 then (some true) else (bif x0.f_Fast && (decide (0 < x2)) then (some true) else ((bif decide ((IntKind.i64.wrap (((x1.size : Int)) - x2)) < ((x0.f_Prefix.size : Int))) then some true else ((sub x1 x2 (IntKind.i64.wrap (x2 + ((x0.f_Prefix.size : Int))))).bind fun v67 => some (!decide (v67 = x0.f_Prefix)))).bind fun y69 => some y69)))

theorem w_ref09_Out {call : CallF} (hok : CallOk Mt call) {n : Nat} {H0 : Hp} {x0 : ref09_Facts} {x1 : ByteArray} {x2 : Int} {r : Bool} {ro : Nat} (hro : ro ≤ H0.length) (hm : b_ref09_Out n x0 x1 x2 = some r) :
    Pt Mt ro 31 [(vAgg (ref09_Facts.c x0)), (.string x1), (.int .i64 x2)] H0 (.bool (r)) H0 [] := by
  refine pt_new0 okM F31d (by exact Nat.le_of_ble_eq_true rfl) ?_ hro
  intro c hnt hnb hcr
  have hcn : c.ro ≤ c.nb := by omega
  have iv : Iv c.nb [] H0 H0 := by rw [hnb]; exact iv_refl
  rw [show args0 [(vAgg (ref09_Facts.c x0)), (.string x1), (.int .i64 x2)] = [(0, (vAgg (ref09_Facts.c x0))), (1, (.string x1)), (2, (.int .i64 x2))] from rfl]
  rw [b_ref09_Out] at hm
  simp only [C.f31]
  refine tk_os okM hok fun J hJ => ?_
  obtain ⟨b1, H2, a3, f4, q5, r6, x7, i8⟩ := bx_ok (M := Mt) (t := 61) (u := (vAgg (ref09_Facts.c (x0)))) (cs := ref09_Facts.c x0) H0 iv.le (by rw [ref09_Facts.enc.len]; exact T.sz61) vAgg_cells (ref09_Facts.enc.one _)
  have i9 := i8 _ _ iv
  simp only [C.f31r0, R, Nat.reduceEqDiff, a3]
  refine hJ _ ?_
  refine tk_seq_k fun K n11 x12 => ?_
  refine tk_os okM hok fun J hJ => ?_
  refine rn_k (fun ⟨σ, H, _⟩ => Lk σ 1 (.string (x1)) ∧ Lk σ 2 (.int .i64 (x2)) ∧ Lk σ 3 (.pointer (some ⟨b1, 0, none⟩)) ∧ Lk σ 14 (.bool ((decide (x2 < 0)) || (decide (((x1.size : Int)) < x2)))) ∧ H[b1]? = some (.cells (ref09_Facts.c x0) 61) ∧ Iv c.nb [] H0 H) (fun J hJ => ?_) ?_
  · skip
    cases g20 : decide (x2 < 0)
    · skip
      simp only [C.f31r1, R, Nat.reduceEqDiff, g20, len_str (M := Mt) Tryz.underlying9]
      refine hJ _ ?_
      exact ⟨(by first | rfl | (simp only [g20]; rfl) | simp only [g20, Lk, RB, Nat.reduceEqDiff, not_false_eq_true]), (by first | rfl | (simp only [g20]; rfl) | simp only [g20, Lk, RB, Nat.reduceEqDiff, not_false_eq_true]), rfl, (by first | rfl | (simp only [g20]; rfl) | simp only [g20, Lk, RB, Nat.reduceEqDiff, not_false_eq_true]), f4, i9⟩
    · skip
      simp only [C.f31r1, R, Nat.reduceEqDiff, g20]
      refine hJ _ ?_
      exact ⟨(by first | rfl | (simp only [g20]; rfl) | simp only [g20, Lk, RB, Nat.reduceEqDiff, not_false_eq_true]), (by first | rfl | (simp only [g20]; rfl) | simp only [g20, Lk, RB, Nat.reduceEqDiff, not_false_eq_true]), rfl, (by first | rfl | (simp only [g20]; rfl) | simp only [g20, Lk, RB, Nat.reduceEqDiff, not_false_eq_true]), f4, i9⟩
  rintro ⟨σ21, H13, d22⟩ ⟨h14, h15, h16, h17, f18, i19⟩
  refine hJ _ ?_
  refine tk_cond (t := (decide (x2 < 0)) || (decide (((x1.size : Int)) < x2))) h17 (fun g23 => ?_) (fun g23 => ?_)
  · replace hm := cond_t hm g23
    refine tk_os okM hok fun J hJ => ?_
    simp only [C.f31r2, R, Nat.reduceEqDiff]
    refine hJ _ ?_
    refine tk_ret okM ?_
    refine x12 _ _ (by simp) ?_
    obtain rfl := Option.some.inj hm
    exact end_flat (.inl rfl) (vs := [(.bool (false))]) (resT' (v := (.bool (false))) rfl resN) (fm_cons rfl fm_nil)
  · replace hm := cond_f hm g23
    refine tk_skip okM ?_
    refine n11 _ ?_
    refine tk_seq_k fun K n24 x25 => ?_
    refine tk_os okM hok fun J hJ => ?_
    have a26 := ld_one (M := Mt) (t := 4) f18 T.ag4 (Seg.refl.sub (ref09_Facts.seg1 x0))
    obtain ⟨y31, ey31, hm⟩ := bind_s hm
    refine rn_k (fun ⟨σ, H, _⟩ => Lk σ 1 (.string (x1)) ∧ Lk σ 2 (.int .i64 (x2)) ∧ Lk σ 3 (.pointer (some ⟨b1, 0, none⟩)) ∧ Lk σ 34 (.bool (y31)) ∧ H[b1]? = some (.cells (ref09_Facts.c x0) 61) ∧ Iv c.nb [] H0 H) (fun J hJ => ?_) ?_
    · skip
      cases g39 : !x0.f_Open
      · skip
        have ey31 := cond_f ey31 g39
        obtain rfl := Option.some.inj ey31
        simp only [C.f31r3, R, Nat.reduceEqDiff, fa61_1, h16, a26, g39]
        refine hJ _ ?_
        exact ⟨h14, h15, h16, (by first | rfl | (simp only [g39]; rfl) | simp only [g39, Lk, RB, Nat.reduceEqDiff, not_false_eq_true]), f18, i19⟩
      · skip
        have ey31 := cond_t ey31 g39
        obtain ⟨y43, ey43, ey31⟩ := bind_s ey31
        try simp only [g39, Bool.true_or, Bool.false_or, Bool.true_and, Bool.false_and, cond_true, cond_false] at ey43
        cases g44 : decide (x2 = ((x1.size : Int)))
        · skip
          have ey43 := cond_f ey43 g44
          obtain ⟨v45, ev45, ey43⟩ := bind_s ey43
          obtain ⟨j46, ej46, ey43⟩ := bind_s ey43
          have a47 := ld_one (M := Mt) (t := 4) f18 T.ag4 (((Seg.refl.sub (ref09_Facts.seg0 x0)).sub (ref01_Set.seg0 x0.f_First)).sub (sgA enc_bool.len (a := x0.f_First.f_In) (ck_lt ej46).1))
          obtain rfl := Option.some.inj ey43
          obtain rfl := Option.some.inj ey31
          simp only [C.f31r3, R, Nat.reduceEqDiff, fa61_1, h16, a26, g39, h15, h14, len_str (M := Mt) Tryz.underlying9, g44, idxP_str (M := Mt) Tryz.underlying9, ev45, cv_int (M := Mt) Tryz.underlying5 Tryz.underlying3, fa61_0, fa59_0, ia57, ej46, a47]
          refine hJ _ ?_
          exact ⟨h14, h15, h16, (by first | rfl | (simp only [g39, g44]; rfl) | simp only [g39, g44, Lk, RB, Nat.reduceEqDiff, not_false_eq_true]), f18, i19⟩
        · skip
          have ey43 := cond_t ey43 g44
          obtain rfl := Option.some.inj ey43
          obtain rfl := Option.some.inj ey31
          simp only [C.f31r3, R, Nat.reduceEqDiff, fa61_1, h16, a26, g39, h15, h14, len_str (M := Mt) Tryz.underlying9, g44]
          refine hJ _ ?_
          exact ⟨h14, h15, h16, (by first | rfl | (simp only [g39, g44]; rfl) | simp only [g39, g44, Lk, RB, Nat.reduceEqDiff, not_false_eq_true]), f18, i19⟩
    rintro ⟨σ48, H32, d49⟩ ⟨h33, h34, h35, h36, f37, i38⟩
    refine hJ _ ?_
    refine tk_cond (t := y31) h36 (fun g50 => ?_) (fun g50 => ?_)
    · replace hm := cond_t hm g50
      refine tk_os okM hok fun J hJ => ?_
      simp only [C.f31r4, R, Nat.reduceEqDiff]
      refine hJ _ ?_
      refine tk_ret okM ?_
      refine x25 _ _ (by simp) ?_
      obtain rfl := Option.some.inj hm
      exact end_flat (.inl rfl) (vs := [(.bool (true))]) (resT' (v := (.bool (true))) rfl resN) (fm_cons rfl fm_nil)
    · replace hm := cond_f hm g50
      refine tk_skip okM ?_
      refine n24 _ ?_
      refine tk_seq_k fun K n51 x52 => ?_
      refine tk_os okM hok fun J hJ => ?_
      have a53 := ld_one (M := Mt) (t := 4) f37 T.ag4 (Seg.refl.sub (ref09_Facts.seg2 x0))
      refine rn_k (fun ⟨σ, H, _⟩ => Lk σ 1 (.string (x1)) ∧ Lk σ 2 (.int .i64 (x2)) ∧ Lk σ 3 (.pointer (some ⟨b1, 0, none⟩)) ∧ Lk σ 40 (.bool (x0.f_Fast && (decide (0 < x2)))) ∧ H[b1]? = some (.cells (ref09_Facts.c x0) 61) ∧ Iv c.nb [] H0 H) (fun J hJ => ?_) ?_
      · skip
        cases g61 : x0.f_Fast
        · skip
          simp only [C.f31r5, R, Nat.reduceEqDiff, fa61_2, h35, a53, g61]
          refine hJ _ ?_
          exact ⟨h33, h34, h35, (by first | rfl | (simp only [g61]; rfl) | simp only [g61, Lk, RB, Nat.reduceEqDiff, not_false_eq_true]), f37, i38⟩
        · skip
          simp only [C.f31r5, R, Nat.reduceEqDiff, fa61_2, h35, a53, g61, h34]
          refine hJ _ ?_
          exact ⟨h33, h34, h35, (by first | rfl | (simp only [g61]; rfl) | simp only [g61, Lk, RB, Nat.reduceEqDiff, not_false_eq_true]), f37, i38⟩
      rintro ⟨σ62, H54, d63⟩ ⟨h55, h56, h57, h58, f59, i60⟩
      refine hJ _ ?_
      refine tk_cond (t := x0.f_Fast && (decide (0 < x2))) h58 (fun g64 => ?_) (fun g64 => ?_)
      · replace hm := cond_t hm g64
        refine tk_os okM hok fun J hJ => ?_
        simp only [C.f31r6, R, Nat.reduceEqDiff]
        refine hJ _ ?_
        refine tk_ret okM ?_
        refine x52 _ _ (by simp) ?_
        obtain rfl := Option.some.inj hm
        exact end_flat (.inl rfl) (vs := [(.bool (true))]) (resT' (v := (.bool (true))) rfl resN) (fm_cons rfl fm_nil)
      · replace hm := cond_f hm g64
        refine tk_skip okM ?_
        refine n51 _ ?_
        refine tk_os okM hok fun J hJ => ?_
        rw [C.f31r7]
        have a65 := ld_one (M := Mt) (t := 9) f59 T.ag9 (Seg.refl.sub (ref09_Facts.seg3 x0))
        obtain ⟨y69, ey69, hm⟩ := bind_s hm
        refine rn_app_k (fun ⟨σ, H, _⟩ => Lk σ 61 (.bool (y69)) ∧ Iv c.nb [] H0 H) (fun J hJ => ?_) ?_
        · skip
          cases g73 : decide ((IntKind.i64.wrap (((x1.size : Int)) - x2)) < ((x0.f_Prefix.size : Int)))
          · skip
            have ey69 := cond_f ey69 g73
            have a74 := ld_one (M := Mt) (t := 9) f59 T.ag9 (Seg.refl.sub (ref09_Facts.seg3 x0))
            obtain ⟨v75, ev75, ey69⟩ := bind_s ey69
            have a76 := ld_one (M := Mt) (t := 9) f59 T.ag9 (Seg.refl.sub (ref09_Facts.seg3 x0))
            obtain rfl := Option.some.inj ey69
            simp only [C.f31r7p0, R, Nat.reduceEqDiff, s_pt, s_gt, isW, Bool.false_eq_true, if_false, if_true, reduceIte, h55, len_str (M := Mt) Tryz.underlying9, h56, fa61_3, h57, a65, g73, a74, sl_str2 (M := Mt) Tryz.underlying9, ev75, a76]
            refine hJ _ ?_
            exact ⟨(by first | rfl | (simp only [g73]; rfl) | simp only [g73, Lk, RB, Nat.reduceEqDiff, not_false_eq_true]), i60⟩
          · skip
            have ey69 := cond_t ey69 g73
            obtain rfl := Option.some.inj ey69
            simp only [C.f31r7p0, R, Nat.reduceEqDiff, s_pt, s_gt, isW, Bool.false_eq_true, if_false, if_true, reduceIte, h55, len_str (M := Mt) Tryz.underlying9, h56, fa61_3, h57, a65, g73]
            refine hJ _ ?_
            exact ⟨(by first | rfl | (simp only [g73]; rfl) | simp only [g73, Lk, RB, Nat.reduceEqDiff, not_false_eq_true]), i60⟩
        rintro ⟨σ77, H70, d78⟩ ⟨h71, i72⟩
        simp only [C.f31r7p1, R, Nat.reduceEqDiff, s_pt, s_gt, isW, Bool.false_eq_true, if_false, if_true, reduceIte, h71]
        refine hJ _ ?_
        refine tk_ret okM ?_
        obtain rfl := Option.some.inj hm
        exact end_flat (.inl rfl) (vs := [(.bool (y69))]) (resT' (v := (.bool (y69))) rfl resN) (fm_cons rfl fm_nil)

-- (clew/class.Set).Has
def b_class_Set_Has (n : Nat) (x0 : class_Set) (x1 : Int) : Option (Bool) := (quoO .u8 x1 64).bind fun v11 => (ck 4 v11).bind fun j12 => (remO x1 64).bind fun v14 => (shrO .u64 (x0.f_W.nth j12) v14).bind fun v15 => some (decide ((andI .u64 v15 1) = 1))

theorem w_class_Set_Has {call : CallF} (hok : CallOk Mt call) {n : Nat} {H0 : Hp} {x0 : class_Set} {x1 : Int} {r : Bool} {ro : Nat} (hro : ro ≤ H0.length) (hm : b_class_Set_Has n x0 x1 = some r) :
    Pt Mt ro 35 [(vAgg (class_Set.c x0)), (.int .u8 x1)] H0 (.bool (r)) H0 [] := by
  refine pt_new0 okM F35d (by exact Nat.le_of_ble_eq_true rfl) ?_ hro
  intro c hnt hnb hcr
  have hcn : c.ro ≤ c.nb := by omega
  have iv : Iv c.nb [] H0 H0 := by rw [hnb]; exact iv_refl
  rw [show args0 [(vAgg (class_Set.c x0)), (.int .u8 x1)] = [(0, (vAgg (class_Set.c x0))), (1, (.int .u8 x1))] from rfl]
  rw [b_class_Set_Has] at hm
  simp only [C.f35]
  refine tk_os okM hok fun J hJ => ?_
  obtain ⟨b1, H2, a3, f4, q5, r6, x7, i8⟩ := bx_ok (M := Mt) (t := 25) (u := (vAgg (class_Set.c (x0)))) (cs := class_Set.c x0) H0 iv.le (by rw [class_Set.enc.len]; exact T.sz25) vAgg_cells (class_Set.enc.one _)
  have i9 := i8 _ _ iv
  simp only [C.f35r0, R, Nat.reduceEqDiff, a3]
  refine hJ _ ?_
  refine tk_os okM hok fun J hJ => ?_
  obtain ⟨v11, ev11, hm⟩ := bind_s hm
  obtain ⟨j12, ej12, hm⟩ := bind_s hm
  have a13 := ld_one (M := Mt) (t := 22) f4 T.ag22 ((Seg.refl.sub (class_Set.seg0 x0)).sub (sgA enc_int.len (a := x0.f_W) (ck_lt ej12).1))
  obtain ⟨v14, ev14, hm⟩ := bind_s hm
  obtain ⟨v15, ev15, hm⟩ := bind_s hm
  simp only [C.f35r1, R, Nat.reduceEqDiff, ev11, fa25_0, ia23, ej12, a13, ev14, ev15]
  refine hJ _ ?_
  refine tk_ret okM ?_
  obtain rfl := Option.some.inj hm
  exact end_flat (.inl rfl) (vs := [(.bool (decide ((andI .u64 v15 1) = 1)))]) (resT' (v := (.bool (decide ((andI .u64 v15 1) = 1)))) rfl resN) (fm_cons rfl fm_nil)

-- clew/clewref01.Of
def b_ref01_Of_2 (n : Nat) (q1 : (Arr Int 4) → ref01_Set → ref01_Set → Int → Option (ref01_Set)) : Nat → (Arr Int 4) → ref01_Set → ref01_Set → Int → Int → Int → Option (ref01_Set)
  | 0, _, _, _, _, _, _ => none
  | k + 1, x79, x80, x81, x4_82, x5_83, x6_84 => (remO x4_82 64).bind fun v102 => bif decide (x6_84 < v102) then ((quoO .u64 x5_83 2).bind fun v109 => b_ref01_Of_2 n q1 k x79 x80 x81 x4_82 v109 (IntKind.i64.wrap (x6_84 + 1))) else ((remO x5_83 2).bind fun v110 => (ck 256 x4_82).bind fun j111 => q1 x79 x80 ({ x81 with f_In := x81.f_In.put j111 (decide (v110 = 1)) }) (IntKind.i64.wrap (x4_82 + 1)))
def b_ref01_Of_1 (n : Nat) : Nat → (Arr Int 4) → ref01_Set → ref01_Set → Int → Option (ref01_Set)
  | 0, _, _, _, _ => none
  | k + 1, x46, x47, x48, x4_49 => bif decide (x4_49 < 256) then ((quoO .i64 x4_49 64).bind fun v71 => (ck 4 v71).bind fun j72 => b_ref01_Of_2 n (b_ref01_Of_1 n k) n x46 x47 x48 x4_49 (x46.nth j72) 0) else (some x48)
def b_ref01_Of (n : Nat) (x0 : (Arr Int 4)) : Option (ref01_Set) := b_ref01_Of_1 n n x0 ref01_Set.zero ref01_Set.zero 0

theorem w_ref01_Of {call : CallF} (hok : CallOk Mt call) {n : Nat} {H0 : Hp} {x0 : (Arr Int 4)} {r : ref01_Set} {ro : Nat} (hro : ro ≤ H0.length) (hm : b_ref01_Of n x0 = some r) :
    Pt Mt ro 59 [(vAgg ((cArr (n := 4) (cInt .u64)) x0))] H0 (vAgg (ref01_Set.c (r))) H0 [] := by
  refine pt_new0 okM F59d (by exact Nat.le_of_ble_eq_true rfl) ?_ hro
  intro c hnt hnb hcr
  have hcn : c.ro ≤ c.nb := by omega
  have iv : Iv c.nb [] H0 H0 := by rw [hnb]; exact iv_refl
  rw [show args0 [(vAgg ((cArr (n := 4) (cInt .u64)) x0))] = [(0, (vAgg ((cArr (n := 4) (cInt .u64)) x0)))] from rfl]
  rw [b_ref01_Of] at hm
  simp only [C.f59, C.f59b0, C.f59b1]
  refine tk_os okM hok fun J hJ => ?_
  obtain ⟨b1, H2, a3, f4, q5, r6, x7, i8⟩ := bx_ok (M := Mt) (t := 23) (u := (vAgg ((cArr (n := 4) (cInt .u64)) (x0)))) (cs := (cArr (n := 4) (cInt .u64)) x0) H0 iv.le (by rw [(enc_arr (n := 4) enc_int).len]; exact T.sz23) vAgg_cells ((enc_arr (n := 4) enc_int).one _)
  have i9 := i8 _ _ iv
  obtain ⟨b11, H12, a13, f14, q15, r16, x17, i18⟩ := al_ok H2 59 (ref01_Set.c ref01_Set.zero) i9.le
  have i19 := i18 _ _ i9
  have f20 := x17 _ _ f4
  simp only [C.f59r0, R, Nat.reduceEqDiff, a3, zs59, a13]
  refine hJ _ ?_
  refine tk_os okM hok fun J hJ => ?_
  obtain ⟨b22, H23, a24, f25, q26, r27, x28, i29⟩ := al_ok H12 59 (ref01_Set.c ref01_Set.zero) i19.le
  have i30 := i29 _ _ i19
  have f31 := x28 _ _ f20
  have f32 := x28 _ _ f14
  obtain ⟨H34, a35, f36, u37⟩ := st_ok (M := Mt) (t := 59) (v := (vAgg (ref01_Set.c (ref01_Set.zero)))) (c := ref01_Set.c ref01_Set.zero) (cs' := ref01_Set.c ref01_Set.zero) f25 (by rw [ref01_Set.enc.len]; exact T.sz59) vAgg_cells (ref01_Set.enc.one _) (Nat.le_trans hcn r27) (le0 ref01_Set.enc.len) (wrs_all (eqL ref01_Set.enc.len))
  have i38 := i30.up u37 r27
  have f39 := (u37.get _ (ne_len f20 q26)).trans f31
  have f40 := (u37.get _ (ne_len f14 q26)).trans f32
  simp only [C.f59r1, R, Nat.reduceEqDiff, bd59_, zs59, a24, a35]
  refine hJ _ ?_
  refine tk_seq_k fun K n41 x42 => ?_
  refine tk_os okM hok fun J hJ => ?_
  simp only [C.f59r2, R, Nat.reduceEqDiff]
  refine hJ _ ?_
  refine tk_block_k fun K n43 e44 x45 => ?_
  refine tk_loop_k (n := n) (fun k1 ⟨σ, H, _⟩ => ∃ x46 x47 x48 x4_49, b_ref01_Of_1 n k1 x46 x47 x48 x4_49 = some r ∧ Lk σ 1 (.pointer (some ⟨b1, 0, none⟩)) ∧ Lk σ 2 (.pointer (some ⟨b11, 0, none⟩)) ∧ Lk σ 3 (.pointer (some ⟨b22, 0, none⟩)) ∧ Lk σ 4 (.int .i64 x4_49) ∧ H[b1]? = some (.cells ((cArr (n := 4) (cInt .u64)) x46) 23) ∧ H[b11]? = some (.cells (ref01_Set.c x47) 59) ∧ H[b22]? = some (.cells (ref01_Set.c x48) 59) ∧ Iv c.nb [] H0 H) ?_ ?_ ?_
  · exact ⟨x0, ref01_Set.zero, ref01_Set.zero, 0, hm, rfl, rfl, rfl, rfl, f39, f40, f36, i38⟩
  · rintro ⟨σ, H, d⟩ ⟨_, _, _, _, hm, _⟩
    cases hm
  · intro k1 K n50 x51
    rintro ⟨σ61, H52, d62⟩ ⟨x46, x47, x48, x4_49, hm, h53, h54, h55, h56, f57, f58, f59, i60⟩
    rw [b_ref01_Of_1.eq_2] at hm
    refine tk_seq_k fun K n63 x64 => ?_
    refine tk_os okM hok fun J hJ => ?_
    simp only [C.f59r3, R, Nat.reduceEqDiff, h56]
    refine hJ _ ?_
    refine tk_cond (t := decide (x4_49 < 256)) rfl (fun g65 => ?_) (fun g65 => ?_)
    · replace hm := cond_t hm g65
      refine tk_skip okM ?_
      refine n63 _ ?_
      refine tk_seq_k fun K n66 x67 => ?_
      refine tk_block_k fun K n68 e69 x70 => ?_
      refine tk_os okM hok fun J hJ => ?_
      obtain ⟨v71, ev71, hm⟩ := bind_s hm
      obtain ⟨j72, ej72, hm⟩ := bind_s hm
      have a73 := ld_one (M := Mt) (t := 22) f57 T.ag22 (Seg.refl.sub (sgA enc_int.len (a := x46) (ck_lt ej72).1))
      simp only [C.f59r5, R, Nat.reduceEqDiff, h56, ev71, ia23, ej72, h53, a73]
      refine hJ _ ?_
      refine tk_seq_k fun K n74 x75 => ?_
      refine tk_os okM hok fun J hJ => ?_
      simp only [C.f59r6, R, Nat.reduceEqDiff]
      refine hJ _ ?_
      refine tk_block_k fun K n76 e77 x78 => ?_
      refine tk_loop_k (n := n) (fun k2 ⟨σ, H, _⟩ => ∃ x79 x80 x81 x4_82 x5_83 x6_84, b_ref01_Of_2 n (b_ref01_Of_1 n k1) k2 x79 x80 x81 x4_82 x5_83 x6_84 = some r ∧ Lk σ 1 (.pointer (some ⟨b1, 0, none⟩)) ∧ Lk σ 2 (.pointer (some ⟨b11, 0, none⟩)) ∧ Lk σ 3 (.pointer (some ⟨b22, 0, none⟩)) ∧ Lk σ 4 (.int .i64 x4_82) ∧ Lk σ 5 (.int .u64 x5_83) ∧ Lk σ 6 (.int .i64 x6_84) ∧ H[b1]? = some (.cells ((cArr (n := 4) (cInt .u64)) x79) 23) ∧ H[b11]? = some (.cells (ref01_Set.c x80) 59) ∧ H[b22]? = some (.cells (ref01_Set.c x81) 59) ∧ Iv c.nb [] H0 H) ?_ ?_ ?_
      · exact ⟨x46, x47, x48, x4_49, x46.nth j72, 0, hm, h53, h54, h55, h56, rfl, rfl, f57, f58, f59, i60⟩
      · rintro ⟨σ, H, d⟩ ⟨_, _, _, _, _, _, hm, _⟩
        cases hm
      · intro k2 K n85 x86
        rintro ⟨σ98, H87, d99⟩ ⟨x79, x80, x81, x4_82, x5_83, x6_84, hm, h88, h89, h90, h91, h92, h93, f94, f95, f96, i97⟩
        rw [b_ref01_Of_2.eq_2] at hm
        refine tk_seq_k fun K n100 x101 => ?_
        refine tk_os okM hok fun J hJ => ?_
        obtain ⟨v102, ev102, hm⟩ := bind_s hm
        simp only [C.f59r7, R, Nat.reduceEqDiff, h93, h91, ev102]
        refine hJ _ ?_
        refine tk_cond (t := decide (x6_84 < v102)) rfl (fun g103 => ?_) (fun g103 => ?_)
        · replace hm := cond_t hm g103
          refine tk_skip okM ?_
          refine n100 _ ?_
          refine tk_seq_k fun K n104 x105 => ?_
          refine tk_block_k fun K n106 e107 x108 => ?_
          refine tk_oe okM hok fun J hJ => ?_
          obtain ⟨v109, ev109, hm⟩ := bind_s hm
          simp only [C.f59r9, R, Nat.reduceEqDiff, h92, ev109]
          refine hJ _ ?_
          refine n106 _ ?_
          refine n104 _ ?_
          refine tk_oe okM hok fun J hJ => ?_
          simp only [C.f59r8, R, Nat.reduceEqDiff, h93]
          refine hJ _ ?_
          refine n85 _ ?_
          exact ⟨x79, x80, x81, x4_82, v109, IntKind.i64.wrap (x6_84 + 1), hm, h88, h89, h90, h91, rfl, rfl, f94, f95, f96, i97⟩
        · replace hm := cond_f hm g103
          refine tk_exit okM ?_
          refine x101 _ _ (by simp) ?_
          refine x86 _ _ (by simp) ?_
          refine e77 _ ?_
          refine n74 _ ?_
          refine tk_oe okM hok fun J hJ => ?_
          obtain ⟨v110, ev110, hm⟩ := bind_s hm
          obtain ⟨j111, ej111, hm⟩ := bind_s hm
          obtain ⟨H112, a113, f114, u115⟩ := st_ok (M := Mt) (t := 4) (v := (.bool (decide (v110 = 1)))) (c := cBool (decide (v110 = 1))) (cs' := ref01_Set.c ({ x81 with f_In := x81.f_In.put j111 (decide (v110 = 1)) })) f96 (by rw [enc_bool.len]; exact T.sz4) rfl (enc_bool.one _) (Nat.le_trans hcn r27) (Nat.le_trans (Nat.le_of_eq (congrArg _ (eqL enc_bool.len))) ((Seg.refl.sub (ref01_Set.seg0 x81)).sub (sgA enc_bool.len (a := x81.f_In) (ck_lt ej111).1)).2) (by rw [wrs_in (Seg.refl.sub (ref01_Set.seg0 x81)) (by have := (ck_lt ej111).1; simp only [enc_bool.len, (enc_arr (n := 256) enc_bool).len]; omega), wrA enc_bool.len (a := x81.f_In) (v := decide (v110 = 1)) (ck_lt ej111).1, Nat.zero_add, ref01_Set.wr0 x81 (x81.f_In.put j111 (decide (v110 = 1)))])
          have i116 := i97.up u115 r27
          have f117 := (u115.get _ (ne_len f20 q26)).trans f94
          have f118 := (u115.get _ (ne_len f14 q26)).trans f95
          simp only [C.f59r10, R, Nat.reduceEqDiff, h91, h92, ev110, fa59_0, h90, ia57, ej111, a113]
          refine hJ _ ?_
          refine n68 _ ?_
          refine n66 _ ?_
          refine tk_oe okM hok fun J hJ => ?_
          simp only [C.f59r4, R, Nat.reduceEqDiff, h91]
          refine hJ _ ?_
          refine n50 _ ?_
          exact ⟨x79, x80, { x81 with f_In := x81.f_In.put j111 (decide (v110 = 1)) }, IntKind.i64.wrap (x4_82 + 1), hm, h88, h89, h90, rfl, f117, f118, f114, i116⟩
    · replace hm := cond_f hm g65
      refine tk_exit okM ?_
      refine x64 _ _ (by simp) ?_
      refine x51 _ _ (by simp) ?_
      refine e44 _ ?_
      refine n41 _ ?_
      refine tk_os okM hok fun J hJ => ?_
      have a119 := ld_agg (M := Mt) (t := 59) f59 T.ag59 (by rw [ref01_Set.enc.len]; exact T.sz59) Seg.refl
      obtain ⟨H120, a121, f122, u123⟩ := st_ok (M := Mt) (t := 59) (v := (vAgg (ref01_Set.c (x48)))) (c := ref01_Set.c x48) (cs' := ref01_Set.c x48) f58 (by rw [ref01_Set.enc.len]; exact T.sz59) vAgg_cells (ref01_Set.enc.one _) (Nat.le_trans hcn r16) (le0 ref01_Set.enc.len) (wrs_all (eqL ref01_Set.enc.len))
      have i124 := i60.up u123 r16
      have f125 := (u123.get _ (ne_len f4 q15)).trans f57
      have f126 := (u123.get _ (ne_len f14 q26).symm).trans f59
      simp only [C.f59r11, R, Nat.reduceEqDiff, a119, h55, a121, h54]
      refine hJ _ ?_
      refine tk_ret okM ?_
      obtain rfl := Option.some.inj hm
      exact end_flat (.inl rfl) (vs := [(vAgg (ref01_Set.c (x48)))]) (resC' (v := (vAgg (ref01_Set.c (x48)))) h54 (ldv_of (ld_agg (M := Mt) (t := 59) f122 T.ag59 (by rw [ref01_Set.enc.len]; exact T.sz59) Seg.refl)) resN) (fm_cons (flat_agg ref01_Set.enc _) fm_nil)

-- strings.HasPrefix
def b_strings_HasPrefix (c_stringslite_HasPrefix : T_stringslite_HasPrefix) (n : Nat) (x0 : ByteArray) (x1 : ByteArray) : Option (Bool) := (c_stringslite_HasPrefix x0 x1).bind fun v2 => some v2

theorem w_strings_HasPrefix {call : CallF} (hok : CallOk Mt call) {n : Nat} {c_stringslite_HasPrefix : T_stringslite_HasPrefix} (ha_stringslite_HasPrefix : A_stringslite_HasPrefix call c_stringslite_HasPrefix) {H0 : Hp} {x0 : ByteArray} {x1 : ByteArray} {r : Bool} {ro : Nat} (hro : ro ≤ H0.length) (hm : b_strings_HasPrefix c_stringslite_HasPrefix n x0 x1 = some r) :
    Pt Mt ro 61 [(.string x0), (.string x1)] H0 (.bool (r)) H0 [] := by
  refine pt_new0 okM F61d (by exact Nat.le_of_ble_eq_true rfl) ?_ hro
  intro c hnt hnb hcr
  have hcn : c.ro ≤ c.nb := by omega
  have iv : Iv c.nb [] H0 H0 := by rw [hnb]; exact iv_refl
  rw [show args0 [(.string x0), (.string x1)] = [(0, (.string x0)), (1, (.string x1))] from rfl]
  rw [b_strings_HasPrefix] at hm
  simp only [C.f61]
  refine tk_os okM hok fun J hJ => ?_
  simp only [C.f61r0, R, Nat.reduceEqDiff]
  refine hJ _ ?_
  refine tk_os okM hok fun J hJ => ?_
  obtain ⟨v2, ev2, hm⟩ := bind_s hm
  have a1 := ha_stringslite_HasPrefix c.ro H0 x0 x1 v2 ev2
  simp only [C.f61r1, R, Nat.reduceEqDiff, c_fn F96, a1]
  refine hJ _ ?_
  refine tk_ret okM ?_
  obtain rfl := Option.some.inj hm
  exact end_flat (.inl rfl) (vs := [(.bool (v2))]) (resT' (v := (.bool (v2))) rfl resN) (fm_cons rfl fm_nil)

-- internal/stringslite.HasPrefix
def b_stringslite_HasPrefix (n : Nat) (x0 : ByteArray) (x1 : ByteArray) : Option (Bool) := (bif decide (((x1.size : Int)) ≤ ((x0.size : Int))) then ((sub x0 0 ((x1.size : Int))).bind fun v1 => some (decide (v1 = x1))) else some false).bind fun y2 => some y2

theorem w_stringslite_HasPrefix {call : CallF} (hok : CallOk Mt call) {n : Nat} {H0 : Hp} {x0 : ByteArray} {x1 : ByteArray} {r : Bool} {ro : Nat} (hro : ro ≤ H0.length) (hm : b_stringslite_HasPrefix n x0 x1 = some r) :
    Pt Mt ro 96 [(.string x0), (.string x1)] H0 (.bool (r)) H0 [] := by
  refine pt_new0 okM F96d (by exact Nat.le_of_ble_eq_true rfl) ?_ hro
  intro c hnt hnb hcr
  have hcn : c.ro ≤ c.nb := by omega
  have iv : Iv c.nb [] H0 H0 := by rw [hnb]; exact iv_refl
  rw [show args0 [(.string x0), (.string x1)] = [(0, (.string x0)), (1, (.string x1))] from rfl]
  rw [b_stringslite_HasPrefix] at hm
  simp only [C.f96]
  refine tk_os okM hok fun J hJ => ?_
  simp only [C.f96r0, R, Nat.reduceEqDiff]
  refine hJ _ ?_
  refine tk_os okM hok fun J hJ => ?_
  rw [C.f96r1]
  obtain ⟨y2, ey2, hm⟩ := bind_s hm
  refine rn_app_k (fun ⟨σ, H, _⟩ => Lk σ 17 (.bool (y2)) ∧ Iv c.nb [] H0 H) (fun J hJ => ?_) ?_
  · skip
    cases g6 : decide (((x1.size : Int)) ≤ ((x0.size : Int)))
    · skip
      have ey2 := cond_f ey2 g6
      obtain rfl := Option.some.inj ey2
      simp only [C.f96r1p0, R, Nat.reduceEqDiff, len_str (M := Mt) Tryz.underlying9, g6]
      refine hJ _ ?_
      exact ⟨(by first | rfl | (simp only [g6]; rfl) | simp only [g6, Lk, RB, Nat.reduceEqDiff, not_false_eq_true]), iv⟩
    · skip
      have ey2 := cond_t ey2 g6
      obtain ⟨v7, ev7, ey2⟩ := bind_s ey2
      obtain rfl := Option.some.inj ey2
      simp only [C.f96r1p0, R, Nat.reduceEqDiff, len_str (M := Mt) Tryz.underlying9, g6, sl_str3 (M := Mt) Tryz.underlying9, ev7]
      refine hJ _ ?_
      exact ⟨(by first | rfl | (simp only [g6]; rfl) | simp only [g6, Lk, RB, Nat.reduceEqDiff, not_false_eq_true]), iv⟩
  rintro ⟨σ8, H3, d9⟩ ⟨h4, i5⟩
  simp only [C.f96r1p1, R, Nat.reduceEqDiff, h4]
  refine hJ _ ?_
  refine tk_ret okM ?_
  obtain rfl := Option.some.inj hm
  exact end_flat (.inl rfl) (vs := [(.bool (y2))]) (resT' (v := (.bool (y2))) rfl resN) (fm_cons rfl fm_nil)
end Go.Proofs.YtaadjlpfdajggaaGreatDoor
