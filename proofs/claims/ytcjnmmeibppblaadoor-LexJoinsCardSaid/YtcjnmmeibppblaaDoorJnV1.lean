/-
  WHAT THE FUNCTIONS COMPUTE, AS TYPED FUNCTIONS, AND THAT THEY DO: printed by our own mir.py.
-/
import Derived.Test.YtcjnmmeibppblaaDoorJnBase
set_option maxRecDepth 100000
set_option linter.unusedVariables false
set_option linter.unusedSimpArgs false
namespace Go.Proofs.YtcjnmmeibppblaaDoor
open Go Go.AM
attribute [local congr] bind_first map_first
-- clew/class.Range
def b_class_Range_1 (c_class_Set_add : T_class_Set_add) (n : Nat) : Nat → Int → class_Set → class_Set → Int → Option (class_Set)
  | 0, _, _, _, _ => none
  | k + 1, x1_27, x28, x29, x6_30 => bif decide (x6_30 ≤ (IntKind.i64.wrap x1_27)) then ((c_class_Set_add x29 (IntKind.u8.wrap x6_30)).bind fun v52 => b_class_Range_1 c_class_Set_add n k x1_27 x28 v52 (IntKind.i64.wrap (x6_30 + 1))) else (some x29)
def b_class_Range (c_class_Set_add : T_class_Set_add) (n : Nat) (x0 : Int) (x1 : Int) : Option (class_Set) := b_class_Range_1 c_class_Set_add n n x1 class_Set.zero class_Set.zero (IntKind.i64.wrap x0)

theorem w_class_Range {call : CallF} (hok : CallOk Mt call) {n : Nat} {c_class_Set_add : T_class_Set_add} (ha_class_Set_add : A_class_Set_add call c_class_Set_add) {H0 : Hp} {x0 : Int} {x1 : Int} {r : class_Set} {ro : Nat} (hro : ro ≤ H0.length) (hm : b_class_Range c_class_Set_add n x0 x1 = some r) :
    Pt Mt ro 20 [(.int .u8 x0), (.int .u8 x1)] H0 (vAgg (class_Set.c (r))) H0 [] := by
  refine pt_new0 okM F20d (by exact Nat.le_of_ble_eq_true rfl) ?_ hro
  intro c hnt hnb hcr
  have hcn : c.ro ≤ c.nb := by omega
  have iv : Iv c.nb [] H0 H0 := by rw [hnb]; exact iv_refl
  rw [show args0 [(.int .u8 x0), (.int .u8 x1)] = [(0, (.int .u8 x0)), (1, (.int .u8 x1))] from rfl]
  rw [b_class_Range] at hm
  simp only [C.f20, C.f20b0]
  refine tk_os okM hok fun J hJ => ?_
  obtain ⟨b1, H2, a3, f4, q5, r6, x7, i8⟩ := al_ok H0 36 (class_Set.c class_Set.zero) iv.le
  have i9 := i8 _ _ iv
  simp only [C.f20r0, R, Nat.reduceEqDiff, zs36, a3]
  refine hJ _ ?_
  refine tk_os okM hok fun J hJ => ?_
  obtain ⟨b11, H12, a13, f14, q15, r16, x17, i18⟩ := al_ok H2 36 (class_Set.c class_Set.zero) i9.le
  have i19 := i18 _ _ i9
  have f20 := x17 _ _ f4
  simp only [C.f20r1, R, Nat.reduceEqDiff, zs36, a13]
  refine hJ _ ?_
  refine tk_seq_k fun K n22 x23 => ?_
  refine tk_os okM hok fun J hJ => ?_
  simp only [C.f20r2, R, Nat.reduceEqDiff, cv_int (M := Mt) Tryd.underlying5 Tryd.underlying3]
  refine hJ _ ?_
  refine tk_block_k fun K n24 e25 x26 => ?_
  refine tk_loop_k (n := n) (fun k1 ⟨σ, H, _⟩ => ∃ x1_27 x28 x29 x6_30, b_class_Range_1 c_class_Set_add n k1 x1_27 x28 x29 x6_30 = some r ∧ Lk σ 1 (.int .u8 x1_27) ∧ Lk σ 4 (.pointer (some ⟨b1, 0, none⟩)) ∧ Lk σ 5 (.pointer (some ⟨b11, 0, none⟩)) ∧ Lk σ 6 (.int .i64 x6_30) ∧ H[b1]? = some (.cells (class_Set.c x28) 36) ∧ H[b11]? = some (.cells (class_Set.c x29) 36) ∧ Iv c.nb [] H0 H) ?_ ?_ ?_
  · exact ⟨x1, class_Set.zero, class_Set.zero, IntKind.i64.wrap x0, hm, rfl, rfl, rfl, rfl, f20, f14, i19⟩
  · rintro ⟨σ, H, d⟩ ⟨_, _, _, _, hm, _⟩
    cases hm
  · intro k1 K n31 x32
    rintro ⟨σ41, H33, d42⟩ ⟨x1_27, x28, x29, x6_30, hm, h34, h35, h36, h37, f38, f39, i40⟩
    rw [b_class_Range_1.eq_2] at hm
    refine tk_seq_k fun K n43 x44 => ?_
    refine tk_os okM hok fun J hJ => ?_
    simp only [C.f20r3, R, Nat.reduceEqDiff, h37, h34, cv_int (M := Mt) Tryd.underlying5 Tryd.underlying3]
    refine hJ _ ?_
    refine tk_cond (t := decide (x6_30 ≤ (IntKind.i64.wrap x1_27))) rfl (fun g45 => ?_) (fun g45 => ?_)
    · replace hm := cond_t hm g45
      refine tk_skip okM ?_
      refine n43 _ ?_
      refine tk_seq_k fun K n46 x47 => ?_
      refine tk_block_k fun K n48 e49 x50 => ?_
      refine tk_oe okM hok fun J hJ => ?_
      obtain ⟨v52, ev52, hm⟩ := bind_s hm
      have a51 := ha_class_Set_add c.ro H33 x29 b11 (IntKind.u8.wrap x6_30) v52 f39 (Nat.le_trans hcn r16) ev52
      obtain ⟨H53, q54⟩ : ∃ x, x = H33.set b11 (.cells (class_Set.c v52) 36) := ⟨_, rfl⟩
      rw [← q54] at a51
      have u55 : Up b11 H33 H53 := by rw [q54]; exact up_set
      have f56 : H53[b11]? = some (.cells (class_Set.c v52) 36) := by rw [q54]; exact get_set f39
      have i57 := i40.up u55 r16
      have f58 := (u55.get _ (ne_len f4 q15)).trans f38
      simp only [C.f20r5, R, Nat.reduceEqDiff, h37, cv_int (M := Mt) Tryd.underlying3 Tryd.underlying5, c_fn F36, a51, h36]
      refine hJ _ ?_
      refine n48 _ ?_
      refine n46 _ ?_
      refine tk_oe okM hok fun J hJ => ?_
      simp only [C.f20r4, R, Nat.reduceEqDiff, h37]
      refine hJ _ ?_
      refine n31 _ ?_
      exact ⟨x1_27, x28, v52, IntKind.i64.wrap (x6_30 + 1), hm, h34, h35, h36, rfl, f58, f56, i57⟩
    · replace hm := cond_f hm g45
      refine tk_exit okM ?_
      refine x44 _ _ (by simp) ?_
      refine x32 _ _ (by simp) ?_
      refine e25 _ ?_
      refine n22 _ ?_
      refine tk_os okM hok fun J hJ => ?_
      have a59 := ld_agg (M := Mt) (t := 36) f39 T.ag36 (by rw [class_Set.enc.len]; exact T.sz36) Seg.refl
      obtain ⟨H60, a61, f62, u63⟩ := st_ok (M := Mt) (t := 36) (v := (vAgg (class_Set.c (x29)))) (c := class_Set.c x29) (cs' := class_Set.c x29) f38 (by rw [class_Set.enc.len]; exact T.sz36) vAgg_cells (class_Set.enc.one _) (Nat.le_trans hcn r6) (le0 class_Set.enc.len) (wrs_all (eqL class_Set.enc.len))
      have i64 := i40.up u63 r6
      have f65 := (u63.get _ (ne_len f4 q15).symm).trans f39
      simp only [C.f20r6, R, Nat.reduceEqDiff, a59, h36, a61, h35]
      refine hJ _ ?_
      refine tk_ret okM ?_
      obtain rfl := Option.some.inj hm
      exact end_flat (.inl rfl) (vs := [(vAgg (class_Set.c (x29)))]) (resC' (v := (vAgg (class_Set.c (x29)))) h35 (ldv_of (ld_agg (M := Mt) (t := 36) f62 T.ag36 (by rw [class_Set.enc.len]; exact T.sz36) Seg.refl)) resN) (fm_cons (flat_agg class_Set.enc _) fm_nil)

-- (clew/class.Set).Or
def b_class_Set_Or_1 (n : Nat) : Nat → class_Set → class_Set → class_Set → Int → Option (class_Set)
  | 0, _, _, _, _ => none
  | k + 1, x39, x40, x41, x6_42 => bif decide (x6_42 < 4) then ((ck 4 x6_42).bind fun j64 => b_class_Set_Or_1 n k ({ x39 with f_W := x39.f_W.put j64 (orI .u64 (x39.f_W.nth j64) (x40.f_W.nth j64)) }) x40 x41 (IntKind.i64.wrap (x6_42 + 1))) else (some x39)
def b_class_Set_Or (n : Nat) (x0 : class_Set) (x1 : class_Set) : Option (class_Set) := b_class_Set_Or_1 n n x0 x1 class_Set.zero 0

theorem w_class_Set_Or {call : CallF} (hok : CallOk Mt call) {n : Nat} {H0 : Hp} {x0 : class_Set} {x1 : class_Set} {r : class_Set} {ro : Nat} (hro : ro ≤ H0.length) (hm : b_class_Set_Or n x0 x1 = some r) :
    Pt Mt ro 21 [(vAgg (class_Set.c x0)), (vAgg (class_Set.c x1))] H0 (vAgg (class_Set.c (r))) H0 [] := by
  refine pt_new0 okM F21d (by exact Nat.le_of_ble_eq_true rfl) ?_ hro
  intro c hnt hnb hcr
  have hcn : c.ro ≤ c.nb := by omega
  have iv : Iv c.nb [] H0 H0 := by rw [hnb]; exact iv_refl
  rw [show args0 [(vAgg (class_Set.c x0)), (vAgg (class_Set.c x1))] = [(0, (vAgg (class_Set.c x0))), (1, (vAgg (class_Set.c x1)))] from rfl]
  rw [b_class_Set_Or] at hm
  simp only [C.f21, C.f21b0]
  refine tk_os okM hok fun J hJ => ?_
  obtain ⟨b1, H2, a3, f4, q5, r6, x7, i8⟩ := bx_ok (M := Mt) (t := 36) (u := (vAgg (class_Set.c (x0)))) (cs := class_Set.c x0) H0 iv.le (by rw [class_Set.enc.len]; exact T.sz36) vAgg_cells (class_Set.enc.one _)
  have i9 := i8 _ _ iv
  obtain ⟨b11, H12, a13, f14, q15, r16, x17, i18⟩ := bx_ok (M := Mt) (t := 36) (u := (vAgg (class_Set.c (x1)))) (cs := class_Set.c x1) H2 i9.le (by rw [class_Set.enc.len]; exact T.sz36) vAgg_cells (class_Set.enc.one _)
  have i19 := i18 _ _ i9
  have f20 := x17 _ _ f4
  obtain ⟨b22, H23, a24, f25, q26, r27, x28, i29⟩ := al_ok H12 36 (class_Set.c class_Set.zero) i19.le
  have i30 := i29 _ _ i19
  have f31 := x28 _ _ f20
  have f32 := x28 _ _ f14
  simp only [C.f21r0, R, Nat.reduceEqDiff, a3, a13, zs36, a24]
  refine hJ _ ?_
  refine tk_seq_k fun K n34 x35 => ?_
  refine tk_os okM hok fun J hJ => ?_
  simp only [C.f21r1, R, Nat.reduceEqDiff]
  refine hJ _ ?_
  refine tk_block_k fun K n36 e37 x38 => ?_
  refine tk_loop_k (n := n) (fun k1 ⟨σ, H, _⟩ => ∃ x39 x40 x41 x6_42, b_class_Set_Or_1 n k1 x39 x40 x41 x6_42 = some r ∧ Lk σ 2 (.pointer (some ⟨b1, 0, none⟩)) ∧ Lk σ 3 (.pointer (some ⟨b11, 0, none⟩)) ∧ Lk σ 4 (.pointer (some ⟨b22, 0, none⟩)) ∧ Lk σ 6 (.int .i64 x6_42) ∧ H[b1]? = some (.cells (class_Set.c x39) 36) ∧ H[b11]? = some (.cells (class_Set.c x40) 36) ∧ H[b22]? = some (.cells (class_Set.c x41) 36) ∧ Iv c.nb [] H0 H) ?_ ?_ ?_
  · exact ⟨x0, x1, class_Set.zero, 0, hm, rfl, rfl, rfl, rfl, f31, f32, f25, i30⟩
  · rintro ⟨σ, H, d⟩ ⟨_, _, _, _, hm, _⟩
    cases hm
  · intro k1 K n43 x44
    rintro ⟨σ54, H45, d55⟩ ⟨x39, x40, x41, x6_42, hm, h46, h47, h48, h49, f50, f51, f52, i53⟩
    rw [b_class_Set_Or_1.eq_2] at hm
    refine tk_os okM hok fun J hJ => ?_
    simp only [C.f21r2, R, Nat.reduceEqDiff, h49]
    refine hJ _ ?_
    refine tk_seq_k fun K n56 x57 => ?_
    refine tk_cond (t := decide (x6_42 < 4)) rfl (fun g58 => ?_) (fun g58 => ?_)
    · replace hm := cond_t hm g58
      refine tk_skip okM ?_
      refine n56 _ ?_
      refine tk_seq_k fun K n59 x60 => ?_
      refine tk_block_k fun K n61 e62 x63 => ?_
      refine tk_os okM hok fun J hJ => ?_
      simp only [C.f21r3, R, Nat.reduceEqDiff, h49]
      refine hJ _ ?_
      refine tk_oe okM hok fun J hJ => ?_
      obtain ⟨j64, ej64, hm⟩ := bind_s hm
      have a65 := ld_one (M := Mt) (t := 33) f50 T.ag33 ((Seg.refl.sub (class_Set.seg0 x39)).sub (sgA enc_int.len (a := x39.f_W) (ck_lt ej64).1))
      have a66 := ld_one (M := Mt) (t := 33) f51 T.ag33 ((Seg.refl.sub (class_Set.seg0 x40)).sub (sgA enc_int.len (a := x40.f_W) (ck_lt ej64).1))
      obtain ⟨H67, a68, f69, u70⟩ := st_ok (M := Mt) (t := 33) (v := (.int .u64 (orI .u64 (x39.f_W.nth j64) (x40.f_W.nth j64)))) (c := (cInt .u64) (orI .u64 (x39.f_W.nth j64) (x40.f_W.nth j64))) (cs' := class_Set.c ({ x39 with f_W := x39.f_W.put j64 (orI .u64 (x39.f_W.nth j64) (x40.f_W.nth j64)) })) f50 (by rw [enc_int.len]; exact T.sz33) rfl (enc_int.one _) (Nat.le_trans hcn r6) (Nat.le_trans (Nat.le_of_eq (congrArg _ (eqL enc_int.len))) ((Seg.refl.sub (class_Set.seg0 x39)).sub (sgA enc_int.len (a := x39.f_W) (ck_lt ej64).1)).2) (by rw [wrs_in (Seg.refl.sub (class_Set.seg0 x39)) (by have := (ck_lt ej64).1; simp only [enc_int.len, (enc_arr (n := 4) enc_int).len]; omega), wrA enc_int.len (a := x39.f_W) (v := orI .u64 (x39.f_W.nth j64) (x40.f_W.nth j64)) (ck_lt ej64).1, Nat.zero_add, class_Set.wr0 x39 (x39.f_W.put j64 (orI .u64 (x39.f_W.nth j64) (x40.f_W.nth j64)))])
      have i71 := i53.up u70 r6
      have f72 := (u70.get _ (ne_len f4 q15).symm).trans f51
      have f73 := (u70.get _ (ne_len f20 q26).symm).trans f52
      simp only [C.f21r4, R, Nat.reduceEqDiff, s_pt, s_gt, isW, Bool.false_eq_true, if_false, if_true, reduceIte, fa36_0, h46, ia34, ej64, a65, h47, a66, a68]
      refine hJ _ ?_
      refine n61 _ ?_
      refine n59 _ ?_
      refine tk_oe okM hok fun J hJ => ?_
      simp only [C.f21r5, R, Nat.reduceEqDiff, h49]
      refine hJ _ ?_
      refine n43 _ ?_
      exact ⟨{ x39 with f_W := x39.f_W.put j64 (orI .u64 (x39.f_W.nth j64) (x40.f_W.nth j64)) }, x40, x41, IntKind.i64.wrap (x6_42 + 1), hm, h46, h47, h48, rfl, f69, f72, f73, i71⟩
    · replace hm := cond_f hm g58
      refine tk_exit okM ?_
      refine x57 _ _ (by simp) ?_
      refine x44 _ _ (by simp) ?_
      refine e37 _ ?_
      refine n34 _ ?_
      refine tk_os okM hok fun J hJ => ?_
      have a74 := ld_agg (M := Mt) (t := 36) f50 T.ag36 (by rw [class_Set.enc.len]; exact T.sz36) Seg.refl
      obtain ⟨H75, a76, f77, u78⟩ := st_ok (M := Mt) (t := 36) (v := (vAgg (class_Set.c (x39)))) (c := class_Set.c x39) (cs' := class_Set.c x39) f52 (by rw [class_Set.enc.len]; exact T.sz36) vAgg_cells (class_Set.enc.one _) (Nat.le_trans hcn r27) (le0 class_Set.enc.len) (wrs_all (eqL class_Set.enc.len))
      have i79 := i53.up u78 r27
      have f80 := (u78.get _ (ne_len f20 q26)).trans f50
      have f81 := (u78.get _ (ne_len f14 q26)).trans f51
      simp only [C.f21r6, R, Nat.reduceEqDiff, a74, h46, a76, h48]
      refine hJ _ ?_
      refine tk_ret okM ?_
      obtain rfl := Option.some.inj hm
      exact end_flat (.inl rfl) (vs := [(vAgg (class_Set.c (x39)))]) (resC' (v := (vAgg (class_Set.c (x39)))) h48 (ldv_of (ld_agg (M := Mt) (t := 36) f77 T.ag36 (by rw [class_Set.enc.len]; exact T.sz36) Seg.refl)) resN) (fm_cons (flat_agg class_Set.enc _) fm_nil)

-- clew/lex.token
def b_lex_token_1 (c_lex_Class : T_lex_Class) (c_class_One : T_class_One) (c_lex_simple : T_lex_simple) (c_lex_opening : T_lex_opening) (c_lex_quant : T_lex_quant) (c_lex_escaped : T_lex_escaped) (n : Nat) (x27 : lex_Token) : Option (lex_Token × Int × Int) := some (lex_Token.zero, 0, 3)
def b_lex_token_2 (c_lex_Class : T_lex_Class) (c_class_One : T_class_One) (c_lex_simple : T_lex_simple) (c_lex_opening : T_lex_opening) (c_lex_quant : T_lex_quant) (c_lex_escaped : T_lex_escaped) (n : Nat) (x0_85 : ByteArray) (x86 : lex_Token) (x20_87 : Int) (x23_88 : Bool) : Option (lex_Token × Int × Int) := bif x23_88 then ((c_lex_quant x0_85).bind fun v102 => some (v102.1, v102.2.1, v102.2.2)) else (bif decide (x20_87 = 91) then ((c_lex_Class x0_85 0).bind fun v114 => some (({ lex_Token.zero with f_Set := v114.1 } : lex_Token), v114.2.1, v114.2.2)) else (bif decide (x20_87 = 92) then ((c_lex_escaped x0_85).bind fun v145 => some (v145.1, v145.2.1, v145.2.2)) else (bif decide (x20_87 = 93) then (b_lex_token_1 c_lex_Class c_class_One c_lex_simple c_lex_opening c_lex_quant c_lex_escaped n x86) else (bif decide (x20_87 = 125) then (b_lex_token_1 c_lex_Class c_class_One c_lex_simple c_lex_opening c_lex_quant c_lex_escaped n x86) else ((bt x0_85 0).bind fun v155 => (c_class_One v155).bind fun v157 => some (({ lex_Token.zero with f_Set := v157 } : lex_Token), 1, 0))))))
def b_lex_token (c_lex_Class : T_lex_Class) (c_class_One : T_class_One) (c_lex_simple : T_lex_simple) (c_lex_opening : T_lex_opening) (c_lex_quant : T_lex_quant) (c_lex_escaped : T_lex_escaped) (n : Nat) (x0 : ByteArray) : Option (lex_Token × Int × Int) := (bt x0 0).bind fun v13 => (c_lex_simple v13).bind fun v15 => bif v15.2 then (some (({ lex_Token.zero with f_Kind := v15.1 } : lex_Token), 1, 0)) else (bif decide (v13 = 40) then ((c_lex_opening x0).bind fun v77 => some (v77.1, v77.2.1, v77.2.2)) else (bif decide (v13 = 42) then (b_lex_token_2 c_lex_Class c_class_One c_lex_simple c_lex_opening c_lex_quant c_lex_escaped n x0 lex_Token.zero v13 (decide (v13 = 42))) else (bif decide (v13 = 43) then (b_lex_token_2 c_lex_Class c_class_One c_lex_simple c_lex_opening c_lex_quant c_lex_escaped n x0 lex_Token.zero v13 (decide (v13 = 43))) else (bif decide (v13 = 63) then (b_lex_token_2 c_lex_Class c_class_One c_lex_simple c_lex_opening c_lex_quant c_lex_escaped n x0 lex_Token.zero v13 (decide (v13 = 63))) else (b_lex_token_2 c_lex_Class c_class_One c_lex_simple c_lex_opening c_lex_quant c_lex_escaped n x0 lex_Token.zero v13 (decide (v13 = 123)))))))

theorem w_lex_token {call : CallF} (hok : CallOk Mt call) {n : Nat} {c_lex_Class : T_lex_Class} (ha_lex_Class : A_lex_Class call c_lex_Class) {c_class_One : T_class_One} (ha_class_One : A_class_One call c_class_One) {c_lex_simple : T_lex_simple} (ha_lex_simple : A_lex_simple call c_lex_simple) {c_lex_opening : T_lex_opening} (ha_lex_opening : A_lex_opening call c_lex_opening) {c_lex_quant : T_lex_quant} (ha_lex_quant : A_lex_quant call c_lex_quant) {c_lex_escaped : T_lex_escaped} (ha_lex_escaped : A_lex_escaped call c_lex_escaped) {H0 : Hp} {x0 : ByteArray} {r : lex_Token × Int × Int} {ro : Nat} (hro : ro ≤ H0.length) (hm : b_lex_token c_lex_Class c_class_One c_lex_simple c_lex_opening c_lex_quant c_lex_escaped n x0 = some r) (hG0 : TabH0 H0) :
    Pt Mt ro 23 [(.string x0)] H0 (.tuple [(vAgg (lex_Token.c (r.1))), (.int .i64 (r.2.1)), (.int .i64 (r.2.2))].toArray) H0 [] := by
  refine pt_new0 okM F23d (by exact Nat.le_of_ble_eq_true rfl) ?_ hro
  intro c hnt hnb hcr
  have hcn : c.ro ≤ c.nb := by omega
  have iv : Iv c.nb [] H0 H0 := by rw [hnb]; exact iv_refl
  rw [show args0 [(.string x0)] = [(0, (.string x0))] from rfl]
  rw [b_lex_token] at hm
  simp only [C.f23]
  refine tk_os okM hok fun J hJ => ?_
  obtain ⟨b1, H2, a3, f4, q5, r6, x7, i8⟩ := al_ok H0 46 (lex_Token.c lex_Token.zero) iv.le
  have i9 := i8 _ _ iv
  simp only [C.f23r0, R, Nat.reduceEqDiff, zs46, a3]
  refine hJ _ ?_
  refine tk_seq_k fun K n11 x12 => ?_
  refine tk_os okM hok fun J hJ => ?_
  obtain ⟨v13, ev13, hm⟩ := bind_s hm
  obtain ⟨v15, ev15, hm⟩ := bind_s hm
  have a14 := ha_lex_simple c.ro H2 v13 v15 ev15
  simp only [C.f23r1, R, Nat.reduceEqDiff, idxP_str (M := Mt) Tryd.underlying9, ev13, c_fn F37, a14]
  refine hJ _ ?_
  refine tk_os okM hok fun J hJ => ?_
  simp only [C.f23r2, R, Nat.reduceEqDiff]
  refine hJ _ ?_
  refine tk_cond (t := v15.2) rfl (fun g16 => ?_) (fun g16 => ?_)
  · replace hm := cond_t hm g16
    refine tk_os okM hok fun J hJ => ?_
    obtain ⟨H17, a18, f19, u20⟩ := st_ok (M := Mt) (t := 46) (v := (vAgg (lex_Token.c (({ lex_Token.zero with f_Kind := v15.1 } : lex_Token))))) (c := lex_Token.c (({ lex_Token.zero with f_Kind := v15.1 } : lex_Token))) (cs' := lex_Token.c (({ lex_Token.zero with f_Kind := v15.1 } : lex_Token))) f4 (by rw [lex_Token.enc.len]; exact T.sz46) vAgg_cells (lex_Token.enc.one _) (Nat.le_trans hcn r6) (le0 lex_Token.enc.len) (wrs_all (eqL lex_Token.enc.len))
    have i21 := i9.up u20 r6
    simp only [C.f23r3, R, Nat.reduceEqDiff, bd46_0, a18]
    refine hJ _ ?_
    refine tk_ret okM ?_
    refine x12 _ _ (by simp) ?_
    obtain rfl := Option.some.inj hm
    exact end_flat (.inl rfl) (vs := [(vAgg (lex_Token.c (({ lex_Token.zero with f_Kind := v15.1 } : lex_Token)))), (.int .i64 (1)), (.int .i64 (0))]) (resC' (v := (vAgg (lex_Token.c (({ lex_Token.zero with f_Kind := v15.1 } : lex_Token))))) rfl (ldv_of (ld_agg (M := Mt) (t := 46) f19 T.ag46 (by rw [lex_Token.enc.len]; exact T.sz46) Seg.refl)) (resT' (v := (.int .i64 (1))) rfl (resT' (v := (.int .i64 (0))) rfl resN))) (fm_cons (flat_agg lex_Token.enc _) (fm_cons rfl (fm_cons rfl fm_nil)))
  · replace hm := cond_f hm g16
    refine tk_skip okM ?_
    refine n11 _ ?_
    refine tk_seq_k fun K n22 x23 => ?_
    refine tk_os okM hok fun J hJ => ?_
    simp only [C.f23r4, R, Nat.reduceEqDiff, idxP_str (M := Mt) Tryd.underlying9, ev13]
    refine hJ _ ?_
    refine tk_block_k fun K n24 e25 x26 => ?_
    refine tk_seq_j (fun ⟨σ, H, _⟩ => ∃ x27, b_lex_token_1 c_lex_Class c_class_One c_lex_simple c_lex_opening c_lex_quant c_lex_escaped n x27 = some r ∧ Lk σ 2 (.pointer (some ⟨b1, 0, none⟩)) ∧ H[b1]? = some (.cells (lex_Token.c x27) 46) ∧ Iv c.nb [] H0 H) ?_ ?_
    · skip
      rintro ⟨σ32, H28, d33⟩ ⟨x27, hm, h29, f30, i31⟩
      rw [b_lex_token_1] at hm
      refine tk_seq_k fun K n34 x35 => ?_
      refine tk_os okM hok fun J hJ => ?_
      obtain ⟨H36, a37, f38, u39⟩ := st_ok (M := Mt) (t := 46) (v := (vAgg (lex_Token.c (lex_Token.zero)))) (c := lex_Token.c lex_Token.zero) (cs' := lex_Token.c lex_Token.zero) f30 (by rw [lex_Token.enc.len]; exact T.sz46) vAgg_cells (lex_Token.enc.one _) (Nat.le_trans hcn r6) (le0 lex_Token.enc.len) (wrs_all (eqL lex_Token.enc.len))
      have i40 := i31.up u39 r6
      simp only [C.f23r19, R, Nat.reduceEqDiff, bd46_, a37, h29]
      refine hJ _ ?_
      refine tk_ret okM ?_
      refine x35 _ _ (by simp) ?_
      refine x26 _ _ (by simp) (by simp) ?_
      refine x23 _ _ (by simp) ?_
      obtain rfl := Option.some.inj hm
      exact end_flat (.inl rfl) (vs := [(vAgg (lex_Token.c (lex_Token.zero))), (.int .i64 (0)), (.int .i64 (3))]) (resC' (v := (vAgg (lex_Token.c (lex_Token.zero)))) h29 (ldv_of (ld_agg (M := Mt) (t := 46) f38 T.ag46 (by rw [lex_Token.enc.len]; exact T.sz46) Seg.refl)) (resT' (v := (.int .i64 (0))) rfl (resT' (v := (.int .i64 (3))) rfl resN))) (fm_cons (flat_agg lex_Token.enc _) (fm_cons rfl (fm_cons rfl fm_nil)))
    · refine fun K n41 x42 => ?_
      refine tk_block_k fun K n43 e44 x45 => ?_
      refine tk_block_k fun K n46 e47 x48 => ?_
      refine tk_seq_k fun K n49 x50 => ?_
      refine tk_block_k fun K n51 e52 x53 => ?_
      refine tk_seq_k fun K n54 x55 => ?_
      refine tk_block_k fun K n56 e57 x58 => ?_
      refine tk_seq_k fun K n59 x60 => ?_
      refine tk_block_k fun K n61 e62 x63 => ?_
      refine tk_seq_k fun K n64 x65 => ?_
      refine tk_block_k fun K n66 e67 x68 => ?_
      refine tk_seq_k fun K n69 x70 => ?_
      refine tk_seq_k fun K n71 x72 => ?_
      refine tk_os okM hok fun J hJ => ?_
      simp only [C.f23r5, R, Nat.reduceEqDiff]
      refine hJ _ ?_
      refine tk_cond (t := decide (v13 = 40)) rfl (fun g73 => ?_) (fun g73 => ?_)
      · replace hm := cond_t hm g73
        refine tk_exit okM ?_
        refine x72 _ _ (by simp) ?_
        refine x70 _ _ (by simp) ?_
        refine e67 _ ?_
        refine n64 _ ?_
        refine tk_seq_k fun K n74 x75 => ?_
        refine tk_os okM hok fun J hJ => ?_
        obtain ⟨v77, ev77, hm⟩ := bind_s hm
        have a76 := ha_lex_opening c.ro H2 x0 v77 ev77
        obtain ⟨H78, a79, f80, u81⟩ := st_ok (M := Mt) (t := 46) (v := (vAgg (lex_Token.c (v77.1)))) (c := lex_Token.c v77.1) (cs' := lex_Token.c v77.1) f4 (by rw [lex_Token.enc.len]; exact T.sz46) vAgg_cells (lex_Token.enc.one _) (Nat.le_trans hcn r6) (le0 lex_Token.enc.len) (wrs_all (eqL lex_Token.enc.len))
        have i82 := i9.up u81 r6
        simp only [C.f23r14, R, Nat.reduceEqDiff, c_fn F38, a76, a79]
        refine hJ _ ?_
        refine tk_ret okM ?_
        refine x75 _ _ (by simp) ?_
        refine x63 _ _ (by simp) (by simp) ?_
        refine x60 _ _ (by simp) ?_
        refine x58 _ _ (by simp) (by simp) ?_
        refine x55 _ _ (by simp) ?_
        refine x53 _ _ (by simp) (by simp) ?_
        refine x50 _ _ (by simp) ?_
        refine x48 _ _ (by simp) (by simp) ?_
        refine x45 _ _ (by simp) (by simp) ?_
        refine x42 _ _ (by simp) ?_
        refine x26 _ _ (by simp) (by simp) ?_
        refine x23 _ _ (by simp) ?_
        obtain rfl := Option.some.inj hm
        exact end_flat (.inl rfl) (vs := [(vAgg (lex_Token.c (v77.1))), (.int .i64 (v77.2.1)), (.int .i64 (v77.2.2))]) (resC' (v := (vAgg (lex_Token.c (v77.1)))) rfl (ldv_of (ld_agg (M := Mt) (t := 46) f80 T.ag46 (by rw [lex_Token.enc.len]; exact T.sz46) Seg.refl)) (resT' (v := (.int .i64 (v77.2.1))) rfl (resT' (v := (.int .i64 (v77.2.2))) rfl resN))) (fm_cons (flat_agg lex_Token.enc _) (fm_cons rfl (fm_cons rfl fm_nil)))
      · replace hm := cond_f hm g73
        refine tk_skip okM ?_
        refine n71 _ ?_
        refine tk_seq_k fun K n83 x84 => ?_
        refine tk_seq_j (fun ⟨σ, H, _⟩ => ∃ x0_85 x86 x20_87 x23_88, b_lex_token_2 c_lex_Class c_class_One c_lex_simple c_lex_opening c_lex_quant c_lex_escaped n x0_85 x86 x20_87 x23_88 = some r ∧ Lk σ 0 (.string x0_85) ∧ Lk σ 2 (.pointer (some ⟨b1, 0, none⟩)) ∧ Lk σ 20 (.int .u8 x20_87) ∧ Lk σ 23 (.bool x23_88) ∧ H[b1]? = some (.cells (lex_Token.c x86) 46) ∧ Iv c.nb [] H0 H) ?_ ?_
        · skip
          rintro ⟨σ96, H89, d97⟩ ⟨x0_85, x86, x20_87, x23_88, hm, h90, h91, h92, h93, f94, i95⟩
          rw [b_lex_token_2] at hm
          refine tk_cond (t := x23_88) h93 (fun g98 => ?_) (fun g98 => ?_)
          · replace hm := cond_t hm g98
            refine tk_exit okM ?_
            refine x84 _ _ (by simp) ?_
            refine x70 _ _ (by simp) ?_
            refine x68 _ _ (by simp) (by simp) ?_
            refine x65 _ _ (by simp) ?_
            refine e62 _ ?_
            refine n59 _ ?_
            refine tk_seq_k fun K n99 x100 => ?_
            refine tk_os okM hok fun J hJ => ?_
            obtain ⟨v102, ev102, hm⟩ := bind_s hm
            have a101 := ha_lex_quant c.ro H89 x0_85 v102 ev102
            obtain ⟨H103, a104, f105, u106⟩ := st_ok (M := Mt) (t := 46) (v := (vAgg (lex_Token.c (v102.1)))) (c := lex_Token.c v102.1) (cs' := lex_Token.c v102.1) f94 (by rw [lex_Token.enc.len]; exact T.sz46) vAgg_cells (lex_Token.enc.one _) (Nat.le_trans hcn r6) (le0 lex_Token.enc.len) (wrs_all (eqL lex_Token.enc.len))
            have i107 := i95.up u106 r6
            simp only [C.f23r15, R, Nat.reduceEqDiff, h90, c_fn F39, a101, a104, h91]
            refine hJ _ ?_
            refine tk_ret okM ?_
            refine x100 _ _ (by simp) ?_
            refine x58 _ _ (by simp) (by simp) ?_
            refine x55 _ _ (by simp) ?_
            refine x53 _ _ (by simp) (by simp) ?_
            refine x50 _ _ (by simp) ?_
            refine x48 _ _ (by simp) (by simp) ?_
            refine x45 _ _ (by simp) (by simp) ?_
            refine x42 _ _ (by simp) ?_
            refine x26 _ _ (by simp) (by simp) ?_
            refine x23 _ _ (by simp) ?_
            obtain rfl := Option.some.inj hm
            exact end_flat (.inl rfl) (vs := [(vAgg (lex_Token.c (v102.1))), (.int .i64 (v102.2.1)), (.int .i64 (v102.2.2))]) (resC' (v := (vAgg (lex_Token.c (v102.1)))) h91 (ldv_of (ld_agg (M := Mt) (t := 46) f105 T.ag46 (by rw [lex_Token.enc.len]; exact T.sz46) Seg.refl)) (resT' (v := (.int .i64 (v102.2.1))) rfl (resT' (v := (.int .i64 (v102.2.2))) rfl resN))) (fm_cons (flat_agg lex_Token.enc _) (fm_cons rfl (fm_cons rfl fm_nil)))
          · replace hm := cond_f hm g98
            refine tk_skip okM ?_
            refine n83 _ ?_
            refine tk_seq_k fun K n108 x109 => ?_
            refine tk_os okM hok fun J hJ => ?_
            simp only [C.f23r10, R, Nat.reduceEqDiff, h92]
            refine hJ _ ?_
            refine tk_cond (t := decide (x20_87 = 91)) rfl (fun g110 => ?_) (fun g110 => ?_)
            · replace hm := cond_t hm g110
              refine tk_exit okM ?_
              refine x109 _ _ (by simp) ?_
              refine x70 _ _ (by simp) ?_
              refine x68 _ _ (by simp) (by simp) ?_
              refine x65 _ _ (by simp) ?_
              refine x63 _ _ (by simp) (by simp) ?_
              refine x60 _ _ (by simp) ?_
              refine e57 _ ?_
              refine n54 _ ?_
              refine tk_seq_k fun K n111 x112 => ?_
              refine tk_os okM hok fun J hJ => ?_
              obtain ⟨v114, ev114, hm⟩ := bind_s hm
              have a113 := ha_lex_Class c.ro H89 x0_85 0 v114 (tabIv0 i95 hnb hG0) ev114
              obtain ⟨b115, H116, a117, f118, q119, r120, x121, i122⟩ := al_ok H89 36 (class_Set.c class_Set.zero) i95.le
              have i123 := i122 _ _ i95
              have f124 := x121 _ _ f94
              obtain ⟨H126, a127, f128, u129⟩ := st_ok (M := Mt) (t := 36) (v := (vAgg (class_Set.c (v114.1)))) (c := class_Set.c v114.1) (cs' := class_Set.c v114.1) f118 (by rw [class_Set.enc.len]; exact T.sz36) vAgg_cells (class_Set.enc.one _) (Nat.le_trans hcn r120) (le0 class_Set.enc.len) (wrs_all (eqL class_Set.enc.len))
              have i130 := i123.up u129 r120
              have f131 := (u129.get _ (ne_len f94 q119)).trans f124
              simp only [C.f23r16, R, Nat.reduceEqDiff, h90, c_fn F15, a113, zs36, a117, a127]
              refine hJ _ ?_
              refine tk_os okM hok fun J hJ => ?_
              have a132 := ld_agg (M := Mt) (t := 36) f128 T.ag36 (by rw [class_Set.enc.len]; exact T.sz36) Seg.refl
              obtain ⟨H133, a134, f135, u136⟩ := st_ok (M := Mt) (t := 46) (v := (vAgg (lex_Token.c (({ lex_Token.zero with f_Set := v114.1 } : lex_Token))))) (c := lex_Token.c (({ lex_Token.zero with f_Set := v114.1 } : lex_Token))) (cs' := lex_Token.c (({ lex_Token.zero with f_Set := v114.1 } : lex_Token))) f131 (by rw [lex_Token.enc.len]; exact T.sz46) vAgg_cells (lex_Token.enc.one _) (Nat.le_trans hcn r6) (le0 lex_Token.enc.len) (wrs_all (eqL lex_Token.enc.len))
              have i137 := i130.up u136 r6
              have f138 := (u136.get _ (ne_len f94 q119).symm).trans f128
              simp only [C.f23r17, R, Nat.reduceEqDiff, a132, bd46_1, a134, h91]
              refine hJ _ ?_
              refine tk_ret okM ?_
              refine x112 _ _ (by simp) ?_
              refine x53 _ _ (by simp) (by simp) ?_
              refine x50 _ _ (by simp) ?_
              refine x48 _ _ (by simp) (by simp) ?_
              refine x45 _ _ (by simp) (by simp) ?_
              refine x42 _ _ (by simp) ?_
              refine x26 _ _ (by simp) (by simp) ?_
              refine x23 _ _ (by simp) ?_
              obtain rfl := Option.some.inj hm
              exact end_flat (.inl rfl) (vs := [(vAgg (lex_Token.c (({ lex_Token.zero with f_Set := v114.1 } : lex_Token)))), (.int .i64 (v114.2.1)), (.int .i64 (v114.2.2))]) (resC' (v := (vAgg (lex_Token.c (({ lex_Token.zero with f_Set := v114.1 } : lex_Token))))) h91 (ldv_of (ld_agg (M := Mt) (t := 46) f135 T.ag46 (by rw [lex_Token.enc.len]; exact T.sz46) Seg.refl)) (resT' (v := (.int .i64 (v114.2.1))) rfl (resT' (v := (.int .i64 (v114.2.2))) rfl resN))) (fm_cons (flat_agg lex_Token.enc _) (fm_cons rfl (fm_cons rfl fm_nil)))
            · replace hm := cond_f hm g110
              refine tk_skip okM ?_
              refine n108 _ ?_
              refine tk_seq_k fun K n139 x140 => ?_
              refine tk_os okM hok fun J hJ => ?_
              simp only [C.f23r11, R, Nat.reduceEqDiff, h92]
              refine hJ _ ?_
              refine tk_cond (t := decide (x20_87 = 92)) rfl (fun g141 => ?_) (fun g141 => ?_)
              · replace hm := cond_t hm g141
                refine tk_exit okM ?_
                refine x140 _ _ (by simp) ?_
                refine x70 _ _ (by simp) ?_
                refine x68 _ _ (by simp) (by simp) ?_
                refine x65 _ _ (by simp) ?_
                refine x63 _ _ (by simp) (by simp) ?_
                refine x60 _ _ (by simp) ?_
                refine x58 _ _ (by simp) (by simp) ?_
                refine x55 _ _ (by simp) ?_
                refine e52 _ ?_
                refine n49 _ ?_
                refine tk_seq_k fun K n142 x143 => ?_
                refine tk_os okM hok fun J hJ => ?_
                obtain ⟨v145, ev145, hm⟩ := bind_s hm
                have a144 := ha_lex_escaped c.ro H89 x0_85 v145 ev145
                obtain ⟨H146, a147, f148, u149⟩ := st_ok (M := Mt) (t := 46) (v := (vAgg (lex_Token.c (v145.1)))) (c := lex_Token.c v145.1) (cs' := lex_Token.c v145.1) f94 (by rw [lex_Token.enc.len]; exact T.sz46) vAgg_cells (lex_Token.enc.one _) (Nat.le_trans hcn r6) (le0 lex_Token.enc.len) (wrs_all (eqL lex_Token.enc.len))
                have i150 := i95.up u149 r6
                simp only [C.f23r18, R, Nat.reduceEqDiff, h90, c_fn F40, a144, a147, h91]
                refine hJ _ ?_
                refine tk_ret okM ?_
                refine x143 _ _ (by simp) ?_
                refine x48 _ _ (by simp) (by simp) ?_
                refine x45 _ _ (by simp) (by simp) ?_
                refine x42 _ _ (by simp) ?_
                refine x26 _ _ (by simp) (by simp) ?_
                refine x23 _ _ (by simp) ?_
                obtain rfl := Option.some.inj hm
                exact end_flat (.inl rfl) (vs := [(vAgg (lex_Token.c (v145.1))), (.int .i64 (v145.2.1)), (.int .i64 (v145.2.2))]) (resC' (v := (vAgg (lex_Token.c (v145.1)))) h91 (ldv_of (ld_agg (M := Mt) (t := 46) f148 T.ag46 (by rw [lex_Token.enc.len]; exact T.sz46) Seg.refl)) (resT' (v := (.int .i64 (v145.2.1))) rfl (resT' (v := (.int .i64 (v145.2.2))) rfl resN))) (fm_cons (flat_agg lex_Token.enc _) (fm_cons rfl (fm_cons rfl fm_nil)))
              · replace hm := cond_f hm g141
                refine tk_skip okM ?_
                refine n139 _ ?_
                refine tk_seq_k fun K n151 x152 => ?_
                refine tk_os okM hok fun J hJ => ?_
                simp only [C.f23r12, R, Nat.reduceEqDiff, h92]
                refine hJ _ ?_
                refine tk_cond (t := decide (x20_87 = 93)) rfl (fun g153 => ?_) (fun g153 => ?_)
                · replace hm := cond_t hm g153
                  refine tk_exit okM ?_
                  refine x152 _ _ (by simp) ?_
                  refine x70 _ _ (by simp) ?_
                  refine x68 _ _ (by simp) (by simp) ?_
                  refine x65 _ _ (by simp) ?_
                  refine x63 _ _ (by simp) (by simp) ?_
                  refine x60 _ _ (by simp) ?_
                  refine x58 _ _ (by simp) (by simp) ?_
                  refine x55 _ _ (by simp) ?_
                  refine x53 _ _ (by simp) (by simp) ?_
                  refine x50 _ _ (by simp) ?_
                  refine e47 _ ?_
                  refine n43 _ ?_
                  refine n41 _ ?_
                  exact ⟨x86, hm, h91, f94, i95⟩
                · replace hm := cond_f hm g153
                  refine tk_skip okM ?_
                  refine n151 _ ?_
                  refine tk_os okM hok fun J hJ => ?_
                  simp only [C.f23r13, R, Nat.reduceEqDiff, h92]
                  refine hJ _ ?_
                  refine tk_cond (t := decide (x20_87 = 125)) rfl (fun g154 => ?_) (fun g154 => ?_)
                  · replace hm := cond_t hm g154
                    refine tk_exit okM ?_
                    refine x70 _ _ (by simp) ?_
                    refine x68 _ _ (by simp) (by simp) ?_
                    refine x65 _ _ (by simp) ?_
                    refine x63 _ _ (by simp) (by simp) ?_
                    refine x60 _ _ (by simp) ?_
                    refine x58 _ _ (by simp) (by simp) ?_
                    refine x55 _ _ (by simp) ?_
                    refine x53 _ _ (by simp) (by simp) ?_
                    refine x50 _ _ (by simp) ?_
                    refine x48 _ _ (by simp) (by simp) ?_
                    refine e44 _ ?_
                    refine n41 _ ?_
                    exact ⟨x86, hm, h91, f94, i95⟩
                  · replace hm := cond_f hm g154
                    refine tk_skip okM ?_
                    refine n69 _ ?_
                    refine tk_exit okM ?_
                    refine x68 _ _ (by simp) (by simp) ?_
                    refine x65 _ _ (by simp) ?_
                    refine x63 _ _ (by simp) (by simp) ?_
                    refine x60 _ _ (by simp) ?_
                    refine x58 _ _ (by simp) (by simp) ?_
                    refine x55 _ _ (by simp) ?_
                    refine x53 _ _ (by simp) (by simp) ?_
                    refine x50 _ _ (by simp) ?_
                    refine x48 _ _ (by simp) (by simp) ?_
                    refine x45 _ _ (by simp) (by simp) ?_
                    refine x42 _ _ (by simp) ?_
                    refine e25 _ ?_
                    refine n22 _ ?_
                    refine tk_os okM hok fun J hJ => ?_
                    obtain ⟨v155, ev155, hm⟩ := bind_s hm
                    obtain ⟨v157, ev157, hm⟩ := bind_s hm
                    have a156 := ha_class_One c.ro H89 v155 v157 ev157
                    obtain ⟨H158, a159, f160, u161⟩ := st_ok (M := Mt) (t := 46) (v := (vAgg (lex_Token.c (({ lex_Token.zero with f_Set := v157 } : lex_Token))))) (c := lex_Token.c (({ lex_Token.zero with f_Set := v157 } : lex_Token))) (cs' := lex_Token.c (({ lex_Token.zero with f_Set := v157 } : lex_Token))) f94 (by rw [lex_Token.enc.len]; exact T.sz46) vAgg_cells (lex_Token.enc.one _) (Nat.le_trans hcn r6) (le0 lex_Token.enc.len) (wrs_all (eqL lex_Token.enc.len))
                    have i162 := i95.up u161 r6
                    simp only [C.f23r20, R, Nat.reduceEqDiff, h90, idxP_str (M := Mt) Tryd.underlying9, ev155, c_fn F17, a156, bd46_1, a159, h91]
                    refine hJ _ ?_
                    refine tk_ret okM ?_
                    obtain rfl := Option.some.inj hm
                    exact end_flat (.inl rfl) (vs := [(vAgg (lex_Token.c (({ lex_Token.zero with f_Set := v157 } : lex_Token)))), (.int .i64 (1)), (.int .i64 (0))]) (resC' (v := (vAgg (lex_Token.c (({ lex_Token.zero with f_Set := v157 } : lex_Token))))) h91 (ldv_of (ld_agg (M := Mt) (t := 46) f160 T.ag46 (by rw [lex_Token.enc.len]; exact T.sz46) Seg.refl)) (resT' (v := (.int .i64 (1))) rfl (resT' (v := (.int .i64 (0))) rfl resN))) (fm_cons (flat_agg lex_Token.enc _) (fm_cons rfl (fm_cons rfl fm_nil)))
        · refine fun K n163 x164 => ?_
          refine tk_os okM hok fun J hJ => ?_
          simp only [C.f23r6, R, Nat.reduceEqDiff]
          refine hJ _ ?_
          refine tk_cond (t := decide (v13 = 42)) rfl (fun g165 => ?_) (fun g165 => ?_)
          · replace hm := cond_t hm g165
            refine tk_skip okM ?_
            refine n163 _ ?_
            exact ⟨x0, lex_Token.zero, v13, decide (v13 = 42), hm, rfl, rfl, rfl, rfl, f4, i9⟩
          · replace hm := cond_f hm g165
            refine tk_os okM hok fun J hJ => ?_
            simp only [C.f23r7, R, Nat.reduceEqDiff]
            refine hJ _ ?_
            refine tk_cond (t := decide (v13 = 43)) rfl (fun g166 => ?_) (fun g166 => ?_)
            · replace hm := cond_t hm g166
              refine tk_skip okM ?_
              refine n163 _ ?_
              exact ⟨x0, lex_Token.zero, v13, decide (v13 = 43), hm, rfl, rfl, rfl, rfl, f4, i9⟩
            · replace hm := cond_f hm g166
              refine tk_os okM hok fun J hJ => ?_
              simp only [C.f23r8, R, Nat.reduceEqDiff]
              refine hJ _ ?_
              refine tk_cond (t := decide (v13 = 63)) rfl (fun g167 => ?_) (fun g167 => ?_)
              · replace hm := cond_t hm g167
                refine tk_skip okM ?_
                refine n163 _ ?_
                exact ⟨x0, lex_Token.zero, v13, decide (v13 = 63), hm, rfl, rfl, rfl, rfl, f4, i9⟩
              · replace hm := cond_f hm g167
                refine tk_oe okM hok fun J hJ => ?_
                simp only [C.f23r9, R, Nat.reduceEqDiff]
                refine hJ _ ?_
                refine n163 _ ?_
                exact ⟨x0, lex_Token.zero, v13, decide (v13 = 123), hm, rfl, rfl, rfl, rfl, f4, i9⟩

-- (clew/class.Set).Not
def b_class_Set_Not_1 (n : Nat) : Nat → class_Set → class_Set → Int → Option (class_Set)
  | 0, _, _, _ => none
  | k + 1, x27, x28, x4_29 => bif decide (x4_29 < 4) then ((ck 4 x4_29).bind fun j49 => b_class_Set_Not_1 n k ({ x27 with f_W := x27.f_W.put j49 (comI .u64 (x27.f_W.nth j49)) }) x28 (IntKind.i64.wrap (x4_29 + 1))) else (some x27)
def b_class_Set_Not (n : Nat) (x0 : class_Set) : Option (class_Set) := b_class_Set_Not_1 n n x0 class_Set.zero 0

theorem w_class_Set_Not {call : CallF} (hok : CallOk Mt call) {n : Nat} {H0 : Hp} {x0 : class_Set} {r : class_Set} {ro : Nat} (hro : ro ≤ H0.length) (hm : b_class_Set_Not n x0 = some r) :
    Pt Mt ro 25 [(vAgg (class_Set.c x0))] H0 (vAgg (class_Set.c (r))) H0 [] := by
  refine pt_new0 okM F25d (by exact Nat.le_of_ble_eq_true rfl) ?_ hro
  intro c hnt hnb hcr
  have hcn : c.ro ≤ c.nb := by omega
  have iv : Iv c.nb [] H0 H0 := by rw [hnb]; exact iv_refl
  rw [show args0 [(vAgg (class_Set.c x0))] = [(0, (vAgg (class_Set.c x0)))] from rfl]
  rw [b_class_Set_Not] at hm
  simp only [C.f25, C.f25b0]
  refine tk_os okM hok fun J hJ => ?_
  obtain ⟨b1, H2, a3, f4, q5, r6, x7, i8⟩ := bx_ok (M := Mt) (t := 36) (u := (vAgg (class_Set.c (x0)))) (cs := class_Set.c x0) H0 iv.le (by rw [class_Set.enc.len]; exact T.sz36) vAgg_cells (class_Set.enc.one _)
  have i9 := i8 _ _ iv
  obtain ⟨b11, H12, a13, f14, q15, r16, x17, i18⟩ := al_ok H2 36 (class_Set.c class_Set.zero) i9.le
  have i19 := i18 _ _ i9
  have f20 := x17 _ _ f4
  simp only [C.f25r0, R, Nat.reduceEqDiff, a3, zs36, a13]
  refine hJ _ ?_
  refine tk_seq_k fun K n22 x23 => ?_
  refine tk_os okM hok fun J hJ => ?_
  simp only [C.f25r1, R, Nat.reduceEqDiff]
  refine hJ _ ?_
  refine tk_block_k fun K n24 e25 x26 => ?_
  refine tk_loop_k (n := n) (fun k1 ⟨σ, H, _⟩ => ∃ x27 x28 x4_29, b_class_Set_Not_1 n k1 x27 x28 x4_29 = some r ∧ Lk σ 1 (.pointer (some ⟨b1, 0, none⟩)) ∧ Lk σ 2 (.pointer (some ⟨b11, 0, none⟩)) ∧ Lk σ 4 (.int .i64 x4_29) ∧ H[b1]? = some (.cells (class_Set.c x27) 36) ∧ H[b11]? = some (.cells (class_Set.c x28) 36) ∧ Iv c.nb [] H0 H) ?_ ?_ ?_
  · exact ⟨x0, class_Set.zero, 0, hm, rfl, rfl, rfl, f20, f14, i19⟩
  · rintro ⟨σ, H, d⟩ ⟨_, _, _, hm, _⟩
    cases hm
  · intro k1 K n30 x31
    rintro ⟨σ39, H32, d40⟩ ⟨x27, x28, x4_29, hm, h33, h34, h35, f36, f37, i38⟩
    rw [b_class_Set_Not_1.eq_2] at hm
    refine tk_os okM hok fun J hJ => ?_
    simp only [C.f25r2, R, Nat.reduceEqDiff, h35]
    refine hJ _ ?_
    refine tk_seq_k fun K n41 x42 => ?_
    refine tk_cond (t := decide (x4_29 < 4)) rfl (fun g43 => ?_) (fun g43 => ?_)
    · replace hm := cond_t hm g43
      refine tk_skip okM ?_
      refine n41 _ ?_
      refine tk_seq_k fun K n44 x45 => ?_
      refine tk_block_k fun K n46 e47 x48 => ?_
      refine tk_os okM hok fun J hJ => ?_
      simp only [C.f25r3, R, Nat.reduceEqDiff, h35]
      refine hJ _ ?_
      refine tk_oe okM hok fun J hJ => ?_
      obtain ⟨j49, ej49, hm⟩ := bind_s hm
      have a50 := ld_one (M := Mt) (t := 33) f36 T.ag33 ((Seg.refl.sub (class_Set.seg0 x27)).sub (sgA enc_int.len (a := x27.f_W) (ck_lt ej49).1))
      obtain ⟨H51, a52, f53, u54⟩ := st_ok (M := Mt) (t := 33) (v := (.int .u64 (comI .u64 (x27.f_W.nth j49)))) (c := (cInt .u64) (comI .u64 (x27.f_W.nth j49))) (cs' := class_Set.c ({ x27 with f_W := x27.f_W.put j49 (comI .u64 (x27.f_W.nth j49)) })) f36 (by rw [enc_int.len]; exact T.sz33) rfl (enc_int.one _) (Nat.le_trans hcn r6) (Nat.le_trans (Nat.le_of_eq (congrArg _ (eqL enc_int.len))) ((Seg.refl.sub (class_Set.seg0 x27)).sub (sgA enc_int.len (a := x27.f_W) (ck_lt ej49).1)).2) (by rw [wrs_in (Seg.refl.sub (class_Set.seg0 x27)) (by have := (ck_lt ej49).1; simp only [enc_int.len, (enc_arr (n := 4) enc_int).len]; omega), wrA enc_int.len (a := x27.f_W) (v := comI .u64 (x27.f_W.nth j49)) (ck_lt ej49).1, Nat.zero_add, class_Set.wr0 x27 (x27.f_W.put j49 (comI .u64 (x27.f_W.nth j49)))])
      have i55 := i38.up u54 r6
      have f56 := (u54.get _ (ne_len f4 q15).symm).trans f37
      simp only [C.f25r4, R, Nat.reduceEqDiff, fa36_0, h33, ia34, ej49, a50, a52]
      refine hJ _ ?_
      refine n46 _ ?_
      refine n44 _ ?_
      refine tk_oe okM hok fun J hJ => ?_
      simp only [C.f25r5, R, Nat.reduceEqDiff, h35]
      refine hJ _ ?_
      refine n30 _ ?_
      exact ⟨{ x27 with f_W := x27.f_W.put j49 (comI .u64 (x27.f_W.nth j49)) }, x28, IntKind.i64.wrap (x4_29 + 1), hm, h33, h34, rfl, f53, f56, i55⟩
    · replace hm := cond_f hm g43
      refine tk_exit okM ?_
      refine x42 _ _ (by simp) ?_
      refine x31 _ _ (by simp) ?_
      refine e25 _ ?_
      refine n22 _ ?_
      refine tk_os okM hok fun J hJ => ?_
      have a57 := ld_agg (M := Mt) (t := 36) f36 T.ag36 (by rw [class_Set.enc.len]; exact T.sz36) Seg.refl
      obtain ⟨H58, a59, f60, u61⟩ := st_ok (M := Mt) (t := 36) (v := (vAgg (class_Set.c (x27)))) (c := class_Set.c x27) (cs' := class_Set.c x27) f37 (by rw [class_Set.enc.len]; exact T.sz36) vAgg_cells (class_Set.enc.one _) (Nat.le_trans hcn r16) (le0 class_Set.enc.len) (wrs_all (eqL class_Set.enc.len))
      have i62 := i38.up u61 r16
      have f63 := (u61.get _ (ne_len f4 q15)).trans f36
      simp only [C.f25r6, R, Nat.reduceEqDiff, a57, h33, a59, h34]
      refine hJ _ ?_
      refine tk_ret okM ?_
      obtain rfl := Option.some.inj hm
      exact end_flat (.inl rfl) (vs := [(vAgg (class_Set.c (x27)))]) (resC' (v := (vAgg (class_Set.c (x27)))) h34 (ldv_of (ld_agg (M := Mt) (t := 36) f60 T.ag36 (by rw [class_Set.enc.len]; exact T.sz36) Seg.refl)) resN) (fm_cons (flat_agg class_Set.enc _) fm_nil)

-- strings.HasPrefix
def b_strings_HasPrefix (c_stringslite_HasPrefix : T_stringslite_HasPrefix) (n : Nat) (x0 : ByteArray) (x1 : ByteArray) : Option (Bool) := (c_stringslite_HasPrefix x0 x1).bind fun v2 => some v2

theorem w_strings_HasPrefix {call : CallF} (hok : CallOk Mt call) {n : Nat} {c_stringslite_HasPrefix : T_stringslite_HasPrefix} (ha_stringslite_HasPrefix : A_stringslite_HasPrefix call c_stringslite_HasPrefix) {H0 : Hp} {x0 : ByteArray} {x1 : ByteArray} {r : Bool} {ro : Nat} (hro : ro ≤ H0.length) (hm : b_strings_HasPrefix c_stringslite_HasPrefix n x0 x1 = some r) :
    Pt Mt ro 26 [(.string x0), (.string x1)] H0 (.bool (r)) H0 [] := by
  refine pt_new0 okM F26d (by exact Nat.le_of_ble_eq_true rfl) ?_ hro
  intro c hnt hnb hcr
  have hcn : c.ro ≤ c.nb := by omega
  have iv : Iv c.nb [] H0 H0 := by rw [hnb]; exact iv_refl
  rw [show args0 [(.string x0), (.string x1)] = [(0, (.string x0)), (1, (.string x1))] from rfl]
  rw [b_strings_HasPrefix] at hm
  simp only [C.f26]
  refine tk_os okM hok fun J hJ => ?_
  simp only [C.f26r0, R, Nat.reduceEqDiff]
  refine hJ _ ?_
  refine tk_os okM hok fun J hJ => ?_
  obtain ⟨v2, ev2, hm⟩ := bind_s hm
  have a1 := ha_stringslite_HasPrefix c.ro H0 x0 x1 v2 ev2
  simp only [C.f26r1, R, Nat.reduceEqDiff, c_fn F45, a1]
  refine hJ _ ?_
  refine tk_ret okM ?_
  obtain rfl := Option.some.inj hm
  exact end_flat (.inl rfl) (vs := [(.bool (v2))]) (resT' (v := (.bool (v2))) rfl resN) (fm_cons rfl fm_nil)

-- clew/lex.span
def b_lex_span (c_class_Range : T_class_Range) (c_lex_item : T_lex_item) (c_class_Set_Min : T_class_Set_Min) (c_class_Set_Len : T_class_Set_Len) (n : Nat) (x0 : ByteArray) : Option (class_Set × Int) := (c_lex_item x0).bind fun v12 => (bif (decide (v12.2 = 0)) || (decide (((x0.size : Int)) ≤ v12.2)) then some true else ((bt x0 v12.2).bind fun v44 => some (!decide (v44 = 45)))).bind fun y45 => bif y45 then (some (v12.1, v12.2)) else ((sub x0 (IntKind.i64.wrap (v12.2 + 1)) x0.size).bind fun v67 => (c_lex_item v67).bind fun v69 => (c_class_Set_Min v12.1).bind fun v91 => (c_class_Set_Min v69.1).bind fun v94 => (bif decide (v69.2 = 0) then some true else ((c_class_Set_Len v12.1).bind fun v99 => some (!decide (v99 = 1)))).bind fun y100 => (bif y100 then some true else ((c_class_Set_Len v69.1).bind fun v120 => some (!decide (v120 = 1)))).bind fun y121 => bif y121 || (decide (v94.1 < v91.1)) then (some (class_Set.zero, 0)) else ((c_class_Range v91.1 v94.1).bind fun v156 => some (v156, IntKind.i64.wrap ((IntKind.i64.wrap (v12.2 + 1)) + v69.2))))

theorem w_lex_span {call : CallF} (hok : CallOk Mt call) {n : Nat} {c_class_Range : T_class_Range} (ha_class_Range : A_class_Range call c_class_Range) {c_lex_item : T_lex_item} (ha_lex_item : A_lex_item call c_lex_item) {c_class_Set_Min : T_class_Set_Min} (ha_class_Set_Min : A_class_Set_Min call c_class_Set_Min) {c_class_Set_Len : T_class_Set_Len} (ha_class_Set_Len : A_class_Set_Len call c_class_Set_Len) {H0 : Hp} {x0 : ByteArray} {r : class_Set × Int} {ro : Nat} (hro : ro ≤ H0.length) (hm : b_lex_span c_class_Range c_lex_item c_class_Set_Min c_class_Set_Len n x0 = some r) (hG0 : TabH0 H0) :
    Pt Mt ro 27 [(.string x0)] H0 (.tuple [(vAgg (class_Set.c (r.1))), (.int .i64 (r.2))].toArray) H0 [] := by
  refine pt_new0 okM F27d (by exact Nat.le_of_ble_eq_true rfl) ?_ hro
  intro c hnt hnb hcr
  have hcn : c.ro ≤ c.nb := by omega
  have iv : Iv c.nb [] H0 H0 := by rw [hnb]; exact iv_refl
  rw [show args0 [(.string x0)] = [(0, (.string x0))] from rfl]
  rw [b_lex_span] at hm
  simp only [C.f27]
  refine tk_os okM hok fun J hJ => ?_
  obtain ⟨b1, H2, a3, f4, q5, r6, x7, i8⟩ := al_ok H0 36 (class_Set.c class_Set.zero) iv.le
  have i9 := i8 _ _ iv
  simp only [C.f27r0, R, Nat.reduceEqDiff, zs36, a3]
  refine hJ _ ?_
  refine tk_os okM hok fun J hJ => ?_
  obtain ⟨v12, ev12, hm⟩ := bind_s hm
  have a11 := ha_lex_item c.ro H2 x0 v12 ev12
  obtain ⟨b13, H14, a15, f16, q17, r18, x19, i20⟩ := al_ok H2 36 (class_Set.c class_Set.zero) i9.le
  have i21 := i20 _ _ i9
  have f22 := x19 _ _ f4
  obtain ⟨H24, a25, f26, u27⟩ := st_ok (M := Mt) (t := 36) (v := (vAgg (class_Set.c (v12.1)))) (c := class_Set.c v12.1) (cs' := class_Set.c v12.1) f16 (by rw [class_Set.enc.len]; exact T.sz36) vAgg_cells (class_Set.enc.one _) (Nat.le_trans hcn r18) (le0 class_Set.enc.len) (wrs_all (eqL class_Set.enc.len))
  have i28 := i21.up u27 r18
  have f29 := (u27.get _ (ne_len f4 q17)).trans f22
  simp only [C.f27r1, R, Nat.reduceEqDiff, c_fn F46, a11, zs36, a15, a25]
  refine hJ _ ?_
  refine tk_seq_k fun K n30 x31 => ?_
  refine tk_os okM hok fun J hJ => ?_
  rw [C.f27r2]
  refine rn_app_k (fun ⟨σ, H, _⟩ => Lk σ 0 (.string (x0)) ∧ Lk σ 2 (.pointer (some ⟨b1, 0, none⟩)) ∧ Lk σ 4 (.pointer (some ⟨b13, 0, none⟩)) ∧ Lk σ 5 (.int .i64 (v12.2)) ∧ Lk σ 24 (.bool ((decide (v12.2 = 0)) || (decide (((x0.size : Int)) ≤ v12.2)))) ∧ H[b1]? = some (.cells (class_Set.c class_Set.zero) 36) ∧ H[b13]? = some (.cells (class_Set.c v12.1) 36) ∧ Iv c.nb [] H0 H) (fun J hJ => ?_) ?_
  · skip
    cases g41 : decide (v12.2 = 0)
    · skip
      simp only [C.f27r2p0, R, Nat.reduceEqDiff, g41, len_str (M := Mt) Tryd.underlying9]
      refine hJ _ ?_
      exact ⟨(by first | rfl | (simp only [g41]; rfl) | simp only [g41, Lk, lookS, lookN, Nat.reduceEqDiff, not_false_eq_true, Bool.true_and, Bool.false_and, Bool.true_or, Bool.false_or, cond_true, cond_false]), rfl, rfl, (by first | rfl | (simp only [g41]; rfl) | simp only [g41, Lk, lookS, lookN, Nat.reduceEqDiff, not_false_eq_true, Bool.true_and, Bool.false_and, Bool.true_or, Bool.false_or, cond_true, cond_false]), (by first | rfl | (simp only [g41]; rfl) | simp only [g41, Lk, lookS, lookN, Nat.reduceEqDiff, not_false_eq_true, Bool.true_and, Bool.false_and, Bool.true_or, Bool.false_or, cond_true, cond_false]), f29, f26, i28⟩
    · skip
      simp only [C.f27r2p0, R, Nat.reduceEqDiff, g41]
      refine hJ _ ?_
      exact ⟨(by first | rfl | (simp only [g41]; rfl) | simp only [g41, Lk, lookS, lookN, Nat.reduceEqDiff, not_false_eq_true, Bool.true_and, Bool.false_and, Bool.true_or, Bool.false_or, cond_true, cond_false]), rfl, rfl, (by first | rfl | (simp only [g41]; rfl) | simp only [g41, Lk, lookS, lookN, Nat.reduceEqDiff, not_false_eq_true, Bool.true_and, Bool.false_and, Bool.true_or, Bool.false_or, cond_true, cond_false]), (by first | rfl | (simp only [g41]; rfl) | simp only [g41, Lk, lookS, lookN, Nat.reduceEqDiff, not_false_eq_true, Bool.true_and, Bool.false_and, Bool.true_or, Bool.false_or, cond_true, cond_false]), f29, f26, i28⟩
  rintro ⟨σ42, H32, d43⟩ ⟨h33, h34, h35, h36, h37, f38, f39, i40⟩
  obtain ⟨y45, ey45, hm⟩ := bind_s hm
  refine rn_k (fun ⟨σ, H, _⟩ => Lk σ 0 (.string (x0)) ∧ Lk σ 2 (.pointer (some ⟨b1, 0, none⟩)) ∧ Lk σ 4 (.pointer (some ⟨b13, 0, none⟩)) ∧ Lk σ 5 (.int .i64 (v12.2)) ∧ Lk σ 30 (.bool (y45)) ∧ H[b1]? = some (.cells (class_Set.c class_Set.zero) 36) ∧ H[b13]? = some (.cells (class_Set.c v12.1) 36) ∧ Iv c.nb [] H0 H) (fun J hJ => ?_) ?_
  · skip
    cases g55 : (decide (v12.2 = 0)) || (decide (((x0.size : Int)) ≤ v12.2))
    · skip
      have ey45 := cond_f ey45 g55
      obtain ⟨v56, ev56, ey45⟩ := bind_s ey45
      obtain rfl := Option.some.inj ey45
      simp only [C.f27r2p1, R, Nat.reduceEqDiff, h37, g55, h33, h36, idxP_str (M := Mt) Tryd.underlying9, ev56]
      refine hJ _ ?_
      exact ⟨h33, h34, h35, h36, (by first | rfl | (simp only [g55]; rfl) | simp only [g55, Lk, lookS, lookN, Nat.reduceEqDiff, not_false_eq_true, Bool.true_and, Bool.false_and, Bool.true_or, Bool.false_or, cond_true, cond_false]), f38, f39, i40⟩
    · skip
      have ey45 := cond_t ey45 g55
      obtain rfl := Option.some.inj ey45
      simp only [C.f27r2p1, R, Nat.reduceEqDiff, h37, g55]
      refine hJ _ ?_
      exact ⟨h33, h34, h35, h36, (by first | rfl | (simp only [g55]; rfl) | simp only [g55, Lk, lookS, lookN, Nat.reduceEqDiff, not_false_eq_true, Bool.true_and, Bool.false_and, Bool.true_or, Bool.false_or, cond_true, cond_false]), f38, f39, i40⟩
  rintro ⟨σ57, H46, d58⟩ ⟨h47, h48, h49, h50, h51, f52, f53, i54⟩
  refine hJ _ ?_
  refine tk_cond (t := y45) h51 (fun g59 => ?_) (fun g59 => ?_)
  · replace hm := cond_t hm g59
    refine tk_os okM hok fun J hJ => ?_
    have a60 := ld_agg (M := Mt) (t := 36) f53 T.ag36 (by rw [class_Set.enc.len]; exact T.sz36) Seg.refl
    obtain ⟨H61, a62, f63, u64⟩ := st_ok (M := Mt) (t := 36) (v := (vAgg (class_Set.c (v12.1)))) (c := class_Set.c v12.1) (cs' := class_Set.c v12.1) f52 (by rw [class_Set.enc.len]; exact T.sz36) vAgg_cells (class_Set.enc.one _) (Nat.le_trans hcn r6) (le0 class_Set.enc.len) (wrs_all (eqL class_Set.enc.len))
    have i65 := i54.up u64 r6
    have f66 := (u64.get _ (ne_len f4 q17).symm).trans f53
    simp only [C.f27r3, R, Nat.reduceEqDiff, a60, h49, h50, a62, h48]
    refine hJ _ ?_
    refine tk_ret okM ?_
    refine x31 _ _ (by simp) ?_
    obtain rfl := Option.some.inj hm
    exact end_flat (.inl rfl) (vs := [(vAgg (class_Set.c (v12.1))), (.int .i64 (v12.2))]) (resC' (v := (vAgg (class_Set.c (v12.1)))) h48 (ldv_of (ld_agg (M := Mt) (t := 36) f63 T.ag36 (by rw [class_Set.enc.len]; exact T.sz36) Seg.refl)) (resT' (v := (.int .i64 (v12.2))) rfl resN)) (fm_cons (flat_agg class_Set.enc _) (fm_cons rfl fm_nil))
  · replace hm := cond_f hm g59
    refine tk_skip okM ?_
    refine n30 _ ?_
    refine tk_os okM hok fun J hJ => ?_
    obtain ⟨v67, ev67, hm⟩ := bind_s hm
    obtain ⟨v69, ev69, hm⟩ := bind_s hm
    have a68 := ha_lex_item c.ro H46 v67 v69 ev69
    obtain ⟨b70, H71, a72, f73, q74, r75, x76, i77⟩ := al_ok H46 36 (class_Set.c class_Set.zero) i54.le
    have i78 := i77 _ _ i54
    have f79 := x76 _ _ f52
    have f80 := x76 _ _ f53
    obtain ⟨H82, a83, f84, u85⟩ := st_ok (M := Mt) (t := 36) (v := (vAgg (class_Set.c (v69.1)))) (c := class_Set.c v69.1) (cs' := class_Set.c v69.1) f73 (by rw [class_Set.enc.len]; exact T.sz36) vAgg_cells (class_Set.enc.one _) (Nat.le_trans hcn r75) (le0 class_Set.enc.len) (wrs_all (eqL class_Set.enc.len))
    have i86 := i78.up u85 r75
    have f87 := (u85.get _ (ne_len f52 q74)).trans f79
    have f88 := (u85.get _ (ne_len f53 q74)).trans f80
    simp only [C.f27r4, R, Nat.reduceEqDiff, h47, h50, sl_str (M := Mt) Tryd.underlying9, ev67, c_fn F46, a68, zs36, a72, a83]
    refine hJ _ ?_
    refine tk_os okM hok fun J hJ => ?_
    have a89 := ld_agg (M := Mt) (t := 36) f88 T.ag36 (by rw [class_Set.enc.len]; exact T.sz36) Seg.refl
    obtain ⟨v91, ev91, hm⟩ := bind_s hm
    have a90 := ha_class_Set_Min c.ro H82 v12.1 v91 (tabIv0 i86 hnb hG0) ev91
    simp only [C.f27r5, R, Nat.reduceEqDiff, a89, h49, c_fn F47, a90]
    refine hJ _ ?_
    refine tk_os okM hok fun J hJ => ?_
    have a92 := ld_agg (M := Mt) (t := 36) f84 T.ag36 (by rw [class_Set.enc.len]; exact T.sz36) Seg.refl
    obtain ⟨v94, ev94, hm⟩ := bind_s hm
    have a93 := ha_class_Set_Min c.ro H82 v69.1 v94 (tabIv0 i86 hnb hG0) ev94
    simp only [C.f27r6, R, Nat.reduceEqDiff, a92, c_fn F47, a93]
    refine hJ _ ?_
    refine tk_seq_k fun K n95 x96 => ?_
    refine tk_os okM hok fun J hJ => ?_
    rw [C.f27r7]
    obtain ⟨y100, ey100, hm⟩ := bind_s hm
    refine rn_app_k (fun ⟨σ, H, _⟩ => Lk σ 2 (.pointer (some ⟨b1, 0, none⟩)) ∧ Lk σ 5 (.int .i64 (v12.2)) ∧ Lk σ 6 (.pointer (some ⟨b70, 0, none⟩)) ∧ Lk σ 7 (.int .i64 (v69.2)) ∧ Lk σ 8 (.int .u8 (v91.1)) ∧ Lk σ 10 (.int .u8 (v94.1)) ∧ Lk σ 57 (.bool (y100)) ∧ H[b1]? = some (.cells (class_Set.c class_Set.zero) 36) ∧ H[b70]? = some (.cells (class_Set.c v69.1) 36) ∧ Iv c.nb [] H0 H) (fun J hJ => ?_) ?_
    · skip
      cases g112 : decide (v69.2 = 0)
      · skip
        have ey100 := cond_f ey100 g112
        have a113 := ld_agg (M := Mt) (t := 36) f88 T.ag36 (by rw [class_Set.enc.len]; exact T.sz36) Seg.refl
        obtain ⟨v115, ev115, ey100⟩ := bind_s ey100
        have a114 := ha_class_Set_Len c.ro H82 v12.1 v115 ev115
        obtain rfl := Option.some.inj ey100
        simp only [C.f27r7p0, R, Nat.reduceEqDiff, g112, a113, h49, c_fn F48, a114]
        refine hJ _ ?_
        exact ⟨h48, h50, rfl, (by first | rfl | (simp only [g112]; rfl) | simp only [g112, Lk, lookS, lookN, Nat.reduceEqDiff, not_false_eq_true, Bool.true_and, Bool.false_and, Bool.true_or, Bool.false_or, cond_true, cond_false]), (by first | rfl | (simp only [g112]; rfl) | simp only [g112, Lk, lookS, lookN, Nat.reduceEqDiff, not_false_eq_true, Bool.true_and, Bool.false_and, Bool.true_or, Bool.false_or, cond_true, cond_false]), (by first | rfl | (simp only [g112]; rfl) | simp only [g112, Lk, lookS, lookN, Nat.reduceEqDiff, not_false_eq_true, Bool.true_and, Bool.false_and, Bool.true_or, Bool.false_or, cond_true, cond_false]), (by first | rfl | (simp only [g112]; rfl) | simp only [g112, Lk, lookS, lookN, Nat.reduceEqDiff, not_false_eq_true, Bool.true_and, Bool.false_and, Bool.true_or, Bool.false_or, cond_true, cond_false]), f87, f84, i86⟩
      · skip
        have ey100 := cond_t ey100 g112
        obtain rfl := Option.some.inj ey100
        simp only [C.f27r7p0, R, Nat.reduceEqDiff, g112]
        refine hJ _ ?_
        exact ⟨h48, h50, rfl, (by first | rfl | (simp only [g112]; rfl) | simp only [g112, Lk, lookS, lookN, Nat.reduceEqDiff, not_false_eq_true, Bool.true_and, Bool.false_and, Bool.true_or, Bool.false_or, cond_true, cond_false]), (by first | rfl | (simp only [g112]; rfl) | simp only [g112, Lk, lookS, lookN, Nat.reduceEqDiff, not_false_eq_true, Bool.true_and, Bool.false_and, Bool.true_or, Bool.false_or, cond_true, cond_false]), (by first | rfl | (simp only [g112]; rfl) | simp only [g112, Lk, lookS, lookN, Nat.reduceEqDiff, not_false_eq_true, Bool.true_and, Bool.false_and, Bool.true_or, Bool.false_or, cond_true, cond_false]), (by first | rfl | (simp only [g112]; rfl) | simp only [g112, Lk, lookS, lookN, Nat.reduceEqDiff, not_false_eq_true, Bool.true_and, Bool.false_and, Bool.true_or, Bool.false_or, cond_true, cond_false]), f87, f84, i86⟩
    rintro ⟨σ116, H101, d117⟩ ⟨h102, h103, h104, h105, h106, h107, h108, f109, f110, i111⟩
    obtain ⟨y121, ey121, hm⟩ := bind_s hm
    refine rn_app_k (fun ⟨σ, H, _⟩ => Lk σ 2 (.pointer (some ⟨b1, 0, none⟩)) ∧ Lk σ 5 (.int .i64 (v12.2)) ∧ Lk σ 7 (.int .i64 (v69.2)) ∧ Lk σ 8 (.int .u8 (v91.1)) ∧ Lk σ 10 (.int .u8 (v94.1)) ∧ Lk σ 62 (.bool (y121)) ∧ H[b1]? = some (.cells (class_Set.c class_Set.zero) 36) ∧ Iv c.nb [] H0 H) (fun J hJ => ?_) ?_
    · skip
      cases g131 : y100
      · skip
        have ey121 := cond_f ey121 g131
        have a132 := ld_agg (M := Mt) (t := 36) f110 T.ag36 (by rw [class_Set.enc.len]; exact T.sz36) Seg.refl
        obtain ⟨v134, ev134, ey121⟩ := bind_s ey121
        have a133 := ha_class_Set_Len c.ro H101 v69.1 v134 ev134
        obtain rfl := Option.some.inj ey121
        simp only [C.f27r7p1, R, Nat.reduceEqDiff, h108, g131, a132, h104, c_fn F48, a133]
        refine hJ _ ?_
        exact ⟨h102, h103, h105, h106, h107, (by first | rfl | (simp only [g131]; rfl) | simp only [g131, Lk, lookS, lookN, Nat.reduceEqDiff, not_false_eq_true, Bool.true_and, Bool.false_and, Bool.true_or, Bool.false_or, cond_true, cond_false]), f109, i111⟩
      · skip
        have ey121 := cond_t ey121 g131
        obtain rfl := Option.some.inj ey121
        simp only [C.f27r7p1, R, Nat.reduceEqDiff, h108, g131]
        refine hJ _ ?_
        exact ⟨h102, h103, h105, h106, h107, (by first | rfl | (simp only [g131]; rfl) | simp only [g131, Lk, lookS, lookN, Nat.reduceEqDiff, not_false_eq_true, Bool.true_and, Bool.false_and, Bool.true_or, Bool.false_or, cond_true, cond_false]), f109, i111⟩
    rintro ⟨σ135, H122, d136⟩ ⟨h123, h124, h125, h126, h127, h128, f129, i130⟩
    refine rn_k (fun ⟨σ, H, _⟩ => Lk σ 2 (.pointer (some ⟨b1, 0, none⟩)) ∧ Lk σ 5 (.int .i64 (v12.2)) ∧ Lk σ 7 (.int .i64 (v69.2)) ∧ Lk σ 8 (.int .u8 (v91.1)) ∧ Lk σ 10 (.int .u8 (v94.1)) ∧ Lk σ 67 (.bool (y121 || (decide (v94.1 < v91.1)))) ∧ H[b1]? = some (.cells (class_Set.c class_Set.zero) 36) ∧ Iv c.nb [] H0 H) (fun J hJ => ?_) ?_
    · skip
      cases g146 : y121
      · skip
        simp only [C.f27r7p2, R, Nat.reduceEqDiff, h128, g146, h127, h126]
        refine hJ _ ?_
        exact ⟨h123, h124, h125, h126, h127, (by first | rfl | (simp only [g146]; rfl) | simp only [g146, Lk, lookS, lookN, Nat.reduceEqDiff, not_false_eq_true, Bool.true_and, Bool.false_and, Bool.true_or, Bool.false_or, cond_true, cond_false]), f129, i130⟩
      · skip
        simp only [C.f27r7p2, R, Nat.reduceEqDiff, h128, g146]
        refine hJ _ ?_
        exact ⟨h123, h124, h125, h126, h127, (by first | rfl | (simp only [g146]; rfl) | simp only [g146, Lk, lookS, lookN, Nat.reduceEqDiff, not_false_eq_true, Bool.true_and, Bool.false_and, Bool.true_or, Bool.false_or, cond_true, cond_false]), f129, i130⟩
    rintro ⟨σ147, H137, d148⟩ ⟨h138, h139, h140, h141, h142, h143, f144, i145⟩
    refine hJ _ ?_
    refine tk_cond (t := y121 || (decide (v94.1 < v91.1))) h143 (fun g149 => ?_) (fun g149 => ?_)
    · replace hm := cond_t hm g149
      refine tk_os okM hok fun J hJ => ?_
      obtain ⟨H150, a151, f152, u153⟩ := st_ok (M := Mt) (t := 36) (v := (vAgg (class_Set.c (class_Set.zero)))) (c := class_Set.c class_Set.zero) (cs' := class_Set.c class_Set.zero) f144 (by rw [class_Set.enc.len]; exact T.sz36) vAgg_cells (class_Set.enc.one _) (Nat.le_trans hcn r6) (le0 class_Set.enc.len) (wrs_all (eqL class_Set.enc.len))
      have i154 := i145.up u153 r6
      simp only [C.f27r8, R, Nat.reduceEqDiff, bd36_, a151, h138]
      refine hJ _ ?_
      refine tk_ret okM ?_
      refine x96 _ _ (by simp) ?_
      obtain rfl := Option.some.inj hm
      exact end_flat (.inl rfl) (vs := [(vAgg (class_Set.c (class_Set.zero))), (.int .i64 (0))]) (resC' (v := (vAgg (class_Set.c (class_Set.zero)))) h138 (ldv_of (ld_agg (M := Mt) (t := 36) f152 T.ag36 (by rw [class_Set.enc.len]; exact T.sz36) Seg.refl)) (resT' (v := (.int .i64 (0))) rfl resN)) (fm_cons (flat_agg class_Set.enc _) (fm_cons rfl fm_nil))
    · replace hm := cond_f hm g149
      refine tk_skip okM ?_
      refine n95 _ ?_
      refine tk_os okM hok fun J hJ => ?_
      obtain ⟨v156, ev156, hm⟩ := bind_s hm
      have a155 := ha_class_Range c.ro H137 v91.1 v94.1 v156 ev156
      obtain ⟨H157, a158, f159, u160⟩ := st_ok (M := Mt) (t := 36) (v := (vAgg (class_Set.c (v156)))) (c := class_Set.c v156) (cs' := class_Set.c v156) f144 (by rw [class_Set.enc.len]; exact T.sz36) vAgg_cells (class_Set.enc.one _) (Nat.le_trans hcn r6) (le0 class_Set.enc.len) (wrs_all (eqL class_Set.enc.len))
      have i161 := i145.up u160 r6
      simp only [C.f27r9, R, Nat.reduceEqDiff, h141, h142, c_fn F20, a155, h139, h140, a158, h138]
      refine hJ _ ?_
      refine tk_ret okM ?_
      obtain rfl := Option.some.inj hm
      exact end_flat (.inl rfl) (vs := [(vAgg (class_Set.c (v156))), (.int .i64 (IntKind.i64.wrap ((IntKind.i64.wrap (v12.2 + 1)) + v69.2)))]) (resC' (v := (vAgg (class_Set.c (v156)))) h138 (ldv_of (ld_agg (M := Mt) (t := 36) f159 T.ag36 (by rw [class_Set.enc.len]; exact T.sz36) Seg.refl)) (resT' (v := (.int .i64 (IntKind.i64.wrap ((IntKind.i64.wrap (v12.2 + 1)) + v69.2)))) rfl resN)) (fm_cons (flat_agg class_Set.enc _) (fm_cons rfl fm_nil))

-- (*clew/class.Set).add
def b_class_Set_add (n : Nat) (x0 : class_Set) (x1 : Int) : Option (class_Set) := (quoO .u8 x1 64).bind fun v2 => (ck 4 v2).bind fun j3 => (remO x1 64).bind fun v5 => (shlO .u64 1 v5).bind fun v6 => some ({ x0 with f_W := x0.f_W.put j3 (orI .u64 (x0.f_W.nth j3) v6) })

theorem w_class_Set_add {call : CallF} (hok : CallOk Mt call) {n : Nat} {H0 : Hp} {x0 : class_Set} {b0 : Nat} {x1 : Int} {r : class_Set} {ro : Nat} (hro : ro ≤ H0.length) (hO : H0[b0]? = some (.cells (class_Set.c x0) 36)) (hB : ro ≤ b0) (hm : b_class_Set_add n x0 x1 = some r) :
    Pt Mt ro 36 [(.pointer (some ⟨b0, 0, none⟩)), (.int .u8 x1)] H0 (.tuple [].toArray) (H0.set b0 (.cells (class_Set.c r) 36)) [] := by
  refine pt_mut okM F36d (by exact Nat.le_of_ble_eq_true rfl) hro ?_ (by simp) ?_ ?_
  · exact fun b hb => up_set.get b (by omega)
  · exact kept_set hO (class_Set.enc.flat _)
  intro c hnt hnb hcr
  have hcn : c.ro ≤ c.nb := by omega
  replace hB : c.ro ≤ b0 := by omega
  have iv : Iv c.nb [b0] H0 H0 := by rw [hnb]; exact iv_refl
  rw [show args0 [(.pointer (some ⟨b0, 0, none⟩)), (.int .u8 x1)] = [(0, (.pointer (some ⟨b0, 0, none⟩))), (1, (.int .u8 x1))] from rfl]
  rw [b_class_Set_add] at hm
  simp only [C.f36]
  refine tk_oe okM hok fun J hJ => ?_
  obtain ⟨v2, ev2, hm⟩ := bind_s hm
  obtain ⟨j3, ej3, hm⟩ := bind_s hm
  have a4 := ld_one (M := Mt) (t := 33) hO T.ag33 ((Seg.refl.sub (class_Set.seg0 x0)).sub (sgA enc_int.len (a := x0.f_W) (ck_lt ej3).1))
  obtain ⟨v5, ev5, hm⟩ := bind_s hm
  obtain ⟨v6, ev6, hm⟩ := bind_s hm
  obtain ⟨H7, a8, f9, u10⟩ := st_ok (M := Mt) (t := 33) (v := (.int .u64 (orI .u64 (x0.f_W.nth j3) v6))) (c := (cInt .u64) (orI .u64 (x0.f_W.nth j3) v6)) (cs' := class_Set.c ({ x0 with f_W := x0.f_W.put j3 (orI .u64 (x0.f_W.nth j3) v6) })) hO (by rw [enc_int.len]; exact T.sz33) rfl (enc_int.one _) hB (Nat.le_trans (Nat.le_of_eq (congrArg _ (eqL enc_int.len))) ((Seg.refl.sub (class_Set.seg0 x0)).sub (sgA enc_int.len (a := x0.f_W) (ck_lt ej3).1)).2) (by rw [wrs_in (Seg.refl.sub (class_Set.seg0 x0)) (by have := (ck_lt ej3).1; simp only [enc_int.len, (enc_arr (n := 4) enc_int).len]; omega), wrA enc_int.len (a := x0.f_W) (v := orI .u64 (x0.f_W.nth j3) v6) (ck_lt ej3).1, Nat.zero_add, class_Set.wr0 x0 (x0.f_W.put j3 (orI .u64 (x0.f_W.nth j3) v6))])
  have i11 := iv.upX u10 (by simp)
  simp only [C.f36r0, R, Nat.reduceEqDiff, ev2, fa36_0, ia34, ej3, a4, ev5, ev6, a8]
  refine hJ _ ?_
  obtain rfl := Option.some.inj hm
  exact end_mut (.inr rfl) (vs := []) resN fm_nil (by simp) (fun b hb => by
    by_cases hx : b = b0
    · subst hx; rw [get_set hO, f9]
    · rw [(up_set).get _ hx, i11.old b (by omega) (by simpa using hx)])

-- clew/lex.simple
def b_lex_simple (c_strings_IndexByte : T_strings_IndexByte) (n : Nat) (x0 : Int) : Option (Int × Bool) := (c_strings_IndexByte ((⟨#[46, 94, 36, 124, 41]⟩ : ByteArray)) x0).bind fun v2 => bif decide (v2 < 0) then (some (0, false)) else ((ck 5 v2).bind fun j22 => some (((⟨[1, 2, 3, 6, 15], rfl⟩ : (Arr Int 5))).nth j22, true))

theorem w_lex_simple {call : CallF} (hok : CallOk Mt call) {n : Nat} {c_strings_IndexByte : T_strings_IndexByte} (ha_strings_IndexByte : A_strings_IndexByte call c_strings_IndexByte) {H0 : Hp} {x0 : Int} {r : Int × Bool} {ro : Nat} (hro : ro ≤ H0.length) (hm : b_lex_simple c_strings_IndexByte n x0 = some r) :
    Pt Mt ro 37 [(.int .u8 x0)] H0 (.tuple [(.int .i64 (r.1)), (.bool (r.2))].toArray) H0 [] := by
  refine pt_new0 okM F37d (by exact Nat.le_of_ble_eq_true rfl) ?_ hro
  intro c hnt hnb hcr
  have hcn : c.ro ≤ c.nb := by omega
  have iv : Iv c.nb [] H0 H0 := by rw [hnb]; exact iv_refl
  rw [show args0 [(.int .u8 x0)] = [(0, (.int .u8 x0))] from rfl]
  rw [b_lex_simple] at hm
  simp only [C.f37]
  refine tk_os okM hok fun J hJ => ?_
  simp only [C.f37r0, R, Nat.reduceEqDiff]
  refine hJ _ ?_
  refine tk_os okM hok fun J hJ => ?_
  obtain ⟨v2, ev2, hm⟩ := bind_s hm
  have a1 := ha_strings_IndexByte c.ro H0 ((⟨#[46, 94, 36, 124, 41]⟩ : ByteArray)) x0 v2 ev2
  simp only [C.f37r1, R, Nat.reduceEqDiff, c_fn F49, a1]
  refine hJ _ ?_
  refine tk_os okM hok fun J hJ => ?_
  have a3 {H : Hp} : bdP Mt H 87 [(0, (.int .i64 (1))), (1, (.int .i64 (2))), (2, (.int .i64 (3))), (3, (.int .i64 (6))), (4, (.int .i64 (15)))] = some (.val (vAgg ((cArr (n := 5) (cInt .i64)) (⟨[1, 2, 3, 6, 15], rfl⟩ : (Arr Int 5)))), H) := bd_arr (z := 1) Tryd.underlying87 T.zc87 rfl T.sz3 enc_int rfl rfl
  obtain ⟨b4, H5, a6, f7, q8, r9, x10, i11⟩ := al_ok H0 87 ((cArr (n := 5) (cInt .i64)) (Arr.rep 5 0)) iv.le
  have i12 := i11 _ _ iv
  obtain ⟨H14, a15, f16, u17⟩ := st_ok (M := Mt) (t := 87) (v := (vAgg ((cArr (n := 5) (cInt .i64)) ((⟨[1, 2, 3, 6, 15], rfl⟩ : (Arr Int 5)))))) (c := (cArr (n := 5) (cInt .i64)) ((⟨[1, 2, 3, 6, 15], rfl⟩ : (Arr Int 5)))) (cs' := (cArr (n := 5) (cInt .i64)) ((⟨[1, 2, 3, 6, 15], rfl⟩ : (Arr Int 5)))) f7 (by rw [(enc_arr (n := 5) enc_int).len]; exact T.sz87) vAgg_cells ((enc_arr (n := 5) enc_int).one _) (Nat.le_trans hcn r9) (le0 (enc_arr (n := 5) enc_int).len) (wrs_all (eqL (enc_arr (n := 5) enc_int).len))
  have i18 := i12.up u17 r9
  simp only [C.f37r2, R, Nat.reduceEqDiff, a3, zs87, a6, a15]
  refine hJ _ ?_
  refine tk_seq_k fun K n19 x20 => ?_
  refine tk_os okM hok fun J hJ => ?_
  simp only [C.f37r3, R, Nat.reduceEqDiff]
  refine hJ _ ?_
  refine tk_cond (t := decide (v2 < 0)) rfl (fun g21 => ?_) (fun g21 => ?_)
  · replace hm := cond_t hm g21
    refine tk_os okM hok fun J hJ => ?_
    simp only [C.f37r4, R, Nat.reduceEqDiff]
    refine hJ _ ?_
    refine tk_ret okM ?_
    refine x20 _ _ (by simp) ?_
    obtain rfl := Option.some.inj hm
    exact end_flat (.inl rfl) (vs := [(.int .i64 (0)), (.bool (false))]) (resT' (v := (.int .i64 (0))) rfl (resT' (v := (.bool (false))) rfl resN)) (fm_cons rfl (fm_cons rfl fm_nil))
  · replace hm := cond_f hm g21
    refine tk_skip okM ?_
    refine n19 _ ?_
    refine tk_os okM hok fun J hJ => ?_
    obtain ⟨j22, ej22, hm⟩ := bind_s hm
    have a23 := ld_one (M := Mt) (t := 3) f16 T.ag3 (Seg.refl.sub (sgA enc_int.len (a := (⟨[1, 2, 3, 6, 15], rfl⟩ : (Arr Int 5))) (ck_lt ej22).1))
    simp only [C.f37r5, R, Nat.reduceEqDiff, ia87, ej22, a23]
    refine hJ _ ?_
    refine tk_ret okM ?_
    obtain rfl := Option.some.inj hm
    exact end_flat (.inl rfl) (vs := [(.int .i64 (((⟨[1, 2, 3, 6, 15], rfl⟩ : (Arr Int 5))).nth j22)), (.bool (true))]) (resT' (v := (.int .i64 (((⟨[1, 2, 3, 6, 15], rfl⟩ : (Arr Int 5))).nth j22))) rfl (resT' (v := (.bool (true))) rfl resN)) (fm_cons rfl (fm_cons rfl fm_nil))

-- clew/lex.opening
def b_lex_opening_2 (c_strings_HasPrefix : T_strings_HasPrefix) (c_lex_hasRune : T_lex_hasRune) (n : Nat) : Nat → lex_Token → ByteArray → ByteArray → Nat → Option (lex_Token × Int × Int)
  | 0, _, _, _, _ => none
  | k + 1, x76, x7_77, x78, x79 => bif decide (x79 < x78.size) then (bif (decide ((((Utf8.decode x78 x79).1 : Int)) = 58)) && (!decide (x7_77 = ((⟨#[]⟩ : ByteArray)))) then (some (({ lex_Token.zero with f_Kind := 14, f_Flags := x7_77 } : lex_Token), IntKind.i64.wrap (3 + ((x7_77.size : Int))), 0)) else ((bif ((!decide ((((Utf8.decode x78 x79).1 : Int)) = 105)) && (!decide ((((Utf8.decode x78 x79).1 : Int)) = 109))) && (!decide ((((Utf8.decode x78 x79).1 : Int)) = 115)) then some true else ((c_lex_hasRune x7_77 (((Utf8.decode x78 x79).1 : Int))).bind fun v161 => some v161)).bind fun y162 => bif y162 then (some (lex_Token.zero, 0, 3)) else ((sadd x7_77 (Utf8.encode (((Utf8.decode x78 x79).1 : Int)))).bind fun v184 => b_lex_opening_2 c_strings_HasPrefix c_lex_hasRune n k x76 v184 x78 (x79 + (Utf8.decode x78 x79).2)))) else (some (lex_Token.zero, 0, 3))
def b_lex_opening_1 (c_strings_HasPrefix : T_strings_HasPrefix) (c_lex_hasRune : T_lex_hasRune) (n : Nat) : Nat → ByteArray → lex_Token → (Arr ByteArray 6) → Int → Option (lex_Token × Int × Int)
  | 0, _, _, _, _ => none
  | k + 1, x0_27, x28, x14_29, x15_30 => bif decide (x15_30 < 6) then ((ck 6 x15_30).bind fun j50 => (c_strings_HasPrefix x0_27 (x14_29.nth j50)).bind fun v52 => bif v52 then (some (({ lex_Token.zero with f_Kind := IntKind.i64.wrap (8 + x15_30) } : lex_Token), ((x14_29.nth j50).size : Int), 0)) else (b_lex_opening_1 c_strings_HasPrefix c_lex_hasRune n k x0_27 x28 x14_29 (IntKind.i64.wrap (x15_30 + 1)))) else ((sub x0_27 2 x0_27.size).bind fun v61 => b_lex_opening_2 c_strings_HasPrefix c_lex_hasRune n n x28 ((⟨#[]⟩ : ByteArray)) v61 0)
def b_lex_opening (c_strings_HasPrefix : T_strings_HasPrefix) (c_lex_hasRune : T_lex_hasRune) (n : Nat) (x0 : ByteArray) : Option (lex_Token × Int × Int) := (c_strings_HasPrefix x0 ((⟨#[40, 63]⟩ : ByteArray))).bind fun v14 => bif !v14 then (some (({ lex_Token.zero with f_Kind := 7 } : lex_Token), 1, 0)) else (b_lex_opening_1 c_strings_HasPrefix c_lex_hasRune n n x0 lex_Token.zero ((⟨[(⟨#[40, 63, 58]⟩ : ByteArray), (⟨#[40, 63, 61]⟩ : ByteArray), (⟨#[40, 63, 33]⟩ : ByteArray), (⟨#[40, 63, 60, 61]⟩ : ByteArray), (⟨#[40, 63, 60, 33]⟩ : ByteArray), (⟨#[40, 63, 62]⟩ : ByteArray)], rfl⟩ : (Arr ByteArray 6))) 0)

theorem w_lex_opening {call : CallF} (hok : CallOk Mt call) {n : Nat} {c_strings_HasPrefix : T_strings_HasPrefix} (ha_strings_HasPrefix : A_strings_HasPrefix call c_strings_HasPrefix) {c_lex_hasRune : T_lex_hasRune} (ha_lex_hasRune : A_lex_hasRune call c_lex_hasRune) {H0 : Hp} {x0 : ByteArray} {r : lex_Token × Int × Int} {ro : Nat} (hro : ro ≤ H0.length) (hm : b_lex_opening c_strings_HasPrefix c_lex_hasRune n x0 = some r) :
    Pt Mt ro 38 [(.string x0)] H0 (.tuple [(vAgg (lex_Token.c (r.1))), (.int .i64 (r.2.1)), (.int .i64 (r.2.2))].toArray) H0 [] := by
  refine pt_new0 okM F38d (by exact Nat.le_of_ble_eq_true rfl) ?_ hro
  intro c hnt hnb hcr
  have hcn : c.ro ≤ c.nb := by omega
  have iv : Iv c.nb [] H0 H0 := by rw [hnb]; exact iv_refl
  rw [show args0 [(.string x0)] = [(0, (.string x0))] from rfl]
  rw [b_lex_opening] at hm
  simp only [C.f38, C.f38b0, C.f38b1]
  refine tk_os okM hok fun J hJ => ?_
  obtain ⟨b1, H2, a3, f4, q5, r6, x7, i8⟩ := al_ok H0 46 (lex_Token.c lex_Token.zero) iv.le
  have i9 := i8 _ _ iv
  simp only [C.f38r0, R, Nat.reduceEqDiff, zs46, a3]
  refine hJ _ ?_
  refine tk_seq_k fun K n11 x12 => ?_
  refine tk_os okM hok fun J hJ => ?_
  obtain ⟨v14, ev14, hm⟩ := bind_s hm
  have a13 := ha_strings_HasPrefix c.ro H2 x0 ((⟨#[40, 63]⟩ : ByteArray)) v14 ev14
  simp only [C.f38r1, R, Nat.reduceEqDiff, c_fn F26, a13]
  refine hJ _ ?_
  refine tk_cond (t := !v14) rfl (fun g15 => ?_) (fun g15 => ?_)
  · replace hm := cond_t hm g15
    refine tk_os okM hok fun J hJ => ?_
    obtain ⟨H16, a17, f18, u19⟩ := st_ok (M := Mt) (t := 46) (v := (vAgg (lex_Token.c (({ lex_Token.zero with f_Kind := 7 } : lex_Token))))) (c := lex_Token.c (({ lex_Token.zero with f_Kind := 7 } : lex_Token))) (cs' := lex_Token.c (({ lex_Token.zero with f_Kind := 7 } : lex_Token))) f4 (by rw [lex_Token.enc.len]; exact T.sz46) vAgg_cells (lex_Token.enc.one _) (Nat.le_trans hcn r6) (le0 lex_Token.enc.len) (wrs_all (eqL lex_Token.enc.len))
    have i20 := i9.up u19 r6
    simp only [C.f38r2, R, Nat.reduceEqDiff, bd46_0, a17]
    refine hJ _ ?_
    refine tk_ret okM ?_
    refine x12 _ _ (by simp) ?_
    obtain rfl := Option.some.inj hm
    exact end_flat (.inl rfl) (vs := [(vAgg (lex_Token.c (({ lex_Token.zero with f_Kind := 7 } : lex_Token)))), (.int .i64 (1)), (.int .i64 (0))]) (resC' (v := (vAgg (lex_Token.c (({ lex_Token.zero with f_Kind := 7 } : lex_Token))))) rfl (ldv_of (ld_agg (M := Mt) (t := 46) f18 T.ag46 (by rw [lex_Token.enc.len]; exact T.sz46) Seg.refl)) (resT' (v := (.int .i64 (1))) rfl (resT' (v := (.int .i64 (0))) rfl resN))) (fm_cons (flat_agg lex_Token.enc _) (fm_cons rfl (fm_cons rfl fm_nil)))
  · replace hm := cond_f hm g15
    refine tk_skip okM ?_
    refine n11 _ ?_
    refine tk_seq_k fun K n21 x22 => ?_
    refine tk_os okM hok fun J hJ => ?_
    have a23 {H : Hp} : bdP Mt H 88 [(0, (.string ((⟨#[40, 63, 58]⟩ : ByteArray)))), (1, (.string ((⟨#[40, 63, 61]⟩ : ByteArray)))), (2, (.string ((⟨#[40, 63, 33]⟩ : ByteArray)))), (3, (.string ((⟨#[40, 63, 60, 61]⟩ : ByteArray)))), (4, (.string ((⟨#[40, 63, 60, 33]⟩ : ByteArray)))), (5, (.string ((⟨#[40, 63, 62]⟩ : ByteArray))))] = some (.val (vAgg ((cArr (n := 6) cStr) (⟨[(⟨#[40, 63, 58]⟩ : ByteArray), (⟨#[40, 63, 61]⟩ : ByteArray), (⟨#[40, 63, 33]⟩ : ByteArray), (⟨#[40, 63, 60, 61]⟩ : ByteArray), (⟨#[40, 63, 60, 33]⟩ : ByteArray), (⟨#[40, 63, 62]⟩ : ByteArray)], rfl⟩ : (Arr ByteArray 6)))), H) := bd_arr (z := 1) Tryd.underlying88 T.zc88 rfl T.sz9 enc_str rfl rfl
    simp only [C.f38r3, R, Nat.reduceEqDiff, a23]
    refine hJ _ ?_
    refine tk_block_k fun K n24 e25 x26 => ?_
    refine tk_loop_k (n := n) (fun k1 ⟨σ, H, _⟩ => ∃ x0_27 x28 x14_29 x15_30, b_lex_opening_1 c_strings_HasPrefix c_lex_hasRune n k1 x0_27 x28 x14_29 x15_30 = some r ∧ Lk σ 0 (.string x0_27) ∧ Lk σ 2 (.pointer (some ⟨b1, 0, none⟩)) ∧ Lk σ 14 (vAgg ((cArr (n := 6) cStr) x14_29)) ∧ Lk σ 15 (.int .i64 x15_30) ∧ H[b1]? = some (.cells (lex_Token.c x28) 46) ∧ Iv c.nb [] H0 H) ?_ ?_ ?_
    · exact ⟨x0, lex_Token.zero, (⟨[(⟨#[40, 63, 58]⟩ : ByteArray), (⟨#[40, 63, 61]⟩ : ByteArray), (⟨#[40, 63, 33]⟩ : ByteArray), (⟨#[40, 63, 60, 61]⟩ : ByteArray), (⟨#[40, 63, 60, 33]⟩ : ByteArray), (⟨#[40, 63, 62]⟩ : ByteArray)], rfl⟩ : (Arr ByteArray 6)), 0, hm, rfl, rfl, rfl, rfl, f4, i9⟩
    · rintro ⟨σ, H, d⟩ ⟨_, _, _, _, hm, _⟩
      cases hm
    · intro k1 K n31 x32
      rintro ⟨σ40, H33, d41⟩ ⟨x0_27, x28, x14_29, x15_30, hm, h34, h35, h36, h37, f38, i39⟩
      rw [b_lex_opening_1.eq_2] at hm
      refine tk_os okM hok fun J hJ => ?_
      simp only [C.f38r4, R, Nat.reduceEqDiff, h37]
      refine hJ _ ?_
      refine tk_seq_k fun K n42 x43 => ?_
      refine tk_cond (t := decide (x15_30 < 6)) rfl (fun g44 => ?_) (fun g44 => ?_)
      · replace hm := cond_t hm g44
        refine tk_skip okM ?_
        refine n42 _ ?_
        refine tk_seq_k fun K n45 x46 => ?_
        refine tk_block_k fun K n47 e48 x49 => ?_
        refine tk_os okM hok fun J hJ => ?_
        obtain ⟨j50, ej50, hm⟩ := bind_s hm
        simp only [C.f38r5, R, Nat.reduceEqDiff, h37, ix88, ej50, h36]
        refine hJ _ ?_
        refine tk_os okM hok fun J hJ => ?_
        obtain ⟨v52, ev52, hm⟩ := bind_s hm
        have a51 := ha_strings_HasPrefix c.ro H33 x0_27 (x14_29.nth j50) v52 ev52
        simp only [C.f38r6, R, Nat.reduceEqDiff, h34, c_fn F26, a51]
        refine hJ _ ?_
        refine tk_cond (t := v52) rfl (fun g53 => ?_) (fun g53 => ?_)
        · replace hm := cond_t hm g53
          refine tk_os okM hok fun J hJ => ?_
          obtain ⟨H54, a55, f56, u57⟩ := st_ok (M := Mt) (t := 46) (v := (vAgg (lex_Token.c (({ lex_Token.zero with f_Kind := IntKind.i64.wrap (8 + x15_30) } : lex_Token))))) (c := lex_Token.c (({ lex_Token.zero with f_Kind := IntKind.i64.wrap (8 + x15_30) } : lex_Token))) (cs' := lex_Token.c (({ lex_Token.zero with f_Kind := IntKind.i64.wrap (8 + x15_30) } : lex_Token))) f38 (by rw [lex_Token.enc.len]; exact T.sz46) vAgg_cells (lex_Token.enc.one _) (Nat.le_trans hcn r6) (le0 lex_Token.enc.len) (wrs_all (eqL lex_Token.enc.len))
          have i58 := i39.up u57 r6
          simp only [C.f38r7, R, Nat.reduceEqDiff, bd46_0, len_str (M := Mt) Tryd.underlying9, a55, h35]
          refine hJ _ ?_
          refine tk_ret okM ?_
          refine x49 _ _ (by simp) (by simp) ?_
          refine x46 _ _ (by simp) ?_
          refine x32 _ _ (by simp) ?_
          refine x26 _ _ (by simp) (by simp) ?_
          refine x22 _ _ (by simp) ?_
          obtain rfl := Option.some.inj hm
          exact end_flat (.inl rfl) (vs := [(vAgg (lex_Token.c (({ lex_Token.zero with f_Kind := IntKind.i64.wrap (8 + x15_30) } : lex_Token)))), (.int .i64 (((x14_29.nth j50).size : Int))), (.int .i64 (0))]) (resC' (v := (vAgg (lex_Token.c (({ lex_Token.zero with f_Kind := IntKind.i64.wrap (8 + x15_30) } : lex_Token))))) h35 (ldv_of (ld_agg (M := Mt) (t := 46) f56 T.ag46 (by rw [lex_Token.enc.len]; exact T.sz46) Seg.refl)) (resT' (v := (.int .i64 (((x14_29.nth j50).size : Int)))) rfl (resT' (v := (.int .i64 (0))) rfl resN))) (fm_cons (flat_agg lex_Token.enc _) (fm_cons rfl (fm_cons rfl fm_nil)))
        · replace hm := cond_f hm g53
          refine tk_skip okM ?_
          refine n47 _ ?_
          refine n45 _ ?_
          refine tk_oe okM hok fun J hJ => ?_
          simp only [C.f38r8, R, Nat.reduceEqDiff, h37]
          refine hJ _ ?_
          refine n31 _ ?_
          exact ⟨x0_27, x28, x14_29, IntKind.i64.wrap (x15_30 + 1), hm, h34, h35, h36, rfl, f38, i39⟩
      · replace hm := cond_f hm g44
        refine tk_exit okM ?_
        refine x43 _ _ (by simp) ?_
        refine x32 _ _ (by simp) ?_
        refine e25 _ ?_
        refine n21 _ ?_
        refine tk_os okM hok fun J hJ => ?_
        simp only [C.f38r9, R, Nat.reduceEqDiff]
        refine hJ _ ?_
        refine tk_seq_k fun K n59 x60 => ?_
        refine tk_os okM hok fun J hJ => ?_
        obtain ⟨v61, ev61, hm⟩ := bind_s hm
        obtain ⟨b62, H63, a64, f65, q66, r67, x68, i69⟩ := rg_ok (M := Mt) (t := 9) H33 v61 i39.le Tryd.underlying9
        have i70 := i69 _ _ i39
        have f71 := x68 _ _ f38
        simp only [C.f38r10, R, Nat.reduceEqDiff, h34, sl_str (M := Mt) Tryd.underlying9, ev61, a64]
        refine hJ _ ?_
        refine tk_block_k fun K n73 e74 x75 => ?_
        refine tk_loop_k (n := n) (fun k2 ⟨σ, H, _⟩ => ∃ x76 x7_77 x78 x79, b_lex_opening_2 c_strings_HasPrefix c_lex_hasRune n k2 x76 x7_77 x78 x79 = some r ∧ Lk σ 2 (.pointer (some ⟨b1, 0, none⟩)) ∧ Lk σ 7 (.string x7_77) ∧ Lk σ 30 (.pointer (some ⟨b62, 0, none⟩)) ∧ H[b1]? = some (.cells (lex_Token.c x76) 46) ∧ H[b62]? = some (.iter x78 x79) ∧ Iv c.nb [] H0 H) ?_ ?_ ?_
        · exact ⟨x28, (⟨#[]⟩ : ByteArray), v61, 0, hm, h35, rfl, rfl, f71, f65, i70⟩
        · rintro ⟨σ, H, d⟩ ⟨_, _, _, _, hm, _⟩
          cases hm
        · intro k2 K n80 x81
          rintro ⟨σ89, H82, d90⟩ ⟨x76, x7_77, x78, x79, hm, h83, h84, h85, f86, f87, i88⟩
          rw [b_lex_opening_2.eq_2] at hm
          cases g91 : decide (x79 < x78.size)
          · replace hm := cond_f hm g91
            refine tk_os okM hok fun J hJ => ?_
            have a92 := nx_f (M := Mt) f87 (Nat.le_trans hcn r67) g91
            simp only [C.f38r11, R, Nat.reduceEqDiff, a92, h85]
            refine hJ _ ?_
            refine tk_seq_k fun K n93 x94 => ?_
            refine tk_cond_f rfl ?_
            refine tk_exit okM ?_
            refine x94 _ _ (by simp) ?_
            refine x81 _ _ (by simp) ?_
            refine e74 _ ?_
            refine n59 _ ?_
            refine tk_os okM hok fun J hJ => ?_
            obtain ⟨H95, a96, f97, u98⟩ := st_ok (M := Mt) (t := 46) (v := (vAgg (lex_Token.c (lex_Token.zero)))) (c := lex_Token.c lex_Token.zero) (cs' := lex_Token.c lex_Token.zero) f86 (by rw [lex_Token.enc.len]; exact T.sz46) vAgg_cells (lex_Token.enc.one _) (Nat.le_trans hcn r6) (le0 lex_Token.enc.len) (wrs_all (eqL lex_Token.enc.len))
            have i99 := i88.up u98 r6
            have f100 := (u98.get _ (ne_len f38 q66).symm).trans f87
            simp only [C.f38r18, R, Nat.reduceEqDiff, bd46_, a96, h83]
            refine hJ _ ?_
            refine tk_ret okM ?_
            obtain rfl := Option.some.inj hm
            exact end_flat (.inl rfl) (vs := [(vAgg (lex_Token.c (lex_Token.zero))), (.int .i64 (0)), (.int .i64 (3))]) (resC' (v := (vAgg (lex_Token.c (lex_Token.zero)))) h83 (ldv_of (ld_agg (M := Mt) (t := 46) f97 T.ag46 (by rw [lex_Token.enc.len]; exact T.sz46) Seg.refl)) (resT' (v := (.int .i64 (0))) rfl (resT' (v := (.int .i64 (3))) rfl resN))) (fm_cons (flat_agg lex_Token.enc _) (fm_cons rfl (fm_cons rfl fm_nil)))
          · replace hm := cond_t hm g91
            refine tk_os okM hok fun J hJ => ?_
            obtain ⟨H101, a102, f103, u104⟩ := nx_t (M := Mt) f87 (Nat.le_trans hcn r67) g91
            have i105 := i88.up u104 r67
            have f106 := (u104.get _ (ne_len f38 q66)).trans f86
            simp only [C.f38r11, R, Nat.reduceEqDiff, a102, h85]
            refine hJ _ ?_
            refine tk_seq_k fun K n107 x108 => ?_
            refine tk_cond_t rfl ?_
            refine tk_skip okM ?_
            refine n107 _ ?_
            refine tk_block_k fun K n109 e110 x111 => ?_
            refine tk_os okM hok fun J hJ => ?_
            simp only [C.f38r12, R, Nat.reduceEqDiff]
            refine hJ _ ?_
            refine tk_seq_k fun K n112 x113 => ?_
            refine tk_block_k fun K n114 e115 x116 => ?_
            refine tk_os okM hok fun J hJ => ?_
            rw [C.f38r13]
            refine rn_app_k (fun ⟨σ, H, _⟩ => Lk σ 2 (.pointer (some ⟨b1, 0, none⟩)) ∧ Lk σ 7 (.string (x7_77)) ∧ Lk σ 9 (.int .i32 (((Utf8.decode x78 x79).1 : Int))) ∧ Lk σ 30 (.pointer (some ⟨b62, 0, none⟩)) ∧ Lk σ 40 (.bool ((decide ((((Utf8.decode x78 x79).1 : Int)) = 58)) && (!decide (x7_77 = ((⟨#[]⟩ : ByteArray)))))) ∧ H[b1]? = some (.cells (lex_Token.c x76) 46) ∧ H[b62]? = some (.iter x78 (x79 + (Utf8.decode x78 x79).2)) ∧ Iv c.nb [] H0 H) (fun J hJ => ?_) ?_
            · skip
              cases g126 : decide ((((Utf8.decode x78 x79).1 : Int)) = 58)
              · skip
                simp only [C.f38r13p0, R, Nat.reduceEqDiff, g126]
                refine hJ _ ?_
                exact ⟨h83, h84, (by first | rfl | (simp only [g126]; rfl) | simp only [g126, Lk, lookS, lookN, Nat.reduceEqDiff, not_false_eq_true, Bool.true_and, Bool.false_and, Bool.true_or, Bool.false_or, cond_true, cond_false]), h85, (by first | rfl | (simp only [g126]; rfl) | simp only [g126, Lk, lookS, lookN, Nat.reduceEqDiff, not_false_eq_true, Bool.true_and, Bool.false_and, Bool.true_or, Bool.false_or, cond_true, cond_false]), f106, f103, i105⟩
              · skip
                simp only [C.f38r13p0, R, Nat.reduceEqDiff, g126, h84]
                refine hJ _ ?_
                exact ⟨h83, h84, (by first | rfl | (simp only [g126]; rfl) | simp only [g126, Lk, lookS, lookN, Nat.reduceEqDiff, not_false_eq_true, Bool.true_and, Bool.false_and, Bool.true_or, Bool.false_or, cond_true, cond_false]), h85, (by first | rfl | (simp only [g126]; rfl) | simp only [g126, Lk, lookS, lookN, Nat.reduceEqDiff, not_false_eq_true, Bool.true_and, Bool.false_and, Bool.true_or, Bool.false_or, cond_true, cond_false]), f106, f103, i105⟩
            rintro ⟨σ127, H117, d128⟩ ⟨h118, h119, h120, h121, h122, f123, f124, i125⟩
            simp only [C.f38r13p1, R, Nat.reduceEqDiff, h122]
            refine hJ _ ?_
            refine tk_cond (t := (decide ((((Utf8.decode x78 x79).1 : Int)) = 58)) && (!decide (x7_77 = ((⟨#[]⟩ : ByteArray))))) rfl (fun g129 => ?_) (fun g129 => ?_)
            · replace hm := cond_t hm g129
              refine tk_os okM hok fun J hJ => ?_
              obtain ⟨H130, a131, f132, u133⟩ := st_ok (M := Mt) (t := 46) (v := (vAgg (lex_Token.c (({ lex_Token.zero with f_Kind := 14, f_Flags := x7_77 } : lex_Token))))) (c := lex_Token.c (({ lex_Token.zero with f_Kind := 14, f_Flags := x7_77 } : lex_Token))) (cs' := lex_Token.c (({ lex_Token.zero with f_Kind := 14, f_Flags := x7_77 } : lex_Token))) f123 (by rw [lex_Token.enc.len]; exact T.sz46) vAgg_cells (lex_Token.enc.one _) (Nat.le_trans hcn r6) (le0 lex_Token.enc.len) (wrs_all (eqL lex_Token.enc.len))
              have i134 := i125.up u133 r6
              have f135 := (u133.get _ (ne_len f38 q66).symm).trans f124
              simp only [C.f38r14, R, Nat.reduceEqDiff, h119, bd46_0_6, len_str (M := Mt) Tryd.underlying9, a131, h118]
              refine hJ _ ?_
              refine tk_ret okM ?_
              refine x116 _ _ (by simp) (by simp) ?_
              refine x113 _ _ (by simp) ?_
              refine x111 _ _ (by simp) (by simp) ?_
              refine x81 _ _ (by simp) ?_
              refine x75 _ _ (by simp) (by simp) ?_
              refine x60 _ _ (by simp) ?_
              obtain rfl := Option.some.inj hm
              exact end_flat (.inl rfl) (vs := [(vAgg (lex_Token.c (({ lex_Token.zero with f_Kind := 14, f_Flags := x7_77 } : lex_Token)))), (.int .i64 (IntKind.i64.wrap (3 + ((x7_77.size : Int))))), (.int .i64 (0))]) (resC' (v := (vAgg (lex_Token.c (({ lex_Token.zero with f_Kind := 14, f_Flags := x7_77 } : lex_Token))))) h118 (ldv_of (ld_agg (M := Mt) (t := 46) f132 T.ag46 (by rw [lex_Token.enc.len]; exact T.sz46) Seg.refl)) (resT' (v := (.int .i64 (IntKind.i64.wrap (3 + ((x7_77.size : Int)))))) rfl (resT' (v := (.int .i64 (0))) rfl resN))) (fm_cons (flat_agg lex_Token.enc _) (fm_cons rfl (fm_cons rfl fm_nil)))
            · replace hm := cond_f hm g129
              refine tk_os okM hok fun J hJ => ?_
              rw [C.f38r15]
              refine rn_app_k (fun ⟨σ, H, _⟩ => Lk σ 2 (.pointer (some ⟨b1, 0, none⟩)) ∧ Lk σ 7 (.string (x7_77)) ∧ Lk σ 9 (.int .i32 (((Utf8.decode x78 x79).1 : Int))) ∧ Lk σ 30 (.pointer (some ⟨b62, 0, none⟩)) ∧ Lk σ 52 (.bool ((!decide ((((Utf8.decode x78 x79).1 : Int)) = 105)) && (!decide ((((Utf8.decode x78 x79).1 : Int)) = 109)))) ∧ H[b1]? = some (.cells (lex_Token.c x76) 46) ∧ H[b62]? = some (.iter x78 (x79 + (Utf8.decode x78 x79).2)) ∧ Iv c.nb [] H0 H) (fun J hJ => ?_) ?_
              · skip
                cases g145 : !decide ((((Utf8.decode x78 x79).1 : Int)) = 105)
                · skip
                  simp only [C.f38r15p0, R, Nat.reduceEqDiff, h120, g145]
                  refine hJ _ ?_
                  exact ⟨h118, h119, h120, h121, (by first | rfl | (simp only [g145]; rfl) | simp only [g145, Lk, lookS, lookN, Nat.reduceEqDiff, not_false_eq_true, Bool.true_and, Bool.false_and, Bool.true_or, Bool.false_or, cond_true, cond_false]), f123, f124, i125⟩
                · skip
                  simp only [C.f38r15p0, R, Nat.reduceEqDiff, h120, g145]
                  refine hJ _ ?_
                  exact ⟨h118, h119, h120, h121, (by first | rfl | (simp only [g145]; rfl) | simp only [g145, Lk, lookS, lookN, Nat.reduceEqDiff, not_false_eq_true, Bool.true_and, Bool.false_and, Bool.true_or, Bool.false_or, cond_true, cond_false]), f123, f124, i125⟩
              rintro ⟨σ146, H136, d147⟩ ⟨h137, h138, h139, h140, h141, f142, f143, i144⟩
              refine rn_app_k (fun ⟨σ, H, _⟩ => Lk σ 2 (.pointer (some ⟨b1, 0, none⟩)) ∧ Lk σ 7 (.string (x7_77)) ∧ Lk σ 9 (.int .i32 (((Utf8.decode x78 x79).1 : Int))) ∧ Lk σ 30 (.pointer (some ⟨b62, 0, none⟩)) ∧ Lk σ 56 (.bool (((!decide ((((Utf8.decode x78 x79).1 : Int)) = 105)) && (!decide ((((Utf8.decode x78 x79).1 : Int)) = 109))) && (!decide ((((Utf8.decode x78 x79).1 : Int)) = 115)))) ∧ H[b1]? = some (.cells (lex_Token.c x76) 46) ∧ H[b62]? = some (.iter x78 (x79 + (Utf8.decode x78 x79).2)) ∧ Iv c.nb [] H0 H) (fun J hJ => ?_) ?_
              · skip
                cases g157 : (!decide ((((Utf8.decode x78 x79).1 : Int)) = 105)) && (!decide ((((Utf8.decode x78 x79).1 : Int)) = 109))
                · skip
                  simp only [C.f38r15p1, R, Nat.reduceEqDiff, h141, g157]
                  refine hJ _ ?_
                  exact ⟨h137, h138, h139, h140, (by first | rfl | (simp only [g157]; rfl) | simp only [g157, Lk, lookS, lookN, Nat.reduceEqDiff, not_false_eq_true, Bool.true_and, Bool.false_and, Bool.true_or, Bool.false_or, cond_true, cond_false]), f142, f143, i144⟩
                · skip
                  simp only [C.f38r15p1, R, Nat.reduceEqDiff, h141, g157, h139]
                  refine hJ _ ?_
                  exact ⟨h137, h138, h139, h140, (by first | rfl | (simp only [g157]; rfl) | simp only [g157, Lk, lookS, lookN, Nat.reduceEqDiff, not_false_eq_true, Bool.true_and, Bool.false_and, Bool.true_or, Bool.false_or, cond_true, cond_false]), f142, f143, i144⟩
              rintro ⟨σ158, H148, d159⟩ ⟨h149, h150, h151, h152, h153, f154, f155, i156⟩
              obtain ⟨y162, ey162, hm⟩ := bind_s hm
              refine rn_app_k (fun ⟨σ, H, _⟩ => Lk σ 2 (.pointer (some ⟨b1, 0, none⟩)) ∧ Lk σ 7 (.string (x7_77)) ∧ Lk σ 9 (.int .i32 (((Utf8.decode x78 x79).1 : Int))) ∧ Lk σ 30 (.pointer (some ⟨b62, 0, none⟩)) ∧ Lk σ 61 (.bool (y162)) ∧ H[b1]? = some (.cells (lex_Token.c x76) 46) ∧ H[b62]? = some (.iter x78 (x79 + (Utf8.decode x78 x79).2)) ∧ Iv c.nb [] H0 H) (fun J hJ => ?_) ?_
              · skip
                cases g172 : ((!decide ((((Utf8.decode x78 x79).1 : Int)) = 105)) && (!decide ((((Utf8.decode x78 x79).1 : Int)) = 109))) && (!decide ((((Utf8.decode x78 x79).1 : Int)) = 115))
                · skip
                  have ey162 := cond_f ey162 g172
                  obtain ⟨v174, ev174, ey162⟩ := bind_s ey162
                  have a173 := ha_lex_hasRune c.ro H148 x7_77 (((Utf8.decode x78 x79).1 : Int)) v174 ev174
                  obtain rfl := Option.some.inj ey162
                  simp only [C.f38r15p2, R, Nat.reduceEqDiff, h153, g172, h150, h151, c_fn F50, a173]
                  refine hJ _ ?_
                  exact ⟨h149, h150, h151, h152, (by first | rfl | (simp only [g172]; rfl) | simp only [g172, Lk, lookS, lookN, Nat.reduceEqDiff, not_false_eq_true, Bool.true_and, Bool.false_and, Bool.true_or, Bool.false_or, cond_true, cond_false]), f154, f155, i156⟩
                · skip
                  have ey162 := cond_t ey162 g172
                  obtain rfl := Option.some.inj ey162
                  simp only [C.f38r15p2, R, Nat.reduceEqDiff, h153, g172]
                  refine hJ _ ?_
                  exact ⟨h149, h150, h151, h152, (by first | rfl | (simp only [g172]; rfl) | simp only [g172, Lk, lookS, lookN, Nat.reduceEqDiff, not_false_eq_true, Bool.true_and, Bool.false_and, Bool.true_or, Bool.false_or, cond_true, cond_false]), f154, f155, i156⟩
              rintro ⟨σ175, H163, d176⟩ ⟨h164, h165, h166, h167, h168, f169, f170, i171⟩
              simp only [C.f38r15p3, R, Nat.reduceEqDiff, h168]
              refine hJ _ ?_
              refine tk_cond (t := y162) rfl (fun g177 => ?_) (fun g177 => ?_)
              · replace hm := cond_t hm g177
                refine tk_os okM hok fun J hJ => ?_
                obtain ⟨H178, a179, f180, u181⟩ := st_ok (M := Mt) (t := 46) (v := (vAgg (lex_Token.c (lex_Token.zero)))) (c := lex_Token.c lex_Token.zero) (cs' := lex_Token.c lex_Token.zero) f169 (by rw [lex_Token.enc.len]; exact T.sz46) vAgg_cells (lex_Token.enc.one _) (Nat.le_trans hcn r6) (le0 lex_Token.enc.len) (wrs_all (eqL lex_Token.enc.len))
                have i182 := i171.up u181 r6
                have f183 := (u181.get _ (ne_len f38 q66).symm).trans f170
                simp only [C.f38r16, R, Nat.reduceEqDiff, bd46_, a179, h164]
                refine hJ _ ?_
                refine tk_ret okM ?_
                refine x116 _ _ (by simp) (by simp) ?_
                refine x113 _ _ (by simp) ?_
                refine x111 _ _ (by simp) (by simp) ?_
                refine x81 _ _ (by simp) ?_
                refine x75 _ _ (by simp) (by simp) ?_
                refine x60 _ _ (by simp) ?_
                obtain rfl := Option.some.inj hm
                exact end_flat (.inl rfl) (vs := [(vAgg (lex_Token.c (lex_Token.zero))), (.int .i64 (0)), (.int .i64 (3))]) (resC' (v := (vAgg (lex_Token.c (lex_Token.zero)))) h164 (ldv_of (ld_agg (M := Mt) (t := 46) f180 T.ag46 (by rw [lex_Token.enc.len]; exact T.sz46) Seg.refl)) (resT' (v := (.int .i64 (0))) rfl (resT' (v := (.int .i64 (3))) rfl resN))) (fm_cons (flat_agg lex_Token.enc _) (fm_cons rfl (fm_cons rfl fm_nil)))
              · replace hm := cond_f hm g177
                refine tk_skip okM ?_
                refine n114 _ ?_
                refine n112 _ ?_
                refine tk_oe okM hok fun J hJ => ?_
                obtain ⟨v184, ev184, hm⟩ := bind_s hm
                simp only [C.f38r17, R, Nat.reduceEqDiff, h165, h166, cv_r2s (M := Mt) Tryd.underlying21 Tryd.underlying9, ev184]
                refine hJ _ ?_
                refine n109 _ ?_
                refine n80 _ ?_
                exact ⟨x76, v184, x78, x79 + (Utf8.decode x78 x79).2, hm, h164, rfl, h167, f169, f170, i171⟩

-- clew/lex.quant
def b_lex_quant_2 (c_strings_HasPrefix : T_strings_HasPrefix) (c_lex_counted : T_lex_counted) (n : Nat) (x42 : lex_Token) (x43 : lex_Token) (x6_44 : Int) : Option (lex_Token × Int × Int) := some (x43, x6_44, 0)
def b_lex_quant_1 (c_strings_HasPrefix : T_strings_HasPrefix) (c_lex_counted : T_lex_counted) (n : Nat) (x0_28 : ByteArray) (x29 : lex_Token) (x30 : lex_Token) (x6_31 : Int) : Option (lex_Token × Int × Int) := (sub x0_28 x6_31 x0_28.size).bind fun v66 => (c_strings_HasPrefix v66 ((⟨#[63]⟩ : ByteArray))).bind fun v68 => bif v68 then (b_lex_quant_2 c_strings_HasPrefix c_lex_counted n x29 ({ x30 with f_Mode := 1 }) (IntKind.i64.wrap (x6_31 + 1))) else ((c_strings_HasPrefix v66 ((⟨#[43]⟩ : ByteArray))).bind fun v77 => bif v77 then (b_lex_quant_2 c_strings_HasPrefix c_lex_counted n x29 ({ x30 with f_Mode := 2 }) (IntKind.i64.wrap (x6_31 + 1))) else (b_lex_quant_2 c_strings_HasPrefix c_lex_counted n x29 x30 x6_31))
def b_lex_quant (c_strings_HasPrefix : T_strings_HasPrefix) (c_lex_counted : T_lex_counted) (n : Nat) (x0 : ByteArray) : Option (lex_Token × Int × Int) := (bt x0 0).bind fun v87 => bif decide (v87 = 43) then (b_lex_quant_1 c_strings_HasPrefix c_lex_counted n x0 lex_Token.zero ({ ({ lex_Token.zero with f_Kind := 16, f_Max := (-1) } : lex_Token) with f_Min := 1 }) 1) else (bif decide (v87 = 63) then (b_lex_quant_1 c_strings_HasPrefix c_lex_counted n x0 lex_Token.zero ({ ({ lex_Token.zero with f_Kind := 16, f_Max := (-1) } : lex_Token) with f_Max := 1 }) 1) else (bif decide (v87 = 123) then ((c_lex_counted x0).bind fun v107 => bif decide (v107.2.2 = 0) then (some (lex_Token.zero, 0, 3)) else (bif decide (100 < (max (({ { ({ lex_Token.zero with f_Kind := 16, f_Max := (-1) } : lex_Token) with f_Min := v107.1 } with f_Max := v107.2.1 }).f_Min) (({ { ({ lex_Token.zero with f_Kind := 16, f_Max := (-1) } : lex_Token) with f_Min := v107.1 } with f_Max := v107.2.1 }).f_Max))) then (some (lex_Token.zero, 0, 4)) else (bif (!decide ((({ { ({ lex_Token.zero with f_Kind := 16, f_Max := (-1) } : lex_Token) with f_Min := v107.1 } with f_Max := v107.2.1 }).f_Max) = ((-1)))) && (decide ((({ { ({ lex_Token.zero with f_Kind := 16, f_Max := (-1) } : lex_Token) with f_Min := v107.1 } with f_Max := v107.2.1 }).f_Max) < (({ { ({ lex_Token.zero with f_Kind := 16, f_Max := (-1) } : lex_Token) with f_Min := v107.1 } with f_Max := v107.2.1 }).f_Min))) then (some (lex_Token.zero, 0, 3)) else (b_lex_quant_1 c_strings_HasPrefix c_lex_counted n x0 lex_Token.zero ({ { ({ lex_Token.zero with f_Kind := 16, f_Max := (-1) } : lex_Token) with f_Min := v107.1 } with f_Max := v107.2.1 }) v107.2.2)))) else (b_lex_quant_1 c_strings_HasPrefix c_lex_counted n x0 lex_Token.zero (({ lex_Token.zero with f_Kind := 16, f_Max := (-1) } : lex_Token)) 1)))

theorem w_lex_quant {call : CallF} (hok : CallOk Mt call) {n : Nat} {c_strings_HasPrefix : T_strings_HasPrefix} (ha_strings_HasPrefix : A_strings_HasPrefix call c_strings_HasPrefix) {c_lex_counted : T_lex_counted} (ha_lex_counted : A_lex_counted call c_lex_counted) {H0 : Hp} {x0 : ByteArray} {r : lex_Token × Int × Int} {ro : Nat} (hro : ro ≤ H0.length) (hm : b_lex_quant c_strings_HasPrefix c_lex_counted n x0 = some r) :
    Pt Mt ro 39 [(.string x0)] H0 (.tuple [(vAgg (lex_Token.c (r.1))), (.int .i64 (r.2.1)), (.int .i64 (r.2.2))].toArray) H0 [] := by
  refine pt_new0 okM F39d (by exact Nat.le_of_ble_eq_true rfl) ?_ hro
  intro c hnt hnb hcr
  have hcn : c.ro ≤ c.nb := by omega
  have iv : Iv c.nb [] H0 H0 := by rw [hnb]; exact iv_refl
  rw [show args0 [(.string x0)] = [(0, (.string x0))] from rfl]
  rw [b_lex_quant] at hm
  simp only [C.f39]
  refine tk_os okM hok fun J hJ => ?_
  obtain ⟨b1, H2, a3, f4, q5, r6, x7, i8⟩ := al_ok H0 46 (lex_Token.c lex_Token.zero) iv.le
  have i9 := i8 _ _ iv
  simp only [C.f39r0, R, Nat.reduceEqDiff, zs46, a3]
  refine hJ _ ?_
  refine tk_os okM hok fun J hJ => ?_
  obtain ⟨b11, H12, a13, f14, q15, r16, x17, i18⟩ := al_ok H2 46 (lex_Token.c lex_Token.zero) i9.le
  have i19 := i18 _ _ i9
  have f20 := x17 _ _ f4
  obtain ⟨H22, a23, f24, u25⟩ := st_ok (M := Mt) (t := 46) (v := (vAgg (lex_Token.c (({ lex_Token.zero with f_Kind := 16, f_Max := (-1) } : lex_Token))))) (c := lex_Token.c (({ lex_Token.zero with f_Kind := 16, f_Max := (-1) } : lex_Token))) (cs' := lex_Token.c (({ lex_Token.zero with f_Kind := 16, f_Max := (-1) } : lex_Token))) f14 (by rw [lex_Token.enc.len]; exact T.sz46) vAgg_cells (lex_Token.enc.one _) (Nat.le_trans hcn r16) (le0 lex_Token.enc.len) (wrs_all (eqL lex_Token.enc.len))
  have i26 := i19.up u25 r16
  have f27 := (u25.get _ (ne_len f4 q15)).trans f20
  simp only [C.f39r1, R, Nat.reduceEqDiff, bd46_0_3, zs46, a13, a23]
  refine hJ _ ?_
  refine tk_seq_j (fun ⟨σ, H, _⟩ => ∃ x0_28 x29 x30 x6_31, b_lex_quant_1 c_strings_HasPrefix c_lex_counted n x0_28 x29 x30 x6_31 = some r ∧ Lk σ 0 (.string x0_28) ∧ Lk σ 2 (.pointer (some ⟨b1, 0, none⟩)) ∧ Lk σ 5 (.pointer (some ⟨b11, 0, none⟩)) ∧ Lk σ 6 (.int .i64 x6_31) ∧ H[b1]? = some (.cells (lex_Token.c x29) 46) ∧ H[b11]? = some (.cells (lex_Token.c x30) 46) ∧ Iv c.nb [] H0 H) ?_ ?_
  · skip
    rintro ⟨σ40, H32, d41⟩ ⟨x0_28, x29, x30, x6_31, hm, h33, h34, h35, h36, f37, f38, i39⟩
    rw [b_lex_quant_1] at hm
    refine tk_seq_j (fun ⟨σ, H, _⟩ => ∃ x42 x43 x6_44, b_lex_quant_2 c_strings_HasPrefix c_lex_counted n x42 x43 x6_44 = some r ∧ Lk σ 2 (.pointer (some ⟨b1, 0, none⟩)) ∧ Lk σ 5 (.pointer (some ⟨b11, 0, none⟩)) ∧ Lk σ 6 (.int .i64 x6_44) ∧ H[b1]? = some (.cells (lex_Token.c x42) 46) ∧ H[b11]? = some (.cells (lex_Token.c x43) 46) ∧ Iv c.nb [] H0 H) ?_ ?_
    · skip
      rintro ⟨σ52, H45, d53⟩ ⟨x42, x43, x6_44, hm, h46, h47, h48, f49, f50, i51⟩
      rw [b_lex_quant_2] at hm
      refine tk_os okM hok fun J hJ => ?_
      have a54 := ld_agg (M := Mt) (t := 46) f50 T.ag46 (by rw [lex_Token.enc.len]; exact T.sz46) Seg.refl
      obtain ⟨H55, a56, f57, u58⟩ := st_ok (M := Mt) (t := 46) (v := (vAgg (lex_Token.c (x43)))) (c := lex_Token.c x43) (cs' := lex_Token.c x43) f49 (by rw [lex_Token.enc.len]; exact T.sz46) vAgg_cells (lex_Token.enc.one _) (Nat.le_trans hcn r6) (le0 lex_Token.enc.len) (wrs_all (eqL lex_Token.enc.len))
      have i59 := i51.up u58 r6
      have f60 := (u58.get _ (ne_len f4 q15).symm).trans f50
      simp only [C.f39r21, R, Nat.reduceEqDiff, a54, h47, h48, a56, h46]
      refine hJ _ ?_
      refine tk_ret okM ?_
      obtain rfl := Option.some.inj hm
      exact end_flat (.inl rfl) (vs := [(vAgg (lex_Token.c (x43))), (.int .i64 (x6_44)), (.int .i64 (0))]) (resC' (v := (vAgg (lex_Token.c (x43)))) h46 (ldv_of (ld_agg (M := Mt) (t := 46) f57 T.ag46 (by rw [lex_Token.enc.len]; exact T.sz46) Seg.refl)) (resT' (v := (.int .i64 (x6_44))) rfl (resT' (v := (.int .i64 (0))) rfl resN))) (fm_cons (flat_agg lex_Token.enc _) (fm_cons rfl (fm_cons rfl fm_nil)))
    · refine fun K n61 x62 => ?_
      refine tk_block_k fun K n63 e64 x65 => ?_
      refine tk_os okM hok fun J hJ => ?_
      obtain ⟨v66, ev66, hm⟩ := bind_s hm
      obtain ⟨v68, ev68, hm⟩ := bind_s hm
      have a67 := ha_strings_HasPrefix c.ro H32 v66 ((⟨#[63]⟩ : ByteArray)) v68 ev68
      simp only [C.f39r15, R, Nat.reduceEqDiff, h33, h36, sl_str (M := Mt) Tryd.underlying9, ev66, c_fn F26, a67]
      refine hJ _ ?_
      refine tk_cond (t := v68) rfl (fun g69 => ?_) (fun g69 => ?_)
      · replace hm := cond_t hm g69
        refine tk_os okM hok fun J hJ => ?_
        obtain ⟨H70, a71, f72, u73⟩ := st_ok (M := Mt) (t := 3) (v := (.int .i64 (1))) (c := (cInt .i64) 1) (cs' := lex_Token.c ({ x30 with f_Mode := 1 })) f38 (by rw [enc_int.len]; exact T.sz3) rfl (enc_int.one _) (Nat.le_trans hcn r16) (Nat.le_trans (Nat.le_of_eq (congrArg _ (eqL enc_int.len))) (Seg.refl.sub (lex_Token.seg4 x30)).2) (by rw [Nat.zero_add, lex_Token.wr4 x30 1])
        have i74 := i39.up u73 r16
        have f75 := (u73.get _ (ne_len f4 q15)).trans f37
        simp only [C.f39r16, R, Nat.reduceEqDiff, fa46_4, h35, a71]
        refine hJ _ ?_
        refine tk_oe okM hok fun J hJ => ?_
        simp only [C.f39r17, R, Nat.reduceEqDiff, h36]
        refine hJ _ ?_
        refine n63 _ ?_
        refine n61 _ ?_
        exact ⟨x29, { x30 with f_Mode := 1 }, IntKind.i64.wrap (x6_31 + 1), hm, h34, h35, rfl, f75, f72, i74⟩
      · replace hm := cond_f hm g69
        refine tk_os okM hok fun J hJ => ?_
        obtain ⟨v77, ev77, hm⟩ := bind_s hm
        have a76 := ha_strings_HasPrefix c.ro H32 v66 ((⟨#[43]⟩ : ByteArray)) v77 ev77
        simp only [C.f39r18, R, Nat.reduceEqDiff, h33, h36, sl_str (M := Mt) Tryd.underlying9, ev66, c_fn F26, a76]
        refine hJ _ ?_
        refine tk_cond (t := v77) rfl (fun g78 => ?_) (fun g78 => ?_)
        · replace hm := cond_t hm g78
          refine tk_os okM hok fun J hJ => ?_
          obtain ⟨H79, a80, f81, u82⟩ := st_ok (M := Mt) (t := 3) (v := (.int .i64 (2))) (c := (cInt .i64) 2) (cs' := lex_Token.c ({ x30 with f_Mode := 2 })) f38 (by rw [enc_int.len]; exact T.sz3) rfl (enc_int.one _) (Nat.le_trans hcn r16) (Nat.le_trans (Nat.le_of_eq (congrArg _ (eqL enc_int.len))) (Seg.refl.sub (lex_Token.seg4 x30)).2) (by rw [Nat.zero_add, lex_Token.wr4 x30 2])
          have i83 := i39.up u82 r16
          have f84 := (u82.get _ (ne_len f4 q15)).trans f37
          simp only [C.f39r19, R, Nat.reduceEqDiff, fa46_4, h35, a80]
          refine hJ _ ?_
          refine tk_oe okM hok fun J hJ => ?_
          simp only [C.f39r20, R, Nat.reduceEqDiff, h36]
          refine hJ _ ?_
          refine n63 _ ?_
          refine n61 _ ?_
          exact ⟨x29, { x30 with f_Mode := 2 }, IntKind.i64.wrap (x6_31 + 1), hm, h34, h35, rfl, f84, f81, i83⟩
        · replace hm := cond_f hm g78
          refine tk_skip okM ?_
          refine n63 _ ?_
          refine n61 _ ?_
          exact ⟨x29, x30, x6_31, hm, h34, h35, h36, f37, f38, i39⟩
  · refine fun K n85 x86 => ?_
    refine tk_os okM hok fun J hJ => ?_
    obtain ⟨v87, ev87, hm⟩ := bind_s hm
    simp only [C.f39r2, R, Nat.reduceEqDiff, idxP_str (M := Mt) Tryd.underlying9, ev87]
    refine hJ _ ?_
    refine tk_block_k fun K n88 e89 x90 => ?_
    refine tk_os okM hok fun J hJ => ?_
    simp only [C.f39r3, R, Nat.reduceEqDiff]
    refine hJ _ ?_
    refine tk_cond (t := decide (v87 = 43)) rfl (fun g91 => ?_) (fun g91 => ?_)
    · replace hm := cond_t hm g91
      refine tk_oe okM hok fun J hJ => ?_
      obtain ⟨H92, a93, f94, u95⟩ := st_ok (M := Mt) (t := 3) (v := (.int .i64 (1))) (c := (cInt .i64) 1) (cs' := lex_Token.c ({ ({ lex_Token.zero with f_Kind := 16, f_Max := (-1) } : lex_Token) with f_Min := 1 })) f24 (by rw [enc_int.len]; exact T.sz3) rfl (enc_int.one _) (Nat.le_trans hcn r16) (Nat.le_trans (Nat.le_of_eq (congrArg _ (eqL enc_int.len))) (Seg.refl.sub (lex_Token.seg2 (({ lex_Token.zero with f_Kind := 16, f_Max := (-1) } : lex_Token)))).2) (by rw [Nat.zero_add, lex_Token.wr2 (({ lex_Token.zero with f_Kind := 16, f_Max := (-1) } : lex_Token)) 1])
      have i96 := i26.up u95 r16
      have f97 := (u95.get _ (ne_len f4 q15)).trans f27
      simp only [C.f39r4, R, Nat.reduceEqDiff, fa46_2, a93]
      refine hJ _ ?_
      refine n88 _ ?_
      refine n85 _ ?_
      exact ⟨x0, lex_Token.zero, { ({ lex_Token.zero with f_Kind := 16, f_Max := (-1) } : lex_Token) with f_Min := 1 }, 1, hm, rfl, rfl, rfl, rfl, f97, f94, i96⟩
    · replace hm := cond_f hm g91
      refine tk_os okM hok fun J hJ => ?_
      simp only [C.f39r5, R, Nat.reduceEqDiff]
      refine hJ _ ?_
      refine tk_cond (t := decide (v87 = 63)) rfl (fun g98 => ?_) (fun g98 => ?_)
      · replace hm := cond_t hm g98
        refine tk_oe okM hok fun J hJ => ?_
        obtain ⟨H99, a100, f101, u102⟩ := st_ok (M := Mt) (t := 3) (v := (.int .i64 (1))) (c := (cInt .i64) 1) (cs' := lex_Token.c ({ ({ lex_Token.zero with f_Kind := 16, f_Max := (-1) } : lex_Token) with f_Max := 1 })) f24 (by rw [enc_int.len]; exact T.sz3) rfl (enc_int.one _) (Nat.le_trans hcn r16) (Nat.le_trans (Nat.le_of_eq (congrArg _ (eqL enc_int.len))) (Seg.refl.sub (lex_Token.seg3 (({ lex_Token.zero with f_Kind := 16, f_Max := (-1) } : lex_Token)))).2) (by rw [Nat.zero_add, lex_Token.wr3 (({ lex_Token.zero with f_Kind := 16, f_Max := (-1) } : lex_Token)) 1])
        have i103 := i26.up u102 r16
        have f104 := (u102.get _ (ne_len f4 q15)).trans f27
        simp only [C.f39r6, R, Nat.reduceEqDiff, fa46_3, a100]
        refine hJ _ ?_
        refine n88 _ ?_
        refine n85 _ ?_
        exact ⟨x0, lex_Token.zero, { ({ lex_Token.zero with f_Kind := 16, f_Max := (-1) } : lex_Token) with f_Max := 1 }, 1, hm, rfl, rfl, rfl, rfl, f104, f101, i103⟩
      · replace hm := cond_f hm g98
        refine tk_os okM hok fun J hJ => ?_
        simp only [C.f39r7, R, Nat.reduceEqDiff]
        refine hJ _ ?_
        refine tk_cond (t := decide (v87 = 123)) rfl (fun g105 => ?_) (fun g105 => ?_)
        · replace hm := cond_t hm g105
          refine tk_os okM hok fun J hJ => ?_
          obtain ⟨v107, ev107, hm⟩ := bind_s hm
          have a106 := ha_lex_counted c.ro H22 x0 v107 ev107
          obtain ⟨H108, a109, f110, u111⟩ := st_ok (M := Mt) (t := 3) (v := (.int .i64 (v107.1))) (c := (cInt .i64) v107.1) (cs' := lex_Token.c ({ ({ lex_Token.zero with f_Kind := 16, f_Max := (-1) } : lex_Token) with f_Min := v107.1 })) f24 (by rw [enc_int.len]; exact T.sz3) rfl (enc_int.one _) (Nat.le_trans hcn r16) (Nat.le_trans (Nat.le_of_eq (congrArg _ (eqL enc_int.len))) (Seg.refl.sub (lex_Token.seg2 (({ lex_Token.zero with f_Kind := 16, f_Max := (-1) } : lex_Token)))).2) (by rw [Nat.zero_add, lex_Token.wr2 (({ lex_Token.zero with f_Kind := 16, f_Max := (-1) } : lex_Token)) v107.1])
          have i112 := i26.up u111 r16
          have f113 := (u111.get _ (ne_len f4 q15)).trans f27
          obtain ⟨H114, a115, f116, u117⟩ := st_ok (M := Mt) (t := 3) (v := (.int .i64 (v107.2.1))) (c := (cInt .i64) v107.2.1) (cs' := lex_Token.c ({ { ({ lex_Token.zero with f_Kind := 16, f_Max := (-1) } : lex_Token) with f_Min := v107.1 } with f_Max := v107.2.1 })) f110 (by rw [enc_int.len]; exact T.sz3) rfl (enc_int.one _) (Nat.le_trans hcn r16) (Nat.le_trans (Nat.le_of_eq (congrArg _ (eqL enc_int.len))) (Seg.refl.sub (lex_Token.seg3 ({ ({ lex_Token.zero with f_Kind := 16, f_Max := (-1) } : lex_Token) with f_Min := v107.1 }))).2) (by rw [Nat.zero_add, lex_Token.wr3 ({ ({ lex_Token.zero with f_Kind := 16, f_Max := (-1) } : lex_Token) with f_Min := v107.1 }) v107.2.1])
          have i118 := i112.up u117 r16
          have f119 := (u117.get _ (ne_len f4 q15)).trans f113
          simp only [C.f39r8, R, Nat.reduceEqDiff, c_fn F51, a106, fa46_2, a109, fa46_3, a115]
          refine hJ _ ?_
          refine tk_block_k fun K n120 e121 x122 => ?_
          refine tk_os okM hok fun J hJ => ?_
          simp only [C.f39r9, R, Nat.reduceEqDiff]
          refine hJ _ ?_
          refine tk_cond (t := decide (v107.2.2 = 0)) rfl (fun g123 => ?_) (fun g123 => ?_)
          · replace hm := cond_t hm g123
            refine tk_os okM hok fun J hJ => ?_
            obtain ⟨H124, a125, f126, u127⟩ := st_ok (M := Mt) (t := 46) (v := (vAgg (lex_Token.c (lex_Token.zero)))) (c := lex_Token.c lex_Token.zero) (cs' := lex_Token.c lex_Token.zero) f119 (by rw [lex_Token.enc.len]; exact T.sz46) vAgg_cells (lex_Token.enc.one _) (Nat.le_trans hcn r6) (le0 lex_Token.enc.len) (wrs_all (eqL lex_Token.enc.len))
            have i128 := i118.up u127 r6
            have f129 := (u127.get _ (ne_len f4 q15).symm).trans f116
            simp only [C.f39r10, R, Nat.reduceEqDiff, bd46_, a125]
            refine hJ _ ?_
            refine tk_ret okM ?_
            refine x122 _ _ (by simp) (by simp) ?_
            refine x90 _ _ (by simp) (by simp) ?_
            refine x86 _ _ (by simp) ?_
            obtain rfl := Option.some.inj hm
            exact end_flat (.inl rfl) (vs := [(vAgg (lex_Token.c (lex_Token.zero))), (.int .i64 (0)), (.int .i64 (3))]) (resC' (v := (vAgg (lex_Token.c (lex_Token.zero)))) rfl (ldv_of (ld_agg (M := Mt) (t := 46) f126 T.ag46 (by rw [lex_Token.enc.len]; exact T.sz46) Seg.refl)) (resT' (v := (.int .i64 (0))) rfl (resT' (v := (.int .i64 (3))) rfl resN))) (fm_cons (flat_agg lex_Token.enc _) (fm_cons rfl (fm_cons rfl fm_nil)))
          · replace hm := cond_f hm g123
            refine tk_os okM hok fun J hJ => ?_
            have a130 := ld_one (M := Mt) (t := 3) f116 T.ag3 (Seg.refl.sub (lex_Token.seg2 ({ { ({ lex_Token.zero with f_Kind := 16, f_Max := (-1) } : lex_Token) with f_Min := v107.1 } with f_Max := v107.2.1 })))
            have a131 := ld_one (M := Mt) (t := 3) f116 T.ag3 (Seg.refl.sub (lex_Token.seg3 ({ { ({ lex_Token.zero with f_Kind := 16, f_Max := (-1) } : lex_Token) with f_Min := v107.1 } with f_Max := v107.2.1 })))
            simp only [C.f39r11, R, Nat.reduceEqDiff, fa46_2, a130, fa46_3, a131]
            refine hJ _ ?_
            refine tk_cond (t := decide (100 < (max (({ { ({ lex_Token.zero with f_Kind := 16, f_Max := (-1) } : lex_Token) with f_Min := v107.1 } with f_Max := v107.2.1 }).f_Min) (({ { ({ lex_Token.zero with f_Kind := 16, f_Max := (-1) } : lex_Token) with f_Min := v107.1 } with f_Max := v107.2.1 }).f_Max)))) rfl (fun g132 => ?_) (fun g132 => ?_)
            · replace hm := cond_t hm g132
              refine tk_os okM hok fun J hJ => ?_
              obtain ⟨H133, a134, f135, u136⟩ := st_ok (M := Mt) (t := 46) (v := (vAgg (lex_Token.c (lex_Token.zero)))) (c := lex_Token.c lex_Token.zero) (cs' := lex_Token.c lex_Token.zero) f119 (by rw [lex_Token.enc.len]; exact T.sz46) vAgg_cells (lex_Token.enc.one _) (Nat.le_trans hcn r6) (le0 lex_Token.enc.len) (wrs_all (eqL lex_Token.enc.len))
              have i137 := i118.up u136 r6
              have f138 := (u136.get _ (ne_len f4 q15).symm).trans f116
              simp only [C.f39r12, R, Nat.reduceEqDiff, bd46_, a134]
              refine hJ _ ?_
              refine tk_ret okM ?_
              refine x122 _ _ (by simp) (by simp) ?_
              refine x90 _ _ (by simp) (by simp) ?_
              refine x86 _ _ (by simp) ?_
              obtain rfl := Option.some.inj hm
              exact end_flat (.inl rfl) (vs := [(vAgg (lex_Token.c (lex_Token.zero))), (.int .i64 (0)), (.int .i64 (4))]) (resC' (v := (vAgg (lex_Token.c (lex_Token.zero)))) rfl (ldv_of (ld_agg (M := Mt) (t := 46) f135 T.ag46 (by rw [lex_Token.enc.len]; exact T.sz46) Seg.refl)) (resT' (v := (.int .i64 (0))) rfl (resT' (v := (.int .i64 (4))) rfl resN))) (fm_cons (flat_agg lex_Token.enc _) (fm_cons rfl (fm_cons rfl fm_nil)))
            · replace hm := cond_f hm g132
              refine tk_os okM hok fun J hJ => ?_
              rw [C.f39r13]
              have a139 := ld_one (M := Mt) (t := 3) f116 T.ag3 (Seg.refl.sub (lex_Token.seg3 ({ { ({ lex_Token.zero with f_Kind := 16, f_Max := (-1) } : lex_Token) with f_Min := v107.1 } with f_Max := v107.2.1 })))
              refine rn_app_k (fun ⟨σ, H, _⟩ => Lk σ 0 (.string (x0)) ∧ Lk σ 2 (.pointer (some ⟨b1, 0, none⟩)) ∧ Lk σ 5 (.pointer (some ⟨b11, 0, none⟩)) ∧ Lk σ 6 (.int .i64 (v107.2.2)) ∧ Lk σ 48 (.bool ((!decide ((({ { ({ lex_Token.zero with f_Kind := 16, f_Max := (-1) } : lex_Token) with f_Min := v107.1 } with f_Max := v107.2.1 }).f_Max) = ((-1)))) && (decide ((({ { ({ lex_Token.zero with f_Kind := 16, f_Max := (-1) } : lex_Token) with f_Min := v107.1 } with f_Max := v107.2.1 }).f_Max) < (({ { ({ lex_Token.zero with f_Kind := 16, f_Max := (-1) } : lex_Token) with f_Min := v107.1 } with f_Max := v107.2.1 }).f_Min))))) ∧ H[b1]? = some (.cells (lex_Token.c lex_Token.zero) 46) ∧ H[b11]? = some (.cells (lex_Token.c ({ { ({ lex_Token.zero with f_Kind := 16, f_Max := (-1) } : lex_Token) with f_Min := v107.1 } with f_Max := v107.2.1 })) 46) ∧ Iv c.nb [] H0 H) (fun J hJ => ?_) ?_
              · skip
                cases g151 : !decide ((({ { ({ lex_Token.zero with f_Kind := 16, f_Max := (-1) } : lex_Token) with f_Min := v107.1 } with f_Max := v107.2.1 }).f_Max) = ((-1)))
                · skip
                  simp only [C.f39r13p0, R, Nat.reduceEqDiff, fa46_3, a139, g151]
                  refine hJ _ ?_
                  exact ⟨(by first | rfl | (simp only [g151]; rfl) | simp only [g151, Lk, lookS, lookN, Nat.reduceEqDiff, not_false_eq_true, Bool.true_and, Bool.false_and, Bool.true_or, Bool.false_or, cond_true, cond_false]), rfl, rfl, (by first | rfl | (simp only [g151]; rfl) | simp only [g151, Lk, lookS, lookN, Nat.reduceEqDiff, not_false_eq_true, Bool.true_and, Bool.false_and, Bool.true_or, Bool.false_or, cond_true, cond_false]), (by first | rfl | (simp only [g151]; rfl) | simp only [g151, Lk, lookS, lookN, Nat.reduceEqDiff, not_false_eq_true, Bool.true_and, Bool.false_and, Bool.true_or, Bool.false_or, cond_true, cond_false]), f119, f116, i118⟩
                · skip
                  have a152 := ld_one (M := Mt) (t := 3) f116 T.ag3 (Seg.refl.sub (lex_Token.seg3 ({ { ({ lex_Token.zero with f_Kind := 16, f_Max := (-1) } : lex_Token) with f_Min := v107.1 } with f_Max := v107.2.1 })))
                  have a153 := ld_one (M := Mt) (t := 3) f116 T.ag3 (Seg.refl.sub (lex_Token.seg2 ({ { ({ lex_Token.zero with f_Kind := 16, f_Max := (-1) } : lex_Token) with f_Min := v107.1 } with f_Max := v107.2.1 })))
                  simp only [C.f39r13p0, R, Nat.reduceEqDiff, fa46_3, a139, g151, a152, fa46_2, a153]
                  refine hJ _ ?_
                  exact ⟨(by first | rfl | (simp only [g151]; rfl) | simp only [g151, Lk, lookS, lookN, Nat.reduceEqDiff, not_false_eq_true, Bool.true_and, Bool.false_and, Bool.true_or, Bool.false_or, cond_true, cond_false]), rfl, rfl, (by first | rfl | (simp only [g151]; rfl) | simp only [g151, Lk, lookS, lookN, Nat.reduceEqDiff, not_false_eq_true, Bool.true_and, Bool.false_and, Bool.true_or, Bool.false_or, cond_true, cond_false]), (by first | rfl | (simp only [g151]; rfl) | simp only [g151, Lk, lookS, lookN, Nat.reduceEqDiff, not_false_eq_true, Bool.true_and, Bool.false_and, Bool.true_or, Bool.false_or, cond_true, cond_false]), f119, f116, i118⟩
              rintro ⟨σ154, H142, d155⟩ ⟨h143, h144, h145, h146, h147, f148, f149, i150⟩
              simp only [C.f39r13p1, R, Nat.reduceEqDiff, h147]
              refine hJ _ ?_
              refine tk_cond (t := (!decide ((({ { ({ lex_Token.zero with f_Kind := 16, f_Max := (-1) } : lex_Token) with f_Min := v107.1 } with f_Max := v107.2.1 }).f_Max) = ((-1)))) && (decide ((({ { ({ lex_Token.zero with f_Kind := 16, f_Max := (-1) } : lex_Token) with f_Min := v107.1 } with f_Max := v107.2.1 }).f_Max) < (({ { ({ lex_Token.zero with f_Kind := 16, f_Max := (-1) } : lex_Token) with f_Min := v107.1 } with f_Max := v107.2.1 }).f_Min)))) rfl (fun g156 => ?_) (fun g156 => ?_)
              · replace hm := cond_t hm g156
                refine tk_os okM hok fun J hJ => ?_
                obtain ⟨H157, a158, f159, u160⟩ := st_ok (M := Mt) (t := 46) (v := (vAgg (lex_Token.c (lex_Token.zero)))) (c := lex_Token.c lex_Token.zero) (cs' := lex_Token.c lex_Token.zero) f148 (by rw [lex_Token.enc.len]; exact T.sz46) vAgg_cells (lex_Token.enc.one _) (Nat.le_trans hcn r6) (le0 lex_Token.enc.len) (wrs_all (eqL lex_Token.enc.len))
                have i161 := i150.up u160 r6
                have f162 := (u160.get _ (ne_len f4 q15).symm).trans f149
                simp only [C.f39r14, R, Nat.reduceEqDiff, bd46_, a158, h144]
                refine hJ _ ?_
                refine tk_ret okM ?_
                refine x122 _ _ (by simp) (by simp) ?_
                refine x90 _ _ (by simp) (by simp) ?_
                refine x86 _ _ (by simp) ?_
                obtain rfl := Option.some.inj hm
                exact end_flat (.inl rfl) (vs := [(vAgg (lex_Token.c (lex_Token.zero))), (.int .i64 (0)), (.int .i64 (3))]) (resC' (v := (vAgg (lex_Token.c (lex_Token.zero)))) h144 (ldv_of (ld_agg (M := Mt) (t := 46) f159 T.ag46 (by rw [lex_Token.enc.len]; exact T.sz46) Seg.refl)) (resT' (v := (.int .i64 (0))) rfl (resT' (v := (.int .i64 (3))) rfl resN))) (fm_cons (flat_agg lex_Token.enc _) (fm_cons rfl (fm_cons rfl fm_nil)))
              · replace hm := cond_f hm g156
                refine tk_skip okM ?_
                refine n120 _ ?_
                refine n88 _ ?_
                refine n85 _ ?_
                exact ⟨x0, lex_Token.zero, { { ({ lex_Token.zero with f_Kind := 16, f_Max := (-1) } : lex_Token) with f_Min := v107.1 } with f_Max := v107.2.1 }, v107.2.2, hm, h143, h144, h145, h146, f148, f149, i150⟩
        · replace hm := cond_f hm g105
          refine tk_skip okM ?_
          refine n88 _ ?_
          refine n85 _ ?_
          exact ⟨x0, lex_Token.zero, ({ lex_Token.zero with f_Kind := 16, f_Max := (-1) } : lex_Token), 1, hm, rfl, rfl, rfl, rfl, f27, f24, i26⟩
end Go.Proofs.YtcjnmmeibppblaaDoor
