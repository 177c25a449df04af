/-
  WHAT THE FUNCTIONS COMPUTE, AS TYPED FUNCTIONS, AND THAT THEY DO: printed by our own mir.py.
-/
import Derived.Test.YtcjnmmeibppblaaDoorClBase
set_option maxRecDepth 100000
set_option linter.unusedVariables false
set_option linter.unusedSimpArgs false
namespace Go.Proofs.YtcjnmmeibppblaaDoor
open Go Go.AM
attribute [local congr] bind_first map_first
-- clew/lex.count
def b_lex_count_1 (c_lex_digit : T_lex_digit) (n : Nat) : Nat → ByteArray → Int → Int → Option (Int × Int)
  | 0, _, _, _ => none
  | k + 1, x0_6, x4_7, x5_8 => (bif (decide (x5_8 < ((x0_6.size : Int)))) && (decide (x5_8 < 3)) then ((bt x0_6 x5_8).bind fun v29 => (c_lex_digit v29 10).bind fun v31 => some (decide (0 ≤ v31))) else some false).bind fun y32 => bif y32 then ((bt x0_6 x5_8).bind fun v49 => (c_lex_digit v49 10).bind fun v51 => b_lex_count_1 c_lex_digit n k x0_6 (IntKind.i64.wrap ((IntKind.i64.wrap (x4_7 * 10)) + v51)) (IntKind.i64.wrap (x5_8 + 1))) else (some (x4_7, x5_8))
def b_lex_count (c_lex_digit : T_lex_digit) (n : Nat) (x0 : ByteArray) : Option (Int × Int) := b_lex_count_1 c_lex_digit n n x0 0 0

theorem w_lex_count {call : CallF} (hok : CallOk Mt call) {n : Nat} {c_lex_digit : T_lex_digit} (ha_lex_digit : A_lex_digit call c_lex_digit) {H0 : Hp} {x0 : ByteArray} {r : Int × Int} {ro : Nat} (hro : ro ≤ H0.length) (hm : b_lex_count c_lex_digit n x0 = some r) :
    Pt Mt ro 61 [(.string x0)] H0 (.tuple [(.int .i64 (r.1)), (.int .i64 (r.2))].toArray) H0 [] := by
  refine pt_new0 okM F61d (by exact Nat.le_of_ble_eq_true rfl) ?_ hro
  intro c hnt hnb hcr
  have hcn : c.ro ≤ c.nb := by omega
  have iv : Iv c.nb [] H0 H0 := by rw [hnb]; exact iv_refl
  rw [show args0 [(.string x0)] = [(0, (.string x0))] from rfl]
  rw [b_lex_count] at hm
  simp only [C.f61, C.f61b0]
  refine tk_os okM hok fun J hJ => ?_
  simp only [C.f61r0, R, Nat.reduceEqDiff]
  refine hJ _ ?_
  refine tk_os okM hok fun J hJ => ?_
  simp only [C.f61r1, R, Nat.reduceEqDiff]
  refine hJ _ ?_
  refine tk_seq_k fun K n1 x2 => ?_
  refine tk_block_k fun K n3 e4 x5 => ?_
  refine tk_loop_k (n := n) (fun k1 ⟨σ, H, _⟩ => ∃ x0_6 x4_7 x5_8, b_lex_count_1 c_lex_digit n k1 x0_6 x4_7 x5_8 = some r ∧ Lk σ 0 (.string x0_6) ∧ Lk σ 4 (.int .i64 x4_7) ∧ Lk σ 5 (.int .i64 x5_8) ∧ Iv c.nb [] H0 H) ?_ ?_ ?_
  · exact ⟨x0, 0, 0, hm, rfl, rfl, rfl, iv⟩
  · rintro ⟨σ, H, d⟩ ⟨_, _, _, hm, _⟩
    cases hm
  · intro k1 K n9 x10
    rintro ⟨σ16, H11, d17⟩ ⟨x0_6, x4_7, x5_8, hm, h12, h13, h14, i15⟩
    rw [b_lex_count_1.eq_2] at hm
    refine tk_seq_k fun K n18 x19 => ?_
    refine tk_os okM hok fun J hJ => ?_
    rw [C.f61r2]
    refine rn_app_k (fun ⟨σ, H, _⟩ => Lk σ 0 (.string (x0_6)) ∧ Lk σ 4 (.int .i64 (x4_7)) ∧ Lk σ 5 (.int .i64 (x5_8)) ∧ Lk σ 13 (.bool ((decide (x5_8 < ((x0_6.size : Int)))) && (decide (x5_8 < 3)))) ∧ Iv c.nb [] H0 H) (fun J hJ => ?_) ?_
    · skip
      cases g26 : decide (x5_8 < ((x0_6.size : Int)))
      · skip
        simp only [C.f61r2p0, R, Nat.reduceEqDiff, h14, h12, len_str (M := Mt) Tryd.underlying9, g26]
        refine hJ _ ?_
        exact ⟨h12, h13, h14, (by first | rfl | (simp only [g26]; rfl) | simp only [g26, Lk, lookS, lookN, Nat.reduceEqDiff, not_false_eq_true, Bool.true_and, Bool.false_and, Bool.true_or, Bool.false_or, cond_true, cond_false]), i15⟩
      · skip
        simp only [C.f61r2p0, R, Nat.reduceEqDiff, h14, h12, len_str (M := Mt) Tryd.underlying9, g26]
        refine hJ _ ?_
        exact ⟨h12, h13, h14, (by first | rfl | (simp only [g26]; rfl) | simp only [g26, Lk, lookS, lookN, Nat.reduceEqDiff, not_false_eq_true, Bool.true_and, Bool.false_and, Bool.true_or, Bool.false_or, cond_true, cond_false]), i15⟩
    rintro ⟨σ27, H20, d28⟩ ⟨h21, h22, h23, h24, i25⟩
    obtain ⟨y32, ey32, hm⟩ := bind_s hm
    refine rn_k (fun ⟨σ, H, _⟩ => Lk σ 0 (.string (x0_6)) ∧ Lk σ 4 (.int .i64 (x4_7)) ∧ Lk σ 5 (.int .i64 (x5_8)) ∧ Lk σ 20 (.bool (y32)) ∧ Iv c.nb [] H0 H) (fun J hJ => ?_) ?_
    · skip
      cases g39 : (decide (x5_8 < ((x0_6.size : Int)))) && (decide (x5_8 < 3))
      · skip
        have ey32 := cond_f ey32 g39
        obtain rfl := Option.some.inj ey32
        simp only [C.f61r2p1, R, Nat.reduceEqDiff, h24, g39]
        refine hJ _ ?_
        exact ⟨h21, h22, h23, (by first | rfl | (simp only [g39]; rfl) | simp only [g39, Lk, lookS, lookN, Nat.reduceEqDiff, not_false_eq_true, Bool.true_and, Bool.false_and, Bool.true_or, Bool.false_or, cond_true, cond_false]), i25⟩
      · skip
        have ey32 := cond_t ey32 g39
        obtain ⟨v40, ev40, ey32⟩ := bind_s ey32
        obtain ⟨v42, ev42, ey32⟩ := bind_s ey32
        have a41 := ha_lex_digit c.ro H20 v40 10 v42 ev42
        obtain rfl := Option.some.inj ey32
        simp only [C.f61r2p1, R, Nat.reduceEqDiff, h24, g39, h21, h23, idxP_str (M := Mt) Tryd.underlying9, ev40, c_fn F52, a41]
        refine hJ _ ?_
        exact ⟨h21, h22, h23, (by first | rfl | (simp only [g39]; rfl) | simp only [g39, Lk, lookS, lookN, Nat.reduceEqDiff, not_false_eq_true, Bool.true_and, Bool.false_and, Bool.true_or, Bool.false_or, cond_true, cond_false]), i25⟩
    rintro ⟨σ43, H33, d44⟩ ⟨h34, h35, h36, h37, i38⟩
    refine hJ _ ?_
    refine tk_cond (t := y32) h37 (fun g45 => ?_) (fun g45 => ?_)
    · replace hm := cond_t hm g45
      refine tk_skip okM ?_
      refine n18 _ ?_
      refine tk_block_k fun K n46 e47 x48 => ?_
      refine tk_os okM hok fun J hJ => ?_
      obtain ⟨v49, ev49, hm⟩ := bind_s hm
      obtain ⟨v51, ev51, hm⟩ := bind_s hm
      have a50 := ha_lex_digit c.ro H33 v49 10 v51 ev51
      simp only [C.f61r3, R, Nat.reduceEqDiff, h35, h34, h36, idxP_str (M := Mt) Tryd.underlying9, ev49, c_fn F52, a50]
      refine hJ _ ?_
      refine tk_oe okM hok fun J hJ => ?_
      simp only [C.f61r4, R, Nat.reduceEqDiff, h36]
      refine hJ _ ?_
      refine n46 _ ?_
      refine n9 _ ?_
      exact ⟨x0_6, IntKind.i64.wrap ((IntKind.i64.wrap (x4_7 * 10)) + v51), IntKind.i64.wrap (x5_8 + 1), hm, h34, rfl, rfl, i38⟩
    · replace hm := cond_f hm g45
      refine tk_exit okM ?_
      refine x19 _ _ (by simp) ?_
      refine x10 _ _ (by simp) ?_
      refine e4 _ ?_
      refine n1 _ ?_
      refine tk_os okM hok fun J hJ => ?_
      simp only [C.f61r5, R, Nat.reduceEqDiff, h35, h36]
      refine hJ _ ?_
      refine tk_ret okM ?_
      obtain rfl := Option.some.inj hm
      exact end_flat (.inl rfl) (vs := [(.int .i64 (x4_7)), (.int .i64 (x5_8))]) (resT' (v := (.int .i64 (x4_7))) rfl (resT' (v := (.int .i64 (x5_8))) rfl resN)) (fm_cons rfl (fm_cons rfl fm_nil))

-- clew/lex.digits
def b_lex_digits (c_class_Range : T_class_Range) (n : Nat) : Option (class_Set) := (c_class_Range 48 57).bind fun v12 => some v12

theorem w_lex_digits {call : CallF} (hok : CallOk Mt call) {n : Nat} {c_class_Range : T_class_Range} (ha_class_Range : A_class_Range call c_class_Range) {H0 : Hp} {r : class_Set} {ro : Nat} (hro : ro ≤ H0.length) (hm : b_lex_digits c_class_Range n = some r) :
    Pt Mt ro 62 [] H0 (vAgg (class_Set.c (r))) H0 [] := by
  refine pt_new0 okM F62d (by exact Nat.le_of_ble_eq_true rfl) ?_ hro
  intro c hnt hnb hcr
  have hcn : c.ro ≤ c.nb := by omega
  have iv : Iv c.nb [] H0 H0 := by rw [hnb]; exact iv_refl
  rw [show args0 [] = [] from rfl]
  rw [b_lex_digits] at hm
  simp only [C.f62]
  refine tk_os okM hok fun J hJ => ?_
  obtain ⟨b1, H2, a3, f4, q5, r6, x7, i8⟩ := al_ok H0 36 (class_Set.c class_Set.zero) iv.le
  have i9 := i8 _ _ iv
  simp only [C.f62r0, R, Nat.reduceEqDiff, zs36, a3]
  refine hJ _ ?_
  refine tk_os okM hok fun J hJ => ?_
  obtain ⟨v12, ev12, hm⟩ := bind_s hm
  have a11 := ha_class_Range c.ro H2 48 57 v12 ev12
  obtain ⟨H13, a14, f15, u16⟩ := st_ok (M := Mt) (t := 36) (v := (vAgg (class_Set.c (v12)))) (c := class_Set.c v12) (cs' := class_Set.c v12) f4 (by rw [class_Set.enc.len]; exact T.sz36) vAgg_cells (class_Set.enc.one _) (Nat.le_trans hcn r6) (le0 class_Set.enc.len) (wrs_all (eqL class_Set.enc.len))
  have i17 := i9.up u16 r6
  simp only [C.f62r1, R, Nat.reduceEqDiff, c_fn F20, a11, a14]
  refine hJ _ ?_
  refine tk_ret okM ?_
  obtain rfl := Option.some.inj hm
  exact end_flat (.inl rfl) (vs := [(vAgg (class_Set.c (v12)))]) (resC' (v := (vAgg (class_Set.c (v12)))) rfl (ldv_of (ld_agg (M := Mt) (t := 36) f15 T.ag36 (by rw [class_Set.enc.len]; exact T.sz36) Seg.refl)) resN) (fm_cons (flat_agg class_Set.enc _) fm_nil)

-- clew/lex.words
def b_lex_words (c_class_One : T_class_One) (c_class_Range : T_class_Range) (c_class_Set_Or : T_class_Set_Or) (c_lex_digits : T_lex_digits) (n : Nat) : Option (class_Set) := (c_lex_digits).bind fun v12 => (c_class_Range 97 122).bind fun v14 => (c_class_Set_Or v12 v14).bind fun v16 => (c_class_Range 65 90).bind fun v18 => (c_class_Set_Or v16 v18).bind fun v20 => (c_class_One 95).bind fun v22 => (c_class_Set_Or v20 v22).bind fun v24 => some v24

theorem w_lex_words {call : CallF} (hok : CallOk Mt call) {n : Nat} {c_class_One : T_class_One} (ha_class_One : A_class_One call c_class_One) {c_class_Range : T_class_Range} (ha_class_Range : A_class_Range call c_class_Range) {c_class_Set_Or : T_class_Set_Or} (ha_class_Set_Or : A_class_Set_Or call c_class_Set_Or) {c_lex_digits : T_lex_digits} (ha_lex_digits : A_lex_digits call c_lex_digits) {H0 : Hp} {r : class_Set} {ro : Nat} (hro : ro ≤ H0.length) (hm : b_lex_words c_class_One c_class_Range c_class_Set_Or c_lex_digits n = some r) :
    Pt Mt ro 63 [] H0 (vAgg (class_Set.c (r))) H0 [] := by
  refine pt_new0 okM F63d (by exact Nat.le_of_ble_eq_true rfl) ?_ hro
  intro c hnt hnb hcr
  have hcn : c.ro ≤ c.nb := by omega
  have iv : Iv c.nb [] H0 H0 := by rw [hnb]; exact iv_refl
  rw [show args0 [] = [] from rfl]
  rw [b_lex_words] at hm
  simp only [C.f63]
  refine tk_os okM hok fun J hJ => ?_
  obtain ⟨b1, H2, a3, f4, q5, r6, x7, i8⟩ := al_ok H0 36 (class_Set.c class_Set.zero) iv.le
  have i9 := i8 _ _ iv
  simp only [C.f63r0, R, Nat.reduceEqDiff, zs36, a3]
  refine hJ _ ?_
  refine tk_os okM hok fun J hJ => ?_
  obtain ⟨v12, ev12, hm⟩ := bind_s hm
  have a11 := ha_lex_digits c.ro H2  v12 ev12
  obtain ⟨v14, ev14, hm⟩ := bind_s hm
  have a13 := ha_class_Range c.ro H2 97 122 v14 ev14
  obtain ⟨v16, ev16, hm⟩ := bind_s hm
  have a15 := ha_class_Set_Or c.ro H2 v12 v14 v16 ev16
  obtain ⟨v18, ev18, hm⟩ := bind_s hm
  have a17 := ha_class_Range c.ro H2 65 90 v18 ev18
  obtain ⟨v20, ev20, hm⟩ := bind_s hm
  have a19 := ha_class_Set_Or c.ro H2 v16 v18 v20 ev20
  obtain ⟨v22, ev22, hm⟩ := bind_s hm
  have a21 := ha_class_One c.ro H2 95 v22 ev22
  obtain ⟨v24, ev24, hm⟩ := bind_s hm
  have a23 := ha_class_Set_Or c.ro H2 v20 v22 v24 ev24
  obtain ⟨H25, a26, f27, u28⟩ := st_ok (M := Mt) (t := 36) (v := (vAgg (class_Set.c (v24)))) (c := class_Set.c v24) (cs' := class_Set.c v24) f4 (by rw [class_Set.enc.len]; exact T.sz36) vAgg_cells (class_Set.enc.one _) (Nat.le_trans hcn r6) (le0 class_Set.enc.len) (wrs_all (eqL class_Set.enc.len))
  have i29 := i9.up u28 r6
  simp only [C.f63r1, R, Nat.reduceEqDiff, c_fn F62, a11, c_fn F20, a13, c_fn F21, a15, a17, a19, c_fn F17, a21, a23, a26]
  refine hJ _ ?_
  refine tk_ret okM ?_
  obtain rfl := Option.some.inj hm
  exact end_flat (.inl rfl) (vs := [(vAgg (class_Set.c (v24)))]) (resC' (v := (vAgg (class_Set.c (v24)))) rfl (ldv_of (ld_agg (M := Mt) (t := 36) f27 T.ag36 (by rw [class_Set.enc.len]; exact T.sz36) Seg.refl)) resN) (fm_cons (flat_agg class_Set.enc _) fm_nil)

-- clew/lex.spaces
def b_lex_spaces (c_class_One : T_class_One) (c_class_Range : T_class_Range) (c_class_Set_Or : T_class_Set_Or) (n : Nat) : Option (class_Set) := (c_class_Range 9 13).bind fun v12 => (c_class_One 32).bind fun v14 => (c_class_Set_Or v12 v14).bind fun v16 => some v16

theorem w_lex_spaces {call : CallF} (hok : CallOk Mt call) {n : Nat} {c_class_One : T_class_One} (ha_class_One : A_class_One call c_class_One) {c_class_Range : T_class_Range} (ha_class_Range : A_class_Range call c_class_Range) {c_class_Set_Or : T_class_Set_Or} (ha_class_Set_Or : A_class_Set_Or call c_class_Set_Or) {H0 : Hp} {r : class_Set} {ro : Nat} (hro : ro ≤ H0.length) (hm : b_lex_spaces c_class_One c_class_Range c_class_Set_Or n = some r) :
    Pt Mt ro 64 [] H0 (vAgg (class_Set.c (r))) H0 [] := by
  refine pt_new0 okM F64d (by exact Nat.le_of_ble_eq_true rfl) ?_ hro
  intro c hnt hnb hcr
  have hcn : c.ro ≤ c.nb := by omega
  have iv : Iv c.nb [] H0 H0 := by rw [hnb]; exact iv_refl
  rw [show args0 [] = [] from rfl]
  rw [b_lex_spaces] at hm
  simp only [C.f64]
  refine tk_os okM hok fun J hJ => ?_
  obtain ⟨b1, H2, a3, f4, q5, r6, x7, i8⟩ := al_ok H0 36 (class_Set.c class_Set.zero) iv.le
  have i9 := i8 _ _ iv
  simp only [C.f64r0, R, Nat.reduceEqDiff, zs36, a3]
  refine hJ _ ?_
  refine tk_os okM hok fun J hJ => ?_
  obtain ⟨v12, ev12, hm⟩ := bind_s hm
  have a11 := ha_class_Range c.ro H2 9 13 v12 ev12
  obtain ⟨v14, ev14, hm⟩ := bind_s hm
  have a13 := ha_class_One c.ro H2 32 v14 ev14
  obtain ⟨v16, ev16, hm⟩ := bind_s hm
  have a15 := ha_class_Set_Or c.ro H2 v12 v14 v16 ev16
  obtain ⟨H17, a18, f19, u20⟩ := st_ok (M := Mt) (t := 36) (v := (vAgg (class_Set.c (v16)))) (c := class_Set.c v16) (cs' := class_Set.c v16) f4 (by rw [class_Set.enc.len]; exact T.sz36) vAgg_cells (class_Set.enc.one _) (Nat.le_trans hcn r6) (le0 class_Set.enc.len) (wrs_all (eqL class_Set.enc.len))
  have i21 := i9.up u20 r6
  simp only [C.f64r1, R, Nat.reduceEqDiff, c_fn F20, a11, c_fn F17, a13, c_fn F21, a15, a18]
  refine hJ _ ?_
  refine tk_ret okM ?_
  obtain rfl := Option.some.inj hm
  exact end_flat (.inl rfl) (vs := [(vAgg (class_Set.c (v16)))]) (resC' (v := (vAgg (class_Set.c (v16)))) rfl (ldv_of (ld_agg (M := Mt) (t := 36) f19 T.ag36 (by rw [class_Set.enc.len]; exact T.sz36) Seg.refl)) resN) (fm_cons (flat_agg class_Set.enc _) fm_nil)

-- clew/lex.letter
def b_lex_letter (c_class_Set_Has : T_class_Set_Has) (c_lex_words : T_lex_words) (n : Nat) (x0 : Int) : Option (Bool) := (bif !decide (x0 = 95) then ((c_lex_words).bind fun v2 => (c_class_Set_Has v2 x0).bind fun v4 => some v4) else some false).bind fun y5 => some y5

theorem w_lex_letter {call : CallF} (hok : CallOk Mt call) {n : Nat} {c_class_Set_Has : T_class_Set_Has} (ha_class_Set_Has : A_class_Set_Has call c_class_Set_Has) {c_lex_words : T_lex_words} (ha_lex_words : A_lex_words call c_lex_words) {H0 : Hp} {x0 : Int} {r : Bool} {ro : Nat} (hro : ro ≤ H0.length) (hm : b_lex_letter c_class_Set_Has c_lex_words n x0 = some r) :
    Pt Mt ro 65 [(.int .u8 x0)] H0 (.bool (r)) H0 [] := by
  refine pt_new0 okM F65d (by exact Nat.le_of_ble_eq_true rfl) ?_ hro
  intro c hnt hnb hcr
  have hcn : c.ro ≤ c.nb := by omega
  have iv : Iv c.nb [] H0 H0 := by rw [hnb]; exact iv_refl
  rw [show args0 [(.int .u8 x0)] = [(0, (.int .u8 x0))] from rfl]
  rw [b_lex_letter] at hm
  simp only [C.f65]
  refine tk_os okM hok fun J hJ => ?_
  simp only [C.f65r0, R, Nat.reduceEqDiff]
  refine hJ _ ?_
  refine tk_os okM hok fun J hJ => ?_
  rw [C.f65r1]
  obtain ⟨y5, ey5, hm⟩ := bind_s hm
  refine rn_app_k (fun ⟨σ, H, _⟩ => Lk σ 9 (.bool (y5)) ∧ Iv c.nb [] H0 H) (fun J hJ => ?_) ?_
  · skip
    cases g9 : !decide (x0 = 95)
    · skip
      have ey5 := cond_f ey5 g9
      obtain rfl := Option.some.inj ey5
      simp only [C.f65r1p0, R, Nat.reduceEqDiff, g9]
      refine hJ _ ?_
      exact ⟨(by first | rfl | (simp only [g9]; rfl) | simp only [g9, Lk, lookS, lookN, Nat.reduceEqDiff, not_false_eq_true, Bool.true_and, Bool.false_and, Bool.true_or, Bool.false_or, cond_true, cond_false]), iv⟩
    · skip
      have ey5 := cond_t ey5 g9
      obtain ⟨v11, ev11, ey5⟩ := bind_s ey5
      have a10 := ha_lex_words c.ro H0  v11 ev11
      obtain ⟨v13, ev13, ey5⟩ := bind_s ey5
      have a12 := ha_class_Set_Has c.ro H0 v11 x0 v13 ev13
      obtain rfl := Option.some.inj ey5
      simp only [C.f65r1p0, R, Nat.reduceEqDiff, g9, c_fn F63, a10, c_fn F19, a12]
      refine hJ _ ?_
      exact ⟨(by first | rfl | (simp only [g9]; rfl) | simp only [g9, Lk, lookS, lookN, Nat.reduceEqDiff, not_false_eq_true, Bool.true_and, Bool.false_and, Bool.true_or, Bool.false_or, cond_true, cond_false]), iv⟩
  rintro ⟨σ14, H6, d15⟩ ⟨h7, i8⟩
  simp only [C.f65r1p1, R, Nat.reduceEqDiff, h7]
  refine hJ _ ?_
  refine tk_ret okM ?_
  obtain rfl := Option.some.inj hm
  exact end_flat (.inl rfl) (vs := [(.bool (y5))]) (resT' (v := (.bool (y5))) rfl resN) (fm_cons rfl fm_nil)
end Go.Proofs.YtcjnmmeibppblaaDoor
