/-
  WHAT THE FUNCTIONS COMPUTE, AS TYPED FUNCTIONS, AND THAT THEY DO: printed by our own mir.py.
-/
import Derived.Test.YtcjnmmeibppblaaDoorClBase
set_option maxRecDepth 100000
set_option linter.unusedVariables false
set_option linter.unusedSimpArgs false
namespace Go.Proofs.YtcjnmmeibppblaaDoor
open Go Go.AM
attribute [local congr] bind_first map_first
-- clew/clewref06.item
def b_ref06_item (c_ref06_one : T_ref06_one) (c_ref06_escape : T_ref06_escape) (n : Nat) (x0 : ByteArray) (x1 : Int) : Option (ref01_Set × Int) := (bif decide (((x0.size : Int)) ≤ x1) then some true else ((bt x0 x1).bind fun v13 => some (decide (v13 = 91)))).bind fun y14 => (bif y14 then some true else ((bt x0 x1).bind fun v26 => some (decide (v26 = 93)))).bind fun y27 => (bif y27 then some true else ((bt x0 x1).bind fun v39 => some (decide (v39 = 45)))).bind fun y40 => bif y40 then (some (ref01_Set.zero, 0)) else ((bt x0 x1).bind fun v60 => bif decide (v60 = 92) then ((c_ref06_escape x0 x1).bind fun v63 => some (v63.1, v63.2)) else ((c_ref06_one v60).bind fun v70 => some (v70, IntKind.i64.wrap (x1 + 1))))

theorem w_ref06_item {call : CallF} (hok : CallOk Mt call) {n : Nat} {c_ref06_one : T_ref06_one} (ha_ref06_one : A_ref06_one call c_ref06_one) {c_ref06_escape : T_ref06_escape} (ha_ref06_escape : A_ref06_escape call c_ref06_escape) {H0 : Hp} {x0 : ByteArray} {x1 : Int} {r : ref01_Set × Int} {ro : Nat} (hro : ro ≤ H0.length) (hm : b_ref06_item c_ref06_one c_ref06_escape n x0 x1 = some r) :
    Pt Mt ro 29 [(.string x0), (.int .i64 x1)] H0 (.tuple [(vAgg (ref01_Set.c (r.1))), (.int .i64 (r.2))].toArray) H0 [] := by
  refine pt_new0 okM F29d (by exact Nat.le_of_ble_eq_true rfl) ?_ hro
  intro c hnt hnb hcr
  have hcn : c.ro ≤ c.nb := by omega
  have iv : Iv c.nb [] H0 H0 := by rw [hnb]; exact iv_refl
  rw [show args0 [(.string x0), (.int .i64 x1)] = [(0, (.string x0)), (1, (.int .i64 x1))] from rfl]
  rw [b_ref06_item] at hm
  simp only [C.f29]
  refine tk_os okM hok fun J hJ => ?_
  obtain ⟨b1, H2, a3, f4, q5, r6, x7, i8⟩ := al_ok H0 68 (ref01_Set.c ref01_Set.zero) iv.le
  have i9 := i8 _ _ iv
  simp only [C.f29r0, R, Nat.reduceEqDiff, zs68, a3]
  refine hJ _ ?_
  refine tk_seq_k fun K n11 x12 => ?_
  refine tk_os okM hok fun J hJ => ?_
  rw [C.f29r1]
  obtain ⟨y14, ey14, hm⟩ := bind_s hm
  refine rn_app_k (fun ⟨σ, H, _⟩ => Lk σ 0 (.string (x0)) ∧ Lk σ 1 (.int .i64 (x1)) ∧ Lk σ 4 (.pointer (some ⟨b1, 0, none⟩)) ∧ Lk σ 15 (.bool (y14)) ∧ H[b1]? = some (.cells (ref01_Set.c ref01_Set.zero) 68) ∧ Iv c.nb [] H0 H) (fun J hJ => ?_) ?_
  · skip
    cases g22 : decide (((x0.size : Int)) ≤ x1)
    · skip
      have ey14 := cond_f ey14 g22
      obtain ⟨v23, ev23, ey14⟩ := bind_s ey14
      obtain rfl := Option.some.inj ey14
      simp only [C.f29r1p0, R, Nat.reduceEqDiff, len_str (M := Mt) Tryd.underlying9, g22, idxP_str (M := Mt) Tryd.underlying9, ev23]
      refine hJ _ ?_
      exact ⟨(by first | rfl | (simp only [g22]; rfl) | simp only [g22, Lk, lookS, lookN, Nat.reduceEqDiff, not_false_eq_true, Bool.true_and, Bool.false_and, Bool.true_or, Bool.false_or, cond_true, cond_false]), (by first | rfl | (simp only [g22]; rfl) | simp only [g22, Lk, lookS, lookN, Nat.reduceEqDiff, not_false_eq_true, Bool.true_and, Bool.false_and, Bool.true_or, Bool.false_or, cond_true, cond_false]), rfl, (by first | rfl | (simp only [g22]; rfl) | simp only [g22, Lk, lookS, lookN, Nat.reduceEqDiff, not_false_eq_true, Bool.true_and, Bool.false_and, Bool.true_or, Bool.false_or, cond_true, cond_false]), f4, i9⟩
    · skip
      have ey14 := cond_t ey14 g22
      obtain rfl := Option.some.inj ey14
      simp only [C.f29r1p0, R, Nat.reduceEqDiff, len_str (M := Mt) Tryd.underlying9, g22]
      refine hJ _ ?_
      exact ⟨(by first | rfl | (simp only [g22]; rfl) | simp only [g22, Lk, lookS, lookN, Nat.reduceEqDiff, not_false_eq_true, Bool.true_and, Bool.false_and, Bool.true_or, Bool.false_or, cond_true, cond_false]), (by first | rfl | (simp only [g22]; rfl) | simp only [g22, Lk, lookS, lookN, Nat.reduceEqDiff, not_false_eq_true, Bool.true_and, Bool.false_and, Bool.true_or, Bool.false_or, cond_true, cond_false]), rfl, (by first | rfl | (simp only [g22]; rfl) | simp only [g22, Lk, lookS, lookN, Nat.reduceEqDiff, not_false_eq_true, Bool.true_and, Bool.false_and, Bool.true_or, Bool.false_or, cond_true, cond_false]), f4, i9⟩
  rintro ⟨σ24, H15, d25⟩ ⟨h16, h17, h18, h19, f20, i21⟩
  obtain ⟨y27, ey27, hm⟩ := bind_s hm
  refine rn_app_k (fun ⟨σ, H, _⟩ => Lk σ 0 (.string (x0)) ∧ Lk σ 1 (.int .i64 (x1)) ∧ Lk σ 4 (.pointer (some ⟨b1, 0, none⟩)) ∧ Lk σ 21 (.bool (y27)) ∧ H[b1]? = some (.cells (ref01_Set.c ref01_Set.zero) 68) ∧ Iv c.nb [] H0 H) (fun J hJ => ?_) ?_
  · skip
    cases g35 : y14
    · skip
      have ey27 := cond_f ey27 g35
      obtain ⟨v36, ev36, ey27⟩ := bind_s ey27
      obtain rfl := Option.some.inj ey27
      simp only [C.f29r1p1, R, Nat.reduceEqDiff, h19, g35, h16, h17, idxP_str (M := Mt) Tryd.underlying9, ev36]
      refine hJ _ ?_
      exact ⟨h16, h17, h18, (by first | rfl | (simp only [g35]; rfl) | simp only [g35, Lk, lookS, lookN, Nat.reduceEqDiff, not_false_eq_true, Bool.true_and, Bool.false_and, Bool.true_or, Bool.false_or, cond_true, cond_false]), f20, i21⟩
    · skip
      have ey27 := cond_t ey27 g35
      obtain rfl := Option.some.inj ey27
      simp only [C.f29r1p1, R, Nat.reduceEqDiff, h19, g35]
      refine hJ _ ?_
      exact ⟨h16, h17, h18, (by first | rfl | (simp only [g35]; rfl) | simp only [g35, Lk, lookS, lookN, Nat.reduceEqDiff, not_false_eq_true, Bool.true_and, Bool.false_and, Bool.true_or, Bool.false_or, cond_true, cond_false]), f20, i21⟩
  rintro ⟨σ37, H28, d38⟩ ⟨h29, h30, h31, h32, f33, i34⟩
  obtain ⟨y40, ey40, hm⟩ := bind_s hm
  refine rn_k (fun ⟨σ, H, _⟩ => Lk σ 0 (.string (x0)) ∧ Lk σ 1 (.int .i64 (x1)) ∧ Lk σ 4 (.pointer (some ⟨b1, 0, none⟩)) ∧ Lk σ 27 (.bool (y40)) ∧ H[b1]? = some (.cells (ref01_Set.c ref01_Set.zero) 68) ∧ Iv c.nb [] H0 H) (fun J hJ => ?_) ?_
  · skip
    cases g48 : y27
    · skip
      have ey40 := cond_f ey40 g48
      obtain ⟨v49, ev49, ey40⟩ := bind_s ey40
      obtain rfl := Option.some.inj ey40
      simp only [C.f29r1p2, R, Nat.reduceEqDiff, h32, g48, h29, h30, idxP_str (M := Mt) Tryd.underlying9, ev49]
      refine hJ _ ?_
      exact ⟨h29, h30, h31, (by first | rfl | (simp only [g48]; rfl) | simp only [g48, Lk, lookS, lookN, Nat.reduceEqDiff, not_false_eq_true, Bool.true_and, Bool.false_and, Bool.true_or, Bool.false_or, cond_true, cond_false]), f33, i34⟩
    · skip
      have ey40 := cond_t ey40 g48
      obtain rfl := Option.some.inj ey40
      simp only [C.f29r1p2, R, Nat.reduceEqDiff, h32, g48]
      refine hJ _ ?_
      exact ⟨h29, h30, h31, (by first | rfl | (simp only [g48]; rfl) | simp only [g48, Lk, lookS, lookN, Nat.reduceEqDiff, not_false_eq_true, Bool.true_and, Bool.false_and, Bool.true_or, Bool.false_or, cond_true, cond_false]), f33, i34⟩
  rintro ⟨σ50, H41, d51⟩ ⟨h42, h43, h44, h45, f46, i47⟩
  refine hJ _ ?_
  refine tk_cond (t := y40) h45 (fun g52 => ?_) (fun g52 => ?_)
  · replace hm := cond_t hm g52
    refine tk_os okM hok fun J hJ => ?_
    obtain ⟨H53, a54, f55, u56⟩ := st_ok (M := Mt) (t := 68) (v := (vAgg (ref01_Set.c (ref01_Set.zero)))) (c := ref01_Set.c ref01_Set.zero) (cs' := ref01_Set.c ref01_Set.zero) f46 (by rw [ref01_Set.enc.len]; exact T.sz68) vAgg_cells (ref01_Set.enc.one _) (Nat.le_trans hcn r6) (le0 ref01_Set.enc.len) (wrs_all (eqL ref01_Set.enc.len))
    have i57 := i47.up u56 r6
    simp only [C.f29r2, R, Nat.reduceEqDiff, bd68_, a54, h44]
    refine hJ _ ?_
    refine tk_ret okM ?_
    refine x12 _ _ (by simp) ?_
    obtain rfl := Option.some.inj hm
    exact end_flat (.inl rfl) (vs := [(vAgg (ref01_Set.c (ref01_Set.zero))), (.int .i64 (0))]) (resC' (v := (vAgg (ref01_Set.c (ref01_Set.zero)))) h44 (ldv_of (ld_agg (M := Mt) (t := 68) f55 T.ag68 (by rw [ref01_Set.enc.len]; exact T.sz68) Seg.refl)) (resT' (v := (.int .i64 (0))) rfl resN)) (fm_cons (flat_agg ref01_Set.enc _) (fm_cons rfl fm_nil))
  · replace hm := cond_f hm g52
    refine tk_skip okM ?_
    refine n11 _ ?_
    refine tk_seq_k fun K n58 x59 => ?_
    refine tk_os okM hok fun J hJ => ?_
    obtain ⟨v60, ev60, hm⟩ := bind_s hm
    simp only [C.f29r3, R, Nat.reduceEqDiff, h42, h43, idxP_str (M := Mt) Tryd.underlying9, ev60]
    refine hJ _ ?_
    refine tk_cond (t := decide (v60 = 92)) rfl (fun g61 => ?_) (fun g61 => ?_)
    · replace hm := cond_t hm g61
      refine tk_os okM hok fun J hJ => ?_
      obtain ⟨v63, ev63, hm⟩ := bind_s hm
      have a62 := ha_ref06_escape c.ro H41 x0 x1 v63 ev63
      obtain ⟨H64, a65, f66, u67⟩ := st_ok (M := Mt) (t := 68) (v := (vAgg (ref01_Set.c (v63.1)))) (c := ref01_Set.c v63.1) (cs' := ref01_Set.c v63.1) f46 (by rw [ref01_Set.enc.len]; exact T.sz68) vAgg_cells (ref01_Set.enc.one _) (Nat.le_trans hcn r6) (le0 ref01_Set.enc.len) (wrs_all (eqL ref01_Set.enc.len))
      have i68 := i47.up u67 r6
      simp only [C.f29r4, R, Nat.reduceEqDiff, h42, h43, c_fn F44, a62, a65, h44]
      refine hJ _ ?_
      refine tk_ret okM ?_
      refine x59 _ _ (by simp) ?_
      obtain rfl := Option.some.inj hm
      exact end_flat (.inl rfl) (vs := [(vAgg (ref01_Set.c (v63.1))), (.int .i64 (v63.2))]) (resC' (v := (vAgg (ref01_Set.c (v63.1)))) h44 (ldv_of (ld_agg (M := Mt) (t := 68) f66 T.ag68 (by rw [ref01_Set.enc.len]; exact T.sz68) Seg.refl)) (resT' (v := (.int .i64 (v63.2))) rfl resN)) (fm_cons (flat_agg ref01_Set.enc _) (fm_cons rfl fm_nil))
    · replace hm := cond_f hm g61
      refine tk_skip okM ?_
      refine n58 _ ?_
      refine tk_os okM hok fun J hJ => ?_
      obtain ⟨v70, ev70, hm⟩ := bind_s hm
      have a69 := ha_ref06_one c.ro H41 v60 v70 ev70
      obtain ⟨H71, a72, f73, u74⟩ := st_ok (M := Mt) (t := 68) (v := (vAgg (ref01_Set.c (v70)))) (c := ref01_Set.c v70) (cs' := ref01_Set.c v70) f46 (by rw [ref01_Set.enc.len]; exact T.sz68) vAgg_cells (ref01_Set.enc.one _) (Nat.le_trans hcn r6) (le0 ref01_Set.enc.len) (wrs_all (eqL ref01_Set.enc.len))
      have i75 := i47.up u74 r6
      simp only [C.f29r5, R, Nat.reduceEqDiff, h42, h43, idxP_str (M := Mt) Tryd.underlying9, ev60, c_fn F43, a69, a72, h44]
      refine hJ _ ?_
      refine tk_ret okM ?_
      obtain rfl := Option.some.inj hm
      exact end_flat (.inl rfl) (vs := [(vAgg (ref01_Set.c (v70))), (.int .i64 (IntKind.i64.wrap (x1 + 1)))]) (resC' (v := (vAgg (ref01_Set.c (v70)))) h44 (ldv_of (ld_agg (M := Mt) (t := 68) f73 T.ag68 (by rw [ref01_Set.enc.len]; exact T.sz68) Seg.refl)) (resT' (v := (.int .i64 (IntKind.i64.wrap (x1 + 1)))) rfl resN)) (fm_cons (flat_agg ref01_Set.enc _) (fm_cons rfl fm_nil))

-- clew/clewref01.Min
def b_ref01_Min_1 (n : Nat) : Nat → ref01_Set → Int → Option (Int × Bool)
  | 0, _, _ => none
  | k + 1, x16, x4_17 => bif decide (x4_17 < 256) then ((ck 256 x4_17).bind fun j35 => bif x16.f_In.nth j35 then (some (IntKind.u8.wrap x4_17, true)) else (b_ref01_Min_1 n k x16 (IntKind.i64.wrap (x4_17 + 1)))) else (some (0, false))
def b_ref01_Min (n : Nat) (x0 : ref01_Set) : Option (Int × Bool) := b_ref01_Min_1 n n x0 0

theorem w_ref01_Min {call : CallF} (hok : CallOk Mt call) {n : Nat} {H0 : Hp} {x0 : ref01_Set} {r : Int × Bool} {ro : Nat} (hro : ro ≤ H0.length) (hm : b_ref01_Min n x0 = some r) :
    Pt Mt ro 30 [(vAgg (ref01_Set.c x0))] H0 (.tuple [(.int .u8 (r.1)), (.bool (r.2))].toArray) H0 [] := by
  refine pt_new0 okM F30d (by exact Nat.le_of_ble_eq_true rfl) ?_ hro
  intro c hnt hnb hcr
  have hcn : c.ro ≤ c.nb := by omega
  have iv : Iv c.nb [] H0 H0 := by rw [hnb]; exact iv_refl
  rw [show args0 [(vAgg (ref01_Set.c x0))] = [(0, (vAgg (ref01_Set.c x0)))] from rfl]
  rw [b_ref01_Min] at hm
  simp only [C.f30, C.f30b0]
  refine tk_os okM hok fun J hJ => ?_
  obtain ⟨b1, H2, a3, f4, q5, r6, x7, i8⟩ := bx_ok (M := Mt) (t := 68) (u := (vAgg (ref01_Set.c (x0)))) (cs := ref01_Set.c x0) H0 iv.le (by rw [ref01_Set.enc.len]; exact T.sz68) vAgg_cells (ref01_Set.enc.one _)
  have i9 := i8 _ _ iv
  simp only [C.f30r0, R, Nat.reduceEqDiff, a3]
  refine hJ _ ?_
  refine tk_seq_k fun K n11 x12 => ?_
  refine tk_os okM hok fun J hJ => ?_
  simp only [C.f30r1, R, Nat.reduceEqDiff]
  refine hJ _ ?_
  refine tk_block_k fun K n13 e14 x15 => ?_
  refine tk_loop_k (n := n) (fun k1 ⟨σ, H, _⟩ => ∃ x16 x4_17, b_ref01_Min_1 n k1 x16 x4_17 = some r ∧ Lk σ 1 (.pointer (some ⟨b1, 0, none⟩)) ∧ Lk σ 4 (.int .i64 x4_17) ∧ H[b1]? = some (.cells (ref01_Set.c x16) 68) ∧ Iv c.nb [] H0 H) ?_ ?_ ?_
  · exact ⟨x0, 0, hm, rfl, rfl, f4, i9⟩
  · rintro ⟨σ, H, d⟩ ⟨_, _, hm, _⟩
    cases hm
  · intro k1 K n18 x19
    rintro ⟨σ25, H20, d26⟩ ⟨x16, x4_17, hm, h21, h22, f23, i24⟩
    rw [b_ref01_Min_1.eq_2] at hm
    refine tk_seq_k fun K n27 x28 => ?_
    refine tk_os okM hok fun J hJ => ?_
    simp only [C.f30r2, R, Nat.reduceEqDiff, h22]
    refine hJ _ ?_
    refine tk_cond (t := decide (x4_17 < 256)) rfl (fun g29 => ?_) (fun g29 => ?_)
    · replace hm := cond_t hm g29
      refine tk_skip okM ?_
      refine n27 _ ?_
      refine tk_seq_k fun K n30 x31 => ?_
      refine tk_block_k fun K n32 e33 x34 => ?_
      refine tk_os okM hok fun J hJ => ?_
      obtain ⟨j35, ej35, hm⟩ := bind_s hm
      have a36 := ld_one (M := Mt) (t := 4) f23 T.ag4 ((Seg.refl.sub (ref01_Set.seg0 x16)).sub (sgA enc_bool.len (a := x16.f_In) (ck_lt ej35).1))
      simp only [C.f30r4, R, Nat.reduceEqDiff, h22, fa68_0, h21, ia66, ej35, a36]
      refine hJ _ ?_
      refine tk_cond (t := x16.f_In.nth j35) rfl (fun g37 => ?_) (fun g37 => ?_)
      · replace hm := cond_t hm g37
        refine tk_os okM hok fun J hJ => ?_
        simp only [C.f30r5, R, Nat.reduceEqDiff, h22, cv_int (M := Mt) Tryd.underlying3 Tryd.underlying5]
        refine hJ _ ?_
        refine tk_ret okM ?_
        refine x34 _ _ (by simp) (by simp) ?_
        refine x31 _ _ (by simp) ?_
        refine x19 _ _ (by simp) ?_
        refine x15 _ _ (by simp) (by simp) ?_
        refine x12 _ _ (by simp) ?_
        obtain rfl := Option.some.inj hm
        exact end_flat (.inl rfl) (vs := [(.int .u8 (IntKind.u8.wrap x4_17)), (.bool (true))]) (resT' (v := (.int .u8 (IntKind.u8.wrap x4_17))) rfl (resT' (v := (.bool (true))) rfl resN)) (fm_cons rfl (fm_cons rfl fm_nil))
      · replace hm := cond_f hm g37
        refine tk_skip okM ?_
        refine n32 _ ?_
        refine n30 _ ?_
        refine tk_oe okM hok fun J hJ => ?_
        simp only [C.f30r3, R, Nat.reduceEqDiff, h22]
        refine hJ _ ?_
        refine n18 _ ?_
        exact ⟨x16, IntKind.i64.wrap (x4_17 + 1), hm, h21, rfl, f23, i24⟩
    · replace hm := cond_f hm g29
      refine tk_exit okM ?_
      refine x28 _ _ (by simp) ?_
      refine x19 _ _ (by simp) ?_
      refine e14 _ ?_
      refine n11 _ ?_
      refine tk_os okM hok fun J hJ => ?_
      simp only [C.f30r6, R, Nat.reduceEqDiff]
      refine hJ _ ?_
      refine tk_ret okM ?_
      obtain rfl := Option.some.inj hm
      exact end_flat (.inl rfl) (vs := [(.int .u8 (0)), (.bool (false))]) (resT' (v := (.int .u8 (0))) rfl (resT' (v := (.bool (false))) rfl resN)) (fm_cons rfl (fm_cons rfl fm_nil))

-- clew/clewref01.Len
def b_ref01_Len_2 (n : Nat) (q1 : ref01_Set → Int → Int → Option (Int)) (x32 : ref01_Set) (x3_33 : Int) (x4_34 : Int) : Option (Int) := q1 x32 x3_33 (IntKind.i64.wrap (x4_34 + 1))
def b_ref01_Len_1 (n : Nat) : Nat → ref01_Set → Int → Int → Option (Int)
  | 0, _, _, _ => none
  | k + 1, x16, x3_17, x4_18 => bif decide (x4_18 < 256) then ((ck 256 x4_18).bind fun j48 => bif x16.f_In.nth j48 then (b_ref01_Len_2 n (b_ref01_Len_1 n k) x16 (IntKind.i64.wrap (x3_17 + 1)) x4_18) else (b_ref01_Len_2 n (b_ref01_Len_1 n k) x16 x3_17 x4_18)) else (some x3_17)
def b_ref01_Len (n : Nat) (x0 : ref01_Set) : Option (Int) := b_ref01_Len_1 n n x0 0 0

theorem w_ref01_Len {call : CallF} (hok : CallOk Mt call) {n : Nat} {H0 : Hp} {x0 : ref01_Set} {r : Int} {ro : Nat} (hro : ro ≤ H0.length) (hm : b_ref01_Len n x0 = some r) :
    Pt Mt ro 31 [(vAgg (ref01_Set.c x0))] H0 (.int .i64 (r)) H0 [] := by
  refine pt_new0 okM F31d (by exact Nat.le_of_ble_eq_true rfl) ?_ hro
  intro c hnt hnb hcr
  have hcn : c.ro ≤ c.nb := by omega
  have iv : Iv c.nb [] H0 H0 := by rw [hnb]; exact iv_refl
  rw [show args0 [(vAgg (ref01_Set.c x0))] = [(0, (vAgg (ref01_Set.c x0)))] from rfl]
  rw [b_ref01_Len] at hm
  simp only [C.f31, C.f31b0]
  refine tk_os okM hok fun J hJ => ?_
  obtain ⟨b1, H2, a3, f4, q5, r6, x7, i8⟩ := bx_ok (M := Mt) (t := 68) (u := (vAgg (ref01_Set.c (x0)))) (cs := ref01_Set.c x0) H0 iv.le (by rw [ref01_Set.enc.len]; exact T.sz68) vAgg_cells (ref01_Set.enc.one _)
  have i9 := i8 _ _ iv
  simp only [C.f31r0, R, Nat.reduceEqDiff, a3]
  refine hJ _ ?_
  refine tk_os okM hok fun J hJ => ?_
  simp only [C.f31r1, R, Nat.reduceEqDiff]
  refine hJ _ ?_
  refine tk_seq_k fun K n11 x12 => ?_
  refine tk_os okM hok fun J hJ => ?_
  simp only [C.f31r2, R, Nat.reduceEqDiff]
  refine hJ _ ?_
  refine tk_block_k fun K n13 e14 x15 => ?_
  refine tk_loop_k (n := n) (fun k1 ⟨σ, H, _⟩ => ∃ x16 x3_17 x4_18, b_ref01_Len_1 n k1 x16 x3_17 x4_18 = some r ∧ Lk σ 1 (.pointer (some ⟨b1, 0, none⟩)) ∧ Lk σ 3 (.int .i64 x3_17) ∧ Lk σ 4 (.int .i64 x4_18) ∧ H[b1]? = some (.cells (ref01_Set.c x16) 68) ∧ Iv c.nb [] H0 H) ?_ ?_ ?_
  · exact ⟨x0, 0, 0, hm, rfl, rfl, rfl, f4, i9⟩
  · rintro ⟨σ, H, d⟩ ⟨_, _, _, hm, _⟩
    cases hm
  · intro k1 K n19 x20
    rintro ⟨σ27, H21, d28⟩ ⟨x16, x3_17, x4_18, hm, h22, h23, h24, f25, i26⟩
    rw [b_ref01_Len_1.eq_2] at hm
    refine tk_seq_k fun K n29 x30 => ?_
    refine tk_os okM hok fun J hJ => ?_
    simp only [C.f31r3, R, Nat.reduceEqDiff, h24]
    refine hJ _ ?_
    refine tk_cond (t := decide (x4_18 < 256)) rfl (fun g31 => ?_) (fun g31 => ?_)
    · replace hm := cond_t hm g31
      refine tk_skip okM ?_
      refine n29 _ ?_
      refine tk_seq_j (fun ⟨σ, H, _⟩ => ∃ x32 x3_33 x4_34, b_ref01_Len_2 n (b_ref01_Len_1 n k1) x32 x3_33 x4_34 = some r ∧ Lk σ 1 (.pointer (some ⟨b1, 0, none⟩)) ∧ Lk σ 3 (.int .i64 x3_33) ∧ Lk σ 4 (.int .i64 x4_34) ∧ H[b1]? = some (.cells (ref01_Set.c x32) 68) ∧ Iv c.nb [] H0 H) ?_ ?_
      · skip
        rintro ⟨σ41, H35, d42⟩ ⟨x32, x3_33, x4_34, hm, h36, h37, h38, f39, i40⟩
        rw [b_ref01_Len_2] at hm
        refine tk_oe okM hok fun J hJ => ?_
        simp only [C.f31r4, R, Nat.reduceEqDiff, h38]
        refine hJ _ ?_
        refine n19 _ ?_
        exact ⟨x32, x3_33, IntKind.i64.wrap (x4_34 + 1), hm, h36, h37, rfl, f39, i40⟩
      · refine fun K n43 x44 => ?_
        refine tk_block_k fun K n45 e46 x47 => ?_
        refine tk_os okM hok fun J hJ => ?_
        obtain ⟨j48, ej48, hm⟩ := bind_s hm
        have a49 := ld_one (M := Mt) (t := 4) f25 T.ag4 ((Seg.refl.sub (ref01_Set.seg0 x16)).sub (sgA enc_bool.len (a := x16.f_In) (ck_lt ej48).1))
        simp only [C.f31r5, R, Nat.reduceEqDiff, h24, fa68_0, h22, ia66, ej48, a49]
        refine hJ _ ?_
        refine tk_cond (t := x16.f_In.nth j48) rfl (fun g50 => ?_) (fun g50 => ?_)
        · replace hm := cond_t hm g50
          refine tk_oe okM hok fun J hJ => ?_
          simp only [C.f31r6, R, Nat.reduceEqDiff, h23]
          refine hJ _ ?_
          refine n45 _ ?_
          refine n43 _ ?_
          exact ⟨x16, IntKind.i64.wrap (x3_17 + 1), x4_18, hm, h22, rfl, h24, f25, i26⟩
        · replace hm := cond_f hm g50
          refine tk_skip okM ?_
          refine n45 _ ?_
          refine n43 _ ?_
          exact ⟨x16, x3_17, x4_18, hm, h22, h23, h24, f25, i26⟩
    · replace hm := cond_f hm g31
      refine tk_exit okM ?_
      refine x30 _ _ (by simp) ?_
      refine x20 _ _ (by simp) ?_
      refine e14 _ ?_
      refine n11 _ ?_
      refine tk_os okM hok fun J hJ => ?_
      simp only [C.f31r7, R, Nat.reduceEqDiff, h23]
      refine hJ _ ?_
      refine tk_ret okM ?_
      obtain rfl := Option.some.inj hm
      exact end_flat (.inl rfl) (vs := [(.int .i64 (x3_17))]) (resT' (v := (.int .i64 (x3_17))) rfl resN) (fm_cons rfl fm_nil)

-- clew/clewref01.Range
def b_ref01_Range_1 (n : Nat) : Nat → Int → Int → ref01_Set → ref01_Set → Int → Option (ref01_Set)
  | 0, _, _, _, _, _ => none
  | k + 1, x0_33, x1_34, x35, x36, x6_37 => bif decide (x6_37 < 256) then ((ck 256 x6_37).bind fun j73 => b_ref01_Range_1 n k x0_33 x1_34 x35 ({ x36 with f_In := x36.f_In.put j73 ((decide ((IntKind.i64.wrap x0_33) ≤ x6_37)) && (decide (x6_37 ≤ (IntKind.i64.wrap x1_34)))) }) (IntKind.i64.wrap (x6_37 + 1))) else (some x36)
def b_ref01_Range (n : Nat) (x0 : Int) (x1 : Int) : Option (ref01_Set) := b_ref01_Range_1 n n x0 x1 ref01_Set.zero ref01_Set.zero 0

theorem w_ref01_Range {call : CallF} (hok : CallOk Mt call) {n : Nat} {H0 : Hp} {x0 : Int} {x1 : Int} {r : ref01_Set} {ro : Nat} (hro : ro ≤ H0.length) (hm : b_ref01_Range n x0 x1 = some r) :
    Pt Mt ro 32 [(.int .u8 x0), (.int .u8 x1)] H0 (vAgg (ref01_Set.c (r))) H0 [] := by
  refine pt_new0 okM F32d (by exact Nat.le_of_ble_eq_true rfl) ?_ hro
  intro c hnt hnb hcr
  have hcn : c.ro ≤ c.nb := by omega
  have iv : Iv c.nb [] H0 H0 := by rw [hnb]; exact iv_refl
  rw [show args0 [(.int .u8 x0), (.int .u8 x1)] = [(0, (.int .u8 x0)), (1, (.int .u8 x1))] from rfl]
  rw [b_ref01_Range] at hm
  simp only [C.f32, C.f32b0]
  refine tk_os okM hok fun J hJ => ?_
  obtain ⟨b1, H2, a3, f4, q5, r6, x7, i8⟩ := al_ok H0 68 (ref01_Set.c ref01_Set.zero) iv.le
  have i9 := i8 _ _ iv
  simp only [C.f32r0, R, Nat.reduceEqDiff, zs68, a3]
  refine hJ _ ?_
  refine tk_os okM hok fun J hJ => ?_
  obtain ⟨b11, H12, a13, f14, q15, r16, x17, i18⟩ := al_ok H2 68 (ref01_Set.c ref01_Set.zero) i9.le
  have i19 := i18 _ _ i9
  have f20 := x17 _ _ f4
  obtain ⟨H22, a23, f24, u25⟩ := st_ok (M := Mt) (t := 68) (v := (vAgg (ref01_Set.c (ref01_Set.zero)))) (c := ref01_Set.c ref01_Set.zero) (cs' := ref01_Set.c ref01_Set.zero) f14 (by rw [ref01_Set.enc.len]; exact T.sz68) vAgg_cells (ref01_Set.enc.one _) (Nat.le_trans hcn r16) (le0 ref01_Set.enc.len) (wrs_all (eqL ref01_Set.enc.len))
  have i26 := i19.up u25 r16
  have f27 := (u25.get _ (ne_len f4 q15)).trans f20
  simp only [C.f32r1, R, Nat.reduceEqDiff, bd68_, zs68, a13, a23]
  refine hJ _ ?_
  refine tk_seq_k fun K n28 x29 => ?_
  refine tk_os okM hok fun J hJ => ?_
  simp only [C.f32r2, R, Nat.reduceEqDiff]
  refine hJ _ ?_
  refine tk_block_k fun K n30 e31 x32 => ?_
  refine tk_loop_k (n := n) (fun k1 ⟨σ, H, _⟩ => ∃ x0_33 x1_34 x35 x36 x6_37, b_ref01_Range_1 n k1 x0_33 x1_34 x35 x36 x6_37 = some r ∧ Lk σ 0 (.int .u8 x0_33) ∧ Lk σ 1 (.int .u8 x1_34) ∧ Lk σ 4 (.pointer (some ⟨b1, 0, none⟩)) ∧ Lk σ 5 (.pointer (some ⟨b11, 0, none⟩)) ∧ Lk σ 6 (.int .i64 x6_37) ∧ H[b1]? = some (.cells (ref01_Set.c x35) 68) ∧ H[b11]? = some (.cells (ref01_Set.c x36) 68) ∧ Iv c.nb [] H0 H) ?_ ?_ ?_
  · exact ⟨x0, x1, ref01_Set.zero, ref01_Set.zero, 0, hm, rfl, rfl, rfl, rfl, rfl, f27, f24, i26⟩
  · rintro ⟨σ, H, d⟩ ⟨_, _, _, _, _, hm, _⟩
    cases hm
  · intro k1 K n38 x39
    rintro ⟨σ49, H40, d50⟩ ⟨x0_33, x1_34, x35, x36, x6_37, hm, h41, h42, h43, h44, h45, f46, f47, i48⟩
    rw [b_ref01_Range_1.eq_2] at hm
    refine tk_seq_k fun K n51 x52 => ?_
    refine tk_os okM hok fun J hJ => ?_
    simp only [C.f32r3, R, Nat.reduceEqDiff, h45]
    refine hJ _ ?_
    refine tk_cond (t := decide (x6_37 < 256)) rfl (fun g53 => ?_) (fun g53 => ?_)
    · replace hm := cond_t hm g53
      refine tk_skip okM ?_
      refine n51 _ ?_
      refine tk_seq_k fun K n54 x55 => ?_
      refine tk_block_k fun K n56 e57 x58 => ?_
      refine tk_oe okM hok fun J hJ => ?_
      rw [C.f32r5]
      refine rn_app_k (fun ⟨σ, H, _⟩ => Lk σ 0 (.int .u8 (x0_33)) ∧ Lk σ 1 (.int .u8 (x1_34)) ∧ Lk σ 4 (.pointer (some ⟨b1, 0, none⟩)) ∧ Lk σ 5 (.pointer (some ⟨b11, 0, none⟩)) ∧ Lk σ 6 (.int .i64 (x6_37)) ∧ Lk σ 12 (.int .i64 (x6_37)) ∧ Lk σ 22 (.bool ((decide ((IntKind.i64.wrap x0_33) ≤ x6_37)) && (decide (x6_37 ≤ (IntKind.i64.wrap x1_34))))) ∧ H[b1]? = some (.cells (ref01_Set.c x35) 68) ∧ H[b11]? = some (.cells (ref01_Set.c x36) 68) ∧ Iv c.nb [] H0 H) (fun J hJ => ?_) ?_
      · skip
        cases g70 : decide ((IntKind.i64.wrap x0_33) ≤ x6_37)
        · skip
          simp only [C.f32r5p0, R, Nat.reduceEqDiff, h45, h41, cv_int (M := Mt) Tryd.underlying5 Tryd.underlying3, g70]
          refine hJ _ ?_
          exact ⟨h41, h42, h43, h44, h45, (by first | rfl | (simp only [g70]; rfl) | simp only [g70, Lk, lookS, lookN, Nat.reduceEqDiff, not_false_eq_true, Bool.true_and, Bool.false_and, Bool.true_or, Bool.false_or, cond_true, cond_false]), (by first | rfl | (simp only [g70]; rfl) | simp only [g70, Lk, lookS, lookN, Nat.reduceEqDiff, not_false_eq_true, Bool.true_and, Bool.false_and, Bool.true_or, Bool.false_or, cond_true, cond_false]), f46, f47, i48⟩
        · skip
          simp only [C.f32r5p0, R, Nat.reduceEqDiff, h45, h41, cv_int (M := Mt) Tryd.underlying5 Tryd.underlying3, g70, h42]
          refine hJ _ ?_
          exact ⟨h41, h42, h43, h44, h45, (by first | rfl | (simp only [g70]; rfl) | simp only [g70, Lk, lookS, lookN, Nat.reduceEqDiff, not_false_eq_true, Bool.true_and, Bool.false_and, Bool.true_or, Bool.false_or, cond_true, cond_false]), (by first | rfl | (simp only [g70]; rfl) | simp only [g70, Lk, lookS, lookN, Nat.reduceEqDiff, not_false_eq_true, Bool.true_and, Bool.false_and, Bool.true_or, Bool.false_or, cond_true, cond_false]), f46, f47, i48⟩
      rintro ⟨σ71, H59, d72⟩ ⟨h60, h61, h62, h63, h64, h65, h66, f67, f68, i69⟩
      obtain ⟨j73, ej73, hm⟩ := bind_s hm
      obtain ⟨H74, a75, f76, u77⟩ := st_ok (M := Mt) (t := 4) (v := (.bool ((decide ((IntKind.i64.wrap x0_33) ≤ x6_37)) && (decide (x6_37 ≤ (IntKind.i64.wrap x1_34)))))) (c := cBool ((decide ((IntKind.i64.wrap x0_33) ≤ x6_37)) && (decide (x6_37 ≤ (IntKind.i64.wrap x1_34))))) (cs' := ref01_Set.c ({ x36 with f_In := x36.f_In.put j73 ((decide ((IntKind.i64.wrap x0_33) ≤ x6_37)) && (decide (x6_37 ≤ (IntKind.i64.wrap x1_34)))) })) f68 (by rw [enc_bool.len]; exact T.sz4) rfl (enc_bool.one _) (Nat.le_trans hcn r16) (Nat.le_trans (Nat.le_of_eq (congrArg _ (eqL enc_bool.len))) ((Seg.refl.sub (ref01_Set.seg0 x36)).sub (sgA enc_bool.len (a := x36.f_In) (ck_lt ej73).1)).2) (by rw [wrs_in (Seg.refl.sub (ref01_Set.seg0 x36)) (by have := (ck_lt ej73).1; simp only [enc_bool.len, (enc_arr (n := 256) enc_bool).len]; omega), wrA enc_bool.len (a := x36.f_In) (v := (decide ((IntKind.i64.wrap x0_33) ≤ x6_37)) && (decide (x6_37 ≤ (IntKind.i64.wrap x1_34)))) (ck_lt ej73).1, Nat.zero_add, ref01_Set.wr0 x36 (x36.f_In.put j73 ((decide ((IntKind.i64.wrap x0_33) ≤ x6_37)) && (decide (x6_37 ≤ (IntKind.i64.wrap x1_34)))))])
      have i78 := i69.up u77 r16
      have f79 := (u77.get _ (ne_len f4 q15)).trans f67
      simp only [C.f32r5p1, R, Nat.reduceEqDiff, fa68_0, h63, ia66, ej73, h65, a75, h66]
      refine hJ _ ?_
      refine n56 _ ?_
      refine n54 _ ?_
      refine tk_oe okM hok fun J hJ => ?_
      simp only [C.f32r4, R, Nat.reduceEqDiff, h64]
      refine hJ _ ?_
      refine n38 _ ?_
      exact ⟨x0_33, x1_34, x35, { x36 with f_In := x36.f_In.put j73 ((decide ((IntKind.i64.wrap x0_33) ≤ x6_37)) && (decide (x6_37 ≤ (IntKind.i64.wrap x1_34)))) }, IntKind.i64.wrap (x6_37 + 1), hm, h60, h61, h62, h63, rfl, f79, f76, i78⟩
    · replace hm := cond_f hm g53
      refine tk_exit okM ?_
      refine x52 _ _ (by simp) ?_
      refine x39 _ _ (by simp) ?_
      refine e31 _ ?_
      refine n28 _ ?_
      refine tk_os okM hok fun J hJ => ?_
      have a80 := ld_agg (M := Mt) (t := 68) f47 T.ag68 (by rw [ref01_Set.enc.len]; exact T.sz68) Seg.refl
      obtain ⟨H81, a82, f83, u84⟩ := st_ok (M := Mt) (t := 68) (v := (vAgg (ref01_Set.c (x36)))) (c := ref01_Set.c x36) (cs' := ref01_Set.c x36) f46 (by rw [ref01_Set.enc.len]; exact T.sz68) vAgg_cells (ref01_Set.enc.one _) (Nat.le_trans hcn r6) (le0 ref01_Set.enc.len) (wrs_all (eqL ref01_Set.enc.len))
      have i85 := i48.up u84 r6
      have f86 := (u84.get _ (ne_len f4 q15).symm).trans f47
      simp only [C.f32r6, R, Nat.reduceEqDiff, a80, h44, a82, h43]
      refine hJ _ ?_
      refine tk_ret okM ?_
      obtain rfl := Option.some.inj hm
      exact end_flat (.inl rfl) (vs := [(vAgg (ref01_Set.c (x36)))]) (resC' (v := (vAgg (ref01_Set.c (x36)))) h43 (ldv_of (ld_agg (M := Mt) (t := 68) f83 T.ag68 (by rw [ref01_Set.enc.len]; exact T.sz68) Seg.refl)) resN) (fm_cons (flat_agg ref01_Set.enc _) fm_nil)

-- clew/clewref01.Or
def b_ref01_Or_1 (n : Nat) : Nat → ref01_Set → ref01_Set → ref01_Set → Int → Option (ref01_Set)
  | 0, _, _, _, _ => none
  | k + 1, x39, x40, x41, x5_42 => bif decide (x5_42 < 256) then ((ck 256 x5_42).bind fun j64 => b_ref01_Or_1 n k ({ x39 with f_In := x39.f_In.put j64 ((x39.f_In.nth j64) || (x40.f_In.nth j64)) }) x40 x41 (IntKind.i64.wrap (x5_42 + 1))) else (some x39)
def b_ref01_Or (n : Nat) (x0 : ref01_Set) (x1 : ref01_Set) : Option (ref01_Set) := b_ref01_Or_1 n n x0 x1 ref01_Set.zero 0

theorem w_ref01_Or {call : CallF} (hok : CallOk Mt call) {n : Nat} {H0 : Hp} {x0 : ref01_Set} {x1 : ref01_Set} {r : ref01_Set} {ro : Nat} (hro : ro ≤ H0.length) (hm : b_ref01_Or n x0 x1 = some r) :
    Pt Mt ro 33 [(vAgg (ref01_Set.c x0)), (vAgg (ref01_Set.c x1))] H0 (vAgg (ref01_Set.c (r))) H0 [] := by
  refine pt_new0 okM F33d (by exact Nat.le_of_ble_eq_true rfl) ?_ hro
  intro c hnt hnb hcr
  have hcn : c.ro ≤ c.nb := by omega
  have iv : Iv c.nb [] H0 H0 := by rw [hnb]; exact iv_refl
  rw [show args0 [(vAgg (ref01_Set.c x0)), (vAgg (ref01_Set.c x1))] = [(0, (vAgg (ref01_Set.c x0))), (1, (vAgg (ref01_Set.c x1)))] from rfl]
  rw [b_ref01_Or] at hm
  simp only [C.f33, C.f33b0]
  refine tk_os okM hok fun J hJ => ?_
  obtain ⟨b1, H2, a3, f4, q5, r6, x7, i8⟩ := bx_ok (M := Mt) (t := 68) (u := (vAgg (ref01_Set.c (x0)))) (cs := ref01_Set.c x0) H0 iv.le (by rw [ref01_Set.enc.len]; exact T.sz68) vAgg_cells (ref01_Set.enc.one _)
  have i9 := i8 _ _ iv
  obtain ⟨b11, H12, a13, f14, q15, r16, x17, i18⟩ := bx_ok (M := Mt) (t := 68) (u := (vAgg (ref01_Set.c (x1)))) (cs := ref01_Set.c x1) H2 i9.le (by rw [ref01_Set.enc.len]; exact T.sz68) vAgg_cells (ref01_Set.enc.one _)
  have i19 := i18 _ _ i9
  have f20 := x17 _ _ f4
  obtain ⟨b22, H23, a24, f25, q26, r27, x28, i29⟩ := al_ok H12 68 (ref01_Set.c ref01_Set.zero) i19.le
  have i30 := i29 _ _ i19
  have f31 := x28 _ _ f20
  have f32 := x28 _ _ f14
  simp only [C.f33r0, R, Nat.reduceEqDiff, a3, a13, zs68, a24]
  refine hJ _ ?_
  refine tk_seq_k fun K n34 x35 => ?_
  refine tk_os okM hok fun J hJ => ?_
  simp only [C.f33r1, R, Nat.reduceEqDiff]
  refine hJ _ ?_
  refine tk_block_k fun K n36 e37 x38 => ?_
  refine tk_loop_k (n := n) (fun k1 ⟨σ, H, _⟩ => ∃ x39 x40 x41 x5_42, b_ref01_Or_1 n k1 x39 x40 x41 x5_42 = some r ∧ Lk σ 2 (.pointer (some ⟨b1, 0, none⟩)) ∧ Lk σ 3 (.pointer (some ⟨b11, 0, none⟩)) ∧ Lk σ 4 (.pointer (some ⟨b22, 0, none⟩)) ∧ Lk σ 5 (.int .i64 x5_42) ∧ H[b1]? = some (.cells (ref01_Set.c x39) 68) ∧ H[b11]? = some (.cells (ref01_Set.c x40) 68) ∧ H[b22]? = some (.cells (ref01_Set.c x41) 68) ∧ Iv c.nb [] H0 H) ?_ ?_ ?_
  · exact ⟨x0, x1, ref01_Set.zero, 0, hm, rfl, rfl, rfl, rfl, f31, f32, f25, i30⟩
  · rintro ⟨σ, H, d⟩ ⟨_, _, _, _, hm, _⟩
    cases hm
  · intro k1 K n43 x44
    rintro ⟨σ54, H45, d55⟩ ⟨x39, x40, x41, x5_42, hm, h46, h47, h48, h49, f50, f51, f52, i53⟩
    rw [b_ref01_Or_1.eq_2] at hm
    refine tk_seq_k fun K n56 x57 => ?_
    refine tk_os okM hok fun J hJ => ?_
    simp only [C.f33r2, R, Nat.reduceEqDiff, h49]
    refine hJ _ ?_
    refine tk_cond (t := decide (x5_42 < 256)) rfl (fun g58 => ?_) (fun g58 => ?_)
    · replace hm := cond_t hm g58
      refine tk_skip okM ?_
      refine n56 _ ?_
      refine tk_seq_k fun K n59 x60 => ?_
      refine tk_block_k fun K n61 e62 x63 => ?_
      refine tk_oe okM hok fun J hJ => ?_
      rw [C.f33r4]
      obtain ⟨j64, ej64, hm⟩ := bind_s hm
      have a65 := ld_one (M := Mt) (t := 4) f50 T.ag4 ((Seg.refl.sub (ref01_Set.seg0 x39)).sub (sgA enc_bool.len (a := x39.f_In) (ck_lt ej64).1))
      refine rn_app_k (fun ⟨σ, H, _⟩ => Lk σ 2 (.pointer (some ⟨b1, 0, none⟩)) ∧ Lk σ 3 (.pointer (some ⟨b11, 0, none⟩)) ∧ Lk σ 4 (.pointer (some ⟨b22, 0, none⟩)) ∧ Lk σ 5 (.int .i64 (x5_42)) ∧ Lk σ 10 (.int .i64 (x5_42)) ∧ Lk σ 20 (.bool ((x39.f_In.nth j64) || (x40.f_In.nth j64))) ∧ H[b1]? = some (.cells (ref01_Set.c x39) 68) ∧ H[b11]? = some (.cells (ref01_Set.c x40) 68) ∧ H[b22]? = some (.cells (ref01_Set.c x41) 68) ∧ Iv c.nb [] H0 H) (fun J hJ => ?_) ?_
      · skip
        cases g78 : x39.f_In.nth j64
        · skip
          have a79 := ld_one (M := Mt) (t := 4) f51 T.ag4 ((Seg.refl.sub (ref01_Set.seg0 x40)).sub (sgA enc_bool.len (a := x40.f_In) (ck_lt ej64).1))
          simp only [C.f33r4p0, R, Nat.reduceEqDiff, h49, fa68_0, h46, ia66, ej64, a65, g78, h47, a79]
          refine hJ _ ?_
          exact ⟨h46, h47, h48, h49, (by first | rfl | (simp only [g78]; rfl) | simp only [g78, Lk, lookS, lookN, Nat.reduceEqDiff, not_false_eq_true, Bool.true_and, Bool.false_and, Bool.true_or, Bool.false_or, cond_true, cond_false]), (by first | rfl | (simp only [g78]; rfl) | simp only [g78, Lk, lookS, lookN, Nat.reduceEqDiff, not_false_eq_true, Bool.true_and, Bool.false_and, Bool.true_or, Bool.false_or, cond_true, cond_false]), f50, f51, f52, i53⟩
        · skip
          simp only [C.f33r4p0, R, Nat.reduceEqDiff, h49, fa68_0, h46, ia66, ej64, a65, g78]
          refine hJ _ ?_
          exact ⟨h46, h47, h48, h49, (by first | rfl | (simp only [g78]; rfl) | simp only [g78, Lk, lookS, lookN, Nat.reduceEqDiff, not_false_eq_true, Bool.true_and, Bool.false_and, Bool.true_or, Bool.false_or, cond_true, cond_false]), (by first | rfl | (simp only [g78]; rfl) | simp only [g78, Lk, lookS, lookN, Nat.reduceEqDiff, not_false_eq_true, Bool.true_and, Bool.false_and, Bool.true_or, Bool.false_or, cond_true, cond_false]), f50, f51, f52, i53⟩
      rintro ⟨σ80, H67, d81⟩ ⟨h68, h69, h70, h71, h72, h73, f74, f75, f76, i77⟩
      obtain ⟨H82, a83, f84, u85⟩ := st_ok (M := Mt) (t := 4) (v := (.bool ((x39.f_In.nth j64) || (x40.f_In.nth j64)))) (c := cBool ((x39.f_In.nth j64) || (x40.f_In.nth j64))) (cs' := ref01_Set.c ({ x39 with f_In := x39.f_In.put j64 ((x39.f_In.nth j64) || (x40.f_In.nth j64)) })) f74 (by rw [enc_bool.len]; exact T.sz4) rfl (enc_bool.one _) (Nat.le_trans hcn r6) (Nat.le_trans (Nat.le_of_eq (congrArg _ (eqL enc_bool.len))) ((Seg.refl.sub (ref01_Set.seg0 x39)).sub (sgA enc_bool.len (a := x39.f_In) (ck_lt ej64).1)).2) (by rw [wrs_in (Seg.refl.sub (ref01_Set.seg0 x39)) (by have := (ck_lt ej64).1; simp only [enc_bool.len, (enc_arr (n := 256) enc_bool).len]; omega), wrA enc_bool.len (a := x39.f_In) (v := (x39.f_In.nth j64) || (x40.f_In.nth j64)) (ck_lt ej64).1, Nat.zero_add, ref01_Set.wr0 x39 (x39.f_In.put j64 ((x39.f_In.nth j64) || (x40.f_In.nth j64)))])
      have i86 := i77.up u85 r6
      have f87 := (u85.get _ (ne_len f4 q15).symm).trans f75
      have f88 := (u85.get _ (ne_len f20 q26).symm).trans f76
      simp only [C.f33r4p1, R, Nat.reduceEqDiff, fa68_0, h68, ia66, ej64, h72, a83, h73]
      refine hJ _ ?_
      refine n61 _ ?_
      refine n59 _ ?_
      refine tk_oe okM hok fun J hJ => ?_
      simp only [C.f33r3, R, Nat.reduceEqDiff, h71]
      refine hJ _ ?_
      refine n43 _ ?_
      exact ⟨{ x39 with f_In := x39.f_In.put j64 ((x39.f_In.nth j64) || (x40.f_In.nth j64)) }, x40, x41, IntKind.i64.wrap (x5_42 + 1), hm, h68, h69, h70, rfl, f84, f87, f88, i86⟩
    · replace hm := cond_f hm g58
      refine tk_exit okM ?_
      refine x57 _ _ (by simp) ?_
      refine x44 _ _ (by simp) ?_
      refine e37 _ ?_
      refine n34 _ ?_
      refine tk_os okM hok fun J hJ => ?_
      have a89 := ld_agg (M := Mt) (t := 68) f50 T.ag68 (by rw [ref01_Set.enc.len]; exact T.sz68) Seg.refl
      obtain ⟨H90, a91, f92, u93⟩ := st_ok (M := Mt) (t := 68) (v := (vAgg (ref01_Set.c (x39)))) (c := ref01_Set.c x39) (cs' := ref01_Set.c x39) f52 (by rw [ref01_Set.enc.len]; exact T.sz68) vAgg_cells (ref01_Set.enc.one _) (Nat.le_trans hcn r27) (le0 ref01_Set.enc.len) (wrs_all (eqL ref01_Set.enc.len))
      have i94 := i53.up u93 r27
      have f95 := (u93.get _ (ne_len f20 q26)).trans f50
      have f96 := (u93.get _ (ne_len f14 q26)).trans f51
      simp only [C.f33r5, R, Nat.reduceEqDiff, a89, h46, a91, h48]
      refine hJ _ ?_
      refine tk_ret okM ?_
      obtain rfl := Option.some.inj hm
      exact end_flat (.inl rfl) (vs := [(vAgg (ref01_Set.c (x39)))]) (resC' (v := (vAgg (ref01_Set.c (x39)))) h48 (ldv_of (ld_agg (M := Mt) (t := 68) f92 T.ag68 (by rw [ref01_Set.enc.len]; exact T.sz68) Seg.refl)) resN) (fm_cons (flat_agg ref01_Set.enc _) fm_nil)

-- clew/clewref01.Not
def b_ref01_Not_1 (n : Nat) : Nat → ref01_Set → ref01_Set → Int → Option (ref01_Set)
  | 0, _, _, _ => none
  | k + 1, x27, x28, x3_29 => bif decide (x3_29 < 256) then ((ck 256 x3_29).bind fun j49 => b_ref01_Not_1 n k ({ x27 with f_In := x27.f_In.put j49 (!(x27.f_In.nth j49)) }) x28 (IntKind.i64.wrap (x3_29 + 1))) else (some x27)
def b_ref01_Not (n : Nat) (x0 : ref01_Set) : Option (ref01_Set) := b_ref01_Not_1 n n x0 ref01_Set.zero 0

theorem w_ref01_Not {call : CallF} (hok : CallOk Mt call) {n : Nat} {H0 : Hp} {x0 : ref01_Set} {r : ref01_Set} {ro : Nat} (hro : ro ≤ H0.length) (hm : b_ref01_Not n x0 = some r) :
    Pt Mt ro 34 [(vAgg (ref01_Set.c x0))] H0 (vAgg (ref01_Set.c (r))) H0 [] := by
  refine pt_new0 okM F34d (by exact Nat.le_of_ble_eq_true rfl) ?_ hro
  intro c hnt hnb hcr
  have hcn : c.ro ≤ c.nb := by omega
  have iv : Iv c.nb [] H0 H0 := by rw [hnb]; exact iv_refl
  rw [show args0 [(vAgg (ref01_Set.c x0))] = [(0, (vAgg (ref01_Set.c x0)))] from rfl]
  rw [b_ref01_Not] at hm
  simp only [C.f34, C.f34b0]
  refine tk_os okM hok fun J hJ => ?_
  obtain ⟨b1, H2, a3, f4, q5, r6, x7, i8⟩ := bx_ok (M := Mt) (t := 68) (u := (vAgg (ref01_Set.c (x0)))) (cs := ref01_Set.c x0) H0 iv.le (by rw [ref01_Set.enc.len]; exact T.sz68) vAgg_cells (ref01_Set.enc.one _)
  have i9 := i8 _ _ iv
  obtain ⟨b11, H12, a13, f14, q15, r16, x17, i18⟩ := al_ok H2 68 (ref01_Set.c ref01_Set.zero) i9.le
  have i19 := i18 _ _ i9
  have f20 := x17 _ _ f4
  simp only [C.f34r0, R, Nat.reduceEqDiff, a3, zs68, a13]
  refine hJ _ ?_
  refine tk_seq_k fun K n22 x23 => ?_
  refine tk_os okM hok fun J hJ => ?_
  simp only [C.f34r1, R, Nat.reduceEqDiff]
  refine hJ _ ?_
  refine tk_block_k fun K n24 e25 x26 => ?_
  refine tk_loop_k (n := n) (fun k1 ⟨σ, H, _⟩ => ∃ x27 x28 x3_29, b_ref01_Not_1 n k1 x27 x28 x3_29 = some r ∧ Lk σ 1 (.pointer (some ⟨b1, 0, none⟩)) ∧ Lk σ 2 (.pointer (some ⟨b11, 0, none⟩)) ∧ Lk σ 3 (.int .i64 x3_29) ∧ H[b1]? = some (.cells (ref01_Set.c x27) 68) ∧ H[b11]? = some (.cells (ref01_Set.c x28) 68) ∧ Iv c.nb [] H0 H) ?_ ?_ ?_
  · exact ⟨x0, ref01_Set.zero, 0, hm, rfl, rfl, rfl, f20, f14, i19⟩
  · rintro ⟨σ, H, d⟩ ⟨_, _, _, hm, _⟩
    cases hm
  · intro k1 K n30 x31
    rintro ⟨σ39, H32, d40⟩ ⟨x27, x28, x3_29, hm, h33, h34, h35, f36, f37, i38⟩
    rw [b_ref01_Not_1.eq_2] at hm
    refine tk_seq_k fun K n41 x42 => ?_
    refine tk_os okM hok fun J hJ => ?_
    simp only [C.f34r2, R, Nat.reduceEqDiff, h35]
    refine hJ _ ?_
    refine tk_cond (t := decide (x3_29 < 256)) rfl (fun g43 => ?_) (fun g43 => ?_)
    · replace hm := cond_t hm g43
      refine tk_skip okM ?_
      refine n41 _ ?_
      refine tk_seq_k fun K n44 x45 => ?_
      refine tk_block_k fun K n46 e47 x48 => ?_
      refine tk_oe okM hok fun J hJ => ?_
      obtain ⟨j49, ej49, hm⟩ := bind_s hm
      have a50 := ld_one (M := Mt) (t := 4) f36 T.ag4 ((Seg.refl.sub (ref01_Set.seg0 x27)).sub (sgA enc_bool.len (a := x27.f_In) (ck_lt ej49).1))
      obtain ⟨H51, a52, f53, u54⟩ := st_ok (M := Mt) (t := 4) (v := (.bool (!(x27.f_In.nth j49)))) (c := cBool (!(x27.f_In.nth j49))) (cs' := ref01_Set.c ({ x27 with f_In := x27.f_In.put j49 (!(x27.f_In.nth j49)) })) f36 (by rw [enc_bool.len]; exact T.sz4) rfl (enc_bool.one _) (Nat.le_trans hcn r6) (Nat.le_trans (Nat.le_of_eq (congrArg _ (eqL enc_bool.len))) ((Seg.refl.sub (ref01_Set.seg0 x27)).sub (sgA enc_bool.len (a := x27.f_In) (ck_lt ej49).1)).2) (by rw [wrs_in (Seg.refl.sub (ref01_Set.seg0 x27)) (by have := (ck_lt ej49).1; simp only [enc_bool.len, (enc_arr (n := 256) enc_bool).len]; omega), wrA enc_bool.len (a := x27.f_In) (v := !(x27.f_In.nth j49)) (ck_lt ej49).1, Nat.zero_add, ref01_Set.wr0 x27 (x27.f_In.put j49 (!(x27.f_In.nth j49)))])
      have i55 := i38.up u54 r6
      have f56 := (u54.get _ (ne_len f4 q15).symm).trans f37
      simp only [C.f34r4, R, Nat.reduceEqDiff, h35, fa68_0, h33, ia66, ej49, a50, a52]
      refine hJ _ ?_
      refine n46 _ ?_
      refine n44 _ ?_
      refine tk_oe okM hok fun J hJ => ?_
      simp only [C.f34r3, R, Nat.reduceEqDiff, h35]
      refine hJ _ ?_
      refine n30 _ ?_
      exact ⟨{ x27 with f_In := x27.f_In.put j49 (!(x27.f_In.nth j49)) }, x28, IntKind.i64.wrap (x3_29 + 1), hm, h33, h34, rfl, f53, f56, i55⟩
    · replace hm := cond_f hm g43
      refine tk_exit okM ?_
      refine x42 _ _ (by simp) ?_
      refine x31 _ _ (by simp) ?_
      refine e25 _ ?_
      refine n22 _ ?_
      refine tk_os okM hok fun J hJ => ?_
      have a57 := ld_agg (M := Mt) (t := 68) f36 T.ag68 (by rw [ref01_Set.enc.len]; exact T.sz68) Seg.refl
      obtain ⟨H58, a59, f60, u61⟩ := st_ok (M := Mt) (t := 68) (v := (vAgg (ref01_Set.c (x27)))) (c := ref01_Set.c x27) (cs' := ref01_Set.c x27) f37 (by rw [ref01_Set.enc.len]; exact T.sz68) vAgg_cells (ref01_Set.enc.one _) (Nat.le_trans hcn r16) (le0 ref01_Set.enc.len) (wrs_all (eqL ref01_Set.enc.len))
      have i62 := i38.up u61 r16
      have f63 := (u61.get _ (ne_len f4 q15)).trans f36
      simp only [C.f34r5, R, Nat.reduceEqDiff, a57, h33, a59, h34]
      refine hJ _ ?_
      refine tk_ret okM ?_
      obtain rfl := Option.some.inj hm
      exact end_flat (.inl rfl) (vs := [(vAgg (ref01_Set.c (x27)))]) (resC' (v := (vAgg (ref01_Set.c (x27)))) h34 (ldv_of (ld_agg (M := Mt) (t := 68) f60 T.ag68 (by rw [ref01_Set.enc.len]; exact T.sz68) Seg.refl)) resN) (fm_cons (flat_agg ref01_Set.enc _) fm_nil)

-- clew/clewref01.Words
def b_ref01_Words_2 (n : Nat) (q1 : ref01_Set → (Arr Int 4) → (Arr Int 4) → Int → Option ((Arr Int 4))) (x66 : ref01_Set) (x67 : (Arr Int 4)) (x68 : (Arr Int 4)) (x4_69 : Int) : Option ((Arr Int 4)) := q1 x66 x67 x68 (IntKind.i64.wrap (x4_69 - 1))
def b_ref01_Words_1 (n : Nat) : Nat → ref01_Set → (Arr Int 4) → (Arr Int 4) → Int → Option ((Arr Int 4))
  | 0, _, _, _, _ => none
  | k + 1, x46, x47, x48, x4_49 => bif decide (0 ≤ x4_49) then ((quoO .i64 x4_49 64).bind fun v86 => (ck 4 v86).bind fun j87 => (ck 256 x4_49).bind fun j96 => bif x46.f_In.nth j96 then (b_ref01_Words_2 n (b_ref01_Words_1 n k) x46 x47 ((x48.put j87 (IntKind.u64.wrap ((x48.nth j87) * 2))).put j87 (IntKind.u64.wrap (((x48.put j87 (IntKind.u64.wrap ((x48.nth j87) * 2))).nth j87) + 1))) x4_49) else (b_ref01_Words_2 n (b_ref01_Words_1 n k) x46 x47 (x48.put j87 (IntKind.u64.wrap ((x48.nth j87) * 2))) x4_49)) else (some x48)
def b_ref01_Words (n : Nat) (x0 : ref01_Set) : Option ((Arr Int 4)) := b_ref01_Words_1 n n x0 ((Arr.rep 4 0)) ((Arr.rep 4 0)) 255

theorem w_ref01_Words {call : CallF} (hok : CallOk Mt call) {n : Nat} {H0 : Hp} {x0 : ref01_Set} {r : (Arr Int 4)} {ro : Nat} (hro : ro ≤ H0.length) (hm : b_ref01_Words n x0 = some r) :
    Pt Mt ro 35 [(vAgg (ref01_Set.c x0))] H0 (vAgg ((cArr (n := 4) (cInt .u64)) (r))) H0 [] := by
  refine pt_new0 okM F35d (by exact Nat.le_of_ble_eq_true rfl) ?_ hro
  intro c hnt hnb hcr
  have hcn : c.ro ≤ c.nb := by omega
  have iv : Iv c.nb [] H0 H0 := by rw [hnb]; exact iv_refl
  rw [show args0 [(vAgg (ref01_Set.c x0))] = [(0, (vAgg (ref01_Set.c x0)))] from rfl]
  rw [b_ref01_Words] at hm
  simp only [C.f35, C.f35b0]
  refine tk_os okM hok fun J hJ => ?_
  obtain ⟨b1, H2, a3, f4, q5, r6, x7, i8⟩ := bx_ok (M := Mt) (t := 68) (u := (vAgg (ref01_Set.c (x0)))) (cs := ref01_Set.c x0) H0 iv.le (by rw [ref01_Set.enc.len]; exact T.sz68) vAgg_cells (ref01_Set.enc.one _)
  have i9 := i8 _ _ iv
  obtain ⟨b11, H12, a13, f14, q15, r16, x17, i18⟩ := al_ok H2 34 ((cArr (n := 4) (cInt .u64)) (Arr.rep 4 0)) i9.le
  have i19 := i18 _ _ i9
  have f20 := x17 _ _ f4
  simp only [C.f35r0, R, Nat.reduceEqDiff, a3, zs34, a13]
  refine hJ _ ?_
  refine tk_os okM hok fun J hJ => ?_
  obtain ⟨b22, H23, a24, f25, q26, r27, x28, i29⟩ := al_ok H12 34 ((cArr (n := 4) (cInt .u64)) (Arr.rep 4 0)) i19.le
  have i30 := i29 _ _ i19
  have f31 := x28 _ _ f20
  have f32 := x28 _ _ f14
  obtain ⟨H34, a35, f36, u37⟩ := st_ok (M := Mt) (t := 34) (v := (vAgg ((cArr (n := 4) (cInt .u64)) ((Arr.rep 4 0))))) (c := (cArr (n := 4) (cInt .u64)) ((Arr.rep 4 0))) (cs' := (cArr (n := 4) (cInt .u64)) ((Arr.rep 4 0))) f25 (by rw [(enc_arr (n := 4) enc_int).len]; exact T.sz34) vAgg_cells ((enc_arr (n := 4) enc_int).one _) (Nat.le_trans hcn r27) (le0 (enc_arr (n := 4) enc_int).len) (wrs_all (eqL (enc_arr (n := 4) enc_int).len))
  have i38 := i30.up u37 r27
  have f39 := (u37.get _ (ne_len f20 q26)).trans f31
  have f40 := (u37.get _ (ne_len f14 q26)).trans f32
  simp only [C.f35r1, R, Nat.reduceEqDiff, bd_zero (M := Mt) zs34 Tryd.underlying34, zs34, a24, a35]
  refine hJ _ ?_
  refine tk_seq_k fun K n41 x42 => ?_
  refine tk_os okM hok fun J hJ => ?_
  simp only [C.f35r2, R, Nat.reduceEqDiff]
  refine hJ _ ?_
  refine tk_block_k fun K n43 e44 x45 => ?_
  refine tk_loop_k (n := n) (fun k1 ⟨σ, H, _⟩ => ∃ x46 x47 x48 x4_49, b_ref01_Words_1 n k1 x46 x47 x48 x4_49 = some r ∧ Lk σ 1 (.pointer (some ⟨b1, 0, none⟩)) ∧ Lk σ 2 (.pointer (some ⟨b11, 0, none⟩)) ∧ Lk σ 3 (.pointer (some ⟨b22, 0, none⟩)) ∧ Lk σ 4 (.int .i64 x4_49) ∧ H[b1]? = some (.cells (ref01_Set.c x46) 68) ∧ H[b11]? = some (.cells ((cArr (n := 4) (cInt .u64)) x47) 34) ∧ H[b22]? = some (.cells ((cArr (n := 4) (cInt .u64)) x48) 34) ∧ Iv c.nb [] H0 H) ?_ ?_ ?_
  · exact ⟨x0, (Arr.rep 4 0), (Arr.rep 4 0), 255, hm, rfl, rfl, rfl, rfl, f39, f40, f36, i38⟩
  · rintro ⟨σ, H, d⟩ ⟨_, _, _, _, hm, _⟩
    cases hm
  · intro k1 K n50 x51
    rintro ⟨σ61, H52, d62⟩ ⟨x46, x47, x48, x4_49, hm, h53, h54, h55, h56, f57, f58, f59, i60⟩
    rw [b_ref01_Words_1.eq_2] at hm
    refine tk_seq_k fun K n63 x64 => ?_
    refine tk_os okM hok fun J hJ => ?_
    simp only [C.f35r3, R, Nat.reduceEqDiff, h56]
    refine hJ _ ?_
    refine tk_cond (t := decide (0 ≤ x4_49)) rfl (fun g65 => ?_) (fun g65 => ?_)
    · replace hm := cond_t hm g65
      refine tk_skip okM ?_
      refine n63 _ ?_
      refine tk_seq_j (fun ⟨σ, H, _⟩ => ∃ x66 x67 x68 x4_69, b_ref01_Words_2 n (b_ref01_Words_1 n k1) x66 x67 x68 x4_69 = some r ∧ Lk σ 1 (.pointer (some ⟨b1, 0, none⟩)) ∧ Lk σ 2 (.pointer (some ⟨b11, 0, none⟩)) ∧ Lk σ 3 (.pointer (some ⟨b22, 0, none⟩)) ∧ Lk σ 4 (.int .i64 x4_69) ∧ H[b1]? = some (.cells (ref01_Set.c x66) 68) ∧ H[b11]? = some (.cells ((cArr (n := 4) (cInt .u64)) x67) 34) ∧ H[b22]? = some (.cells ((cArr (n := 4) (cInt .u64)) x68) 34) ∧ Iv c.nb [] H0 H) ?_ ?_
      · skip
        rintro ⟨σ79, H70, d80⟩ ⟨x66, x67, x68, x4_69, hm, h71, h72, h73, h74, f75, f76, f77, i78⟩
        rw [b_ref01_Words_2] at hm
        refine tk_oe okM hok fun J hJ => ?_
        simp only [C.f35r4, R, Nat.reduceEqDiff, h74]
        refine hJ _ ?_
        refine n50 _ ?_
        exact ⟨x66, x67, x68, IntKind.i64.wrap (x4_69 - 1), hm, h71, h72, h73, rfl, f75, f76, f77, i78⟩
      · refine fun K n81 x82 => ?_
        refine tk_block_k fun K n83 e84 x85 => ?_
        refine tk_os okM hok fun J hJ => ?_
        obtain ⟨v86, ev86, hm⟩ := bind_s hm
        obtain ⟨j87, ej87, hm⟩ := bind_s hm
        have a88 := ld_one (M := Mt) (t := 33) f59 T.ag33 (Seg.refl.sub (sgA enc_int.len (a := x48) (ck_lt ej87).1))
        obtain ⟨H89, a90, f91, u92⟩ := st_ok (M := Mt) (t := 33) (v := (.int .u64 (IntKind.u64.wrap ((x48.nth j87) * 2)))) (c := (cInt .u64) (IntKind.u64.wrap ((x48.nth j87) * 2))) (cs' := (cArr (n := 4) (cInt .u64)) (x48.put j87 (IntKind.u64.wrap ((x48.nth j87) * 2)))) f59 (by rw [enc_int.len]; exact T.sz33) rfl (enc_int.one _) (Nat.le_trans hcn r27) (Nat.le_trans (Nat.le_of_eq (congrArg _ (eqL enc_int.len))) (Seg.refl.sub (sgA enc_int.len (a := x48) (ck_lt ej87).1)).2) (by rw [Nat.zero_add, wrA enc_int.len (a := x48) (v := IntKind.u64.wrap ((x48.nth j87) * 2)) (ck_lt ej87).1])
        have i93 := i60.up u92 r27
        have f94 := (u92.get _ (ne_len f20 q26)).trans f57
        have f95 := (u92.get _ (ne_len f14 q26)).trans f58
        simp only [C.f35r5, R, Nat.reduceEqDiff, h56, ev86, ia34, ej87, h55, a88, a90]
        refine hJ _ ?_
        refine tk_os okM hok fun J hJ => ?_
        obtain ⟨j96, ej96, hm⟩ := bind_s hm
        have a97 := ld_one (M := Mt) (t := 4) f94 T.ag4 ((Seg.refl.sub (ref01_Set.seg0 x46)).sub (sgA enc_bool.len (a := x46.f_In) (ck_lt ej96).1))
        simp only [C.f35r6, R, Nat.reduceEqDiff, h56, fa68_0, h53, ia66, ej96, a97]
        refine hJ _ ?_
        refine tk_cond (t := x46.f_In.nth j96) rfl (fun g98 => ?_) (fun g98 => ?_)
        · replace hm := cond_t hm g98
          refine tk_oe okM hok fun J hJ => ?_
          have a99 := ld_one (M := Mt) (t := 33) f91 T.ag33 (Seg.refl.sub (sgA enc_int.len (a := x48.put j87 (IntKind.u64.wrap ((x48.nth j87) * 2))) (ck_lt ej87).1))
          obtain ⟨H100, a101, f102, u103⟩ := st_ok (M := Mt) (t := 33) (v := (.int .u64 (IntKind.u64.wrap (((x48.put j87 (IntKind.u64.wrap ((x48.nth j87) * 2))).nth j87) + 1)))) (c := (cInt .u64) (IntKind.u64.wrap (((x48.put j87 (IntKind.u64.wrap ((x48.nth j87) * 2))).nth j87) + 1))) (cs' := (cArr (n := 4) (cInt .u64)) ((x48.put j87 (IntKind.u64.wrap ((x48.nth j87) * 2))).put j87 (IntKind.u64.wrap (((x48.put j87 (IntKind.u64.wrap ((x48.nth j87) * 2))).nth j87) + 1)))) f91 (by rw [enc_int.len]; exact T.sz33) rfl (enc_int.one _) (Nat.le_trans hcn r27) (Nat.le_trans (Nat.le_of_eq (congrArg _ (eqL enc_int.len))) (Seg.refl.sub (sgA enc_int.len (a := x48.put j87 (IntKind.u64.wrap ((x48.nth j87) * 2))) (ck_lt ej87).1)).2) (by rw [Nat.zero_add, wrA enc_int.len (a := x48.put j87 (IntKind.u64.wrap ((x48.nth j87) * 2))) (v := IntKind.u64.wrap (((x48.put j87 (IntKind.u64.wrap ((x48.nth j87) * 2))).nth j87) + 1)) (ck_lt ej87).1])
          have i104 := i93.up u103 r27
          have f105 := (u103.get _ (ne_len f20 q26)).trans f94
          have f106 := (u103.get _ (ne_len f14 q26)).trans f95
          simp only [C.f35r7, R, Nat.reduceEqDiff, h56, ev86, ia34, ej87, h55, a99, a101]
          refine hJ _ ?_
          refine n83 _ ?_
          refine n81 _ ?_
          exact ⟨x46, x47, (x48.put j87 (IntKind.u64.wrap ((x48.nth j87) * 2))).put j87 (IntKind.u64.wrap (((x48.put j87 (IntKind.u64.wrap ((x48.nth j87) * 2))).nth j87) + 1)), x4_49, hm, h53, h54, h55, h56, f105, f106, f102, i104⟩
        · replace hm := cond_f hm g98
          refine tk_skip okM ?_
          refine n83 _ ?_
          refine n81 _ ?_
          exact ⟨x46, x47, x48.put j87 (IntKind.u64.wrap ((x48.nth j87) * 2)), x4_49, hm, h53, h54, h55, h56, f94, f95, f91, i93⟩
    · replace hm := cond_f hm g65
      refine tk_exit okM ?_
      refine x64 _ _ (by simp) ?_
      refine x51 _ _ (by simp) ?_
      refine e44 _ ?_
      refine n41 _ ?_
      refine tk_os okM hok fun J hJ => ?_
      have a107 := ld_agg (M := Mt) (t := 34) f59 T.ag34 (by rw [(enc_arr (n := 4) enc_int).len]; exact T.sz34) Seg.refl
      obtain ⟨H108, a109, f110, u111⟩ := st_ok (M := Mt) (t := 34) (v := (vAgg ((cArr (n := 4) (cInt .u64)) (x48)))) (c := (cArr (n := 4) (cInt .u64)) x48) (cs' := (cArr (n := 4) (cInt .u64)) x48) f58 (by rw [(enc_arr (n := 4) enc_int).len]; exact T.sz34) vAgg_cells ((enc_arr (n := 4) enc_int).one _) (Nat.le_trans hcn r16) (le0 (enc_arr (n := 4) enc_int).len) (wrs_all (eqL (enc_arr (n := 4) enc_int).len))
      have i112 := i60.up u111 r16
      have f113 := (u111.get _ (ne_len f4 q15)).trans f57
      have f114 := (u111.get _ (ne_len f14 q26).symm).trans f59
      simp only [C.f35r8, R, Nat.reduceEqDiff, a107, h55, a109, h54]
      refine hJ _ ?_
      refine tk_ret okM ?_
      obtain rfl := Option.some.inj hm
      exact end_flat (.inl rfl) (vs := [(vAgg ((cArr (n := 4) (cInt .u64)) (x48)))]) (resC' (v := (vAgg ((cArr (n := 4) (cInt .u64)) (x48)))) h54 (ldv_of (ld_agg (M := Mt) (t := 34) f110 T.ag34 (by rw [(enc_arr (n := 4) enc_int).len]; exact T.sz34) Seg.refl)) resN) (fm_cons (flat_agg (enc_arr (n := 4) enc_int) _) fm_nil)

-- (*clew/class.Set).add
def b_class_Set_add (n : Nat) (x0 : class_Set) (x1 : Int) : Option (class_Set) := (quoO .u8 x1 64).bind fun v2 => (ck 4 v2).bind fun j3 => (remO x1 64).bind fun v5 => (shlO .u64 1 v5).bind fun v6 => some ({ x0 with f_W := x0.f_W.put j3 (orI .u64 (x0.f_W.nth j3) v6) })

theorem w_class_Set_add {call : CallF} (hok : CallOk Mt call) {n : Nat} {H0 : Hp} {x0 : class_Set} {b0 : Nat} {x1 : Int} {r : class_Set} {ro : Nat} (hro : ro ≤ H0.length) (hO : H0[b0]? = some (.cells (class_Set.c x0) 36)) (hB : ro ≤ b0) (hm : b_class_Set_add n x0 x1 = some r) :
    Pt Mt ro 36 [(.pointer (some ⟨b0, 0, none⟩)), (.int .u8 x1)] H0 (.tuple [].toArray) (H0.set b0 (.cells (class_Set.c r) 36)) [] := by
  refine pt_mut okM F36d (by exact Nat.le_of_ble_eq_true rfl) hro ?_ (by simp) ?_ ?_
  · exact fun b hb => up_set.get b (by omega)
  · exact kept_set hO (class_Set.enc.flat _)
  intro c hnt hnb hcr
  have hcn : c.ro ≤ c.nb := by omega
  replace hB : c.ro ≤ b0 := by omega
  have iv : Iv c.nb [b0] H0 H0 := by rw [hnb]; exact iv_refl
  rw [show args0 [(.pointer (some ⟨b0, 0, none⟩)), (.int .u8 x1)] = [(0, (.pointer (some ⟨b0, 0, none⟩))), (1, (.int .u8 x1))] from rfl]
  rw [b_class_Set_add] at hm
  simp only [C.f36]
  refine tk_oe okM hok fun J hJ => ?_
  obtain ⟨v2, ev2, hm⟩ := bind_s hm
  obtain ⟨j3, ej3, hm⟩ := bind_s hm
  have a4 := ld_one (M := Mt) (t := 33) hO T.ag33 ((Seg.refl.sub (class_Set.seg0 x0)).sub (sgA enc_int.len (a := x0.f_W) (ck_lt ej3).1))
  obtain ⟨v5, ev5, hm⟩ := bind_s hm
  obtain ⟨v6, ev6, hm⟩ := bind_s hm
  obtain ⟨H7, a8, f9, u10⟩ := st_ok (M := Mt) (t := 33) (v := (.int .u64 (orI .u64 (x0.f_W.nth j3) v6))) (c := (cInt .u64) (orI .u64 (x0.f_W.nth j3) v6)) (cs' := class_Set.c ({ x0 with f_W := x0.f_W.put j3 (orI .u64 (x0.f_W.nth j3) v6) })) hO (by rw [enc_int.len]; exact T.sz33) rfl (enc_int.one _) hB (Nat.le_trans (Nat.le_of_eq (congrArg _ (eqL enc_int.len))) ((Seg.refl.sub (class_Set.seg0 x0)).sub (sgA enc_int.len (a := x0.f_W) (ck_lt ej3).1)).2) (by rw [wrs_in (Seg.refl.sub (class_Set.seg0 x0)) (by have := (ck_lt ej3).1; simp only [enc_int.len, (enc_arr (n := 4) enc_int).len]; omega), wrA enc_int.len (a := x0.f_W) (v := orI .u64 (x0.f_W.nth j3) v6) (ck_lt ej3).1, Nat.zero_add, class_Set.wr0 x0 (x0.f_W.put j3 (orI .u64 (x0.f_W.nth j3) v6))])
  have i11 := iv.upX u10 (by simp)
  simp only [C.f36r0, R, Nat.reduceEqDiff, ev2, fa36_0, ia34, ej3, a4, ev5, ev6, a8]
  refine hJ _ ?_
  obtain rfl := Option.some.inj hm
  exact end_mut (.inr rfl) (vs := []) resN fm_nil (by simp) (fun b hb => by
    by_cases hx : b = b0
    · subst hx; rw [get_set hO, f9]
    · rw [(up_set).get _ hx, i11.old b (by omega) (by simpa using hx)])

-- clew/lex.simple
def b_lex_simple (c_strings_IndexByte : T_strings_IndexByte) (n : Nat) (x0 : Int) : Option (Int × Bool) := (c_strings_IndexByte ((⟨#[46, 94, 36, 124, 41]⟩ : ByteArray)) x0).bind fun v2 => bif decide (v2 < 0) then (some (0, false)) else ((ck 5 v2).bind fun j22 => some (((⟨[1, 2, 3, 6, 15], rfl⟩ : (Arr Int 5))).nth j22, true))

theorem w_lex_simple {call : CallF} (hok : CallOk Mt call) {n : Nat} {c_strings_IndexByte : T_strings_IndexByte} (ha_strings_IndexByte : A_strings_IndexByte call c_strings_IndexByte) {H0 : Hp} {x0 : Int} {r : Int × Bool} {ro : Nat} (hro : ro ≤ H0.length) (hm : b_lex_simple c_strings_IndexByte n x0 = some r) :
    Pt Mt ro 37 [(.int .u8 x0)] H0 (.tuple [(.int .i64 (r.1)), (.bool (r.2))].toArray) H0 [] := by
  refine pt_new0 okM F37d (by exact Nat.le_of_ble_eq_true rfl) ?_ hro
  intro c hnt hnb hcr
  have hcn : c.ro ≤ c.nb := by omega
  have iv : Iv c.nb [] H0 H0 := by rw [hnb]; exact iv_refl
  rw [show args0 [(.int .u8 x0)] = [(0, (.int .u8 x0))] from rfl]
  rw [b_lex_simple] at hm
  simp only [C.f37]
  refine tk_os okM hok fun J hJ => ?_
  simp only [C.f37r0, R, Nat.reduceEqDiff]
  refine hJ _ ?_
  refine tk_os okM hok fun J hJ => ?_
  obtain ⟨v2, ev2, hm⟩ := bind_s hm
  have a1 := ha_strings_IndexByte c.ro H0 ((⟨#[46, 94, 36, 124, 41]⟩ : ByteArray)) x0 v2 ev2
  simp only [C.f37r1, R, Nat.reduceEqDiff, c_fn F49, a1]
  refine hJ _ ?_
  refine tk_os okM hok fun J hJ => ?_
  have a3 {H : Hp} : bdP Mt H 87 [(0, (.int .i64 (1))), (1, (.int .i64 (2))), (2, (.int .i64 (3))), (3, (.int .i64 (6))), (4, (.int .i64 (15)))] = some (.val (vAgg ((cArr (n := 5) (cInt .i64)) (⟨[1, 2, 3, 6, 15], rfl⟩ : (Arr Int 5)))), H) := bd_arr (z := 1) Tryd.underlying87 T.zc87 rfl T.sz3 enc_int rfl rfl
  obtain ⟨b4, H5, a6, f7, q8, r9, x10, i11⟩ := al_ok H0 87 ((cArr (n := 5) (cInt .i64)) (Arr.rep 5 0)) iv.le
  have i12 := i11 _ _ iv
  obtain ⟨H14, a15, f16, u17⟩ := st_ok (M := Mt) (t := 87) (v := (vAgg ((cArr (n := 5) (cInt .i64)) ((⟨[1, 2, 3, 6, 15], rfl⟩ : (Arr Int 5)))))) (c := (cArr (n := 5) (cInt .i64)) ((⟨[1, 2, 3, 6, 15], rfl⟩ : (Arr Int 5)))) (cs' := (cArr (n := 5) (cInt .i64)) ((⟨[1, 2, 3, 6, 15], rfl⟩ : (Arr Int 5)))) f7 (by rw [(enc_arr (n := 5) enc_int).len]; exact T.sz87) vAgg_cells ((enc_arr (n := 5) enc_int).one _) (Nat.le_trans hcn r9) (le0 (enc_arr (n := 5) enc_int).len) (wrs_all (eqL (enc_arr (n := 5) enc_int).len))
  have i18 := i12.up u17 r9
  simp only [C.f37r2, R, Nat.reduceEqDiff, a3, zs87, a6, a15]
  refine hJ _ ?_
  refine tk_seq_k fun K n19 x20 => ?_
  refine tk_os okM hok fun J hJ => ?_
  simp only [C.f37r3, R, Nat.reduceEqDiff]
  refine hJ _ ?_
  refine tk_cond (t := decide (v2 < 0)) rfl (fun g21 => ?_) (fun g21 => ?_)
  · replace hm := cond_t hm g21
    refine tk_os okM hok fun J hJ => ?_
    simp only [C.f37r4, R, Nat.reduceEqDiff]
    refine hJ _ ?_
    refine tk_ret okM ?_
    refine x20 _ _ (by simp) ?_
    obtain rfl := Option.some.inj hm
    exact end_flat (.inl rfl) (vs := [(.int .i64 (0)), (.bool (false))]) (resT' (v := (.int .i64 (0))) rfl (resT' (v := (.bool (false))) rfl resN)) (fm_cons rfl (fm_cons rfl fm_nil))
  · replace hm := cond_f hm g21
    refine tk_skip okM ?_
    refine n19 _ ?_
    refine tk_os okM hok fun J hJ => ?_
    obtain ⟨j22, ej22, hm⟩ := bind_s hm
    have a23 := ld_one (M := Mt) (t := 3) f16 T.ag3 (Seg.refl.sub (sgA enc_int.len (a := (⟨[1, 2, 3, 6, 15], rfl⟩ : (Arr Int 5))) (ck_lt ej22).1))
    simp only [C.f37r5, R, Nat.reduceEqDiff, ia87, ej22, a23]
    refine hJ _ ?_
    refine tk_ret okM ?_
    obtain rfl := Option.some.inj hm
    exact end_flat (.inl rfl) (vs := [(.int .i64 (((⟨[1, 2, 3, 6, 15], rfl⟩ : (Arr Int 5))).nth j22)), (.bool (true))]) (resT' (v := (.int .i64 (((⟨[1, 2, 3, 6, 15], rfl⟩ : (Arr Int 5))).nth j22))) rfl (resT' (v := (.bool (true))) rfl resN)) (fm_cons rfl (fm_cons rfl fm_nil))

-- clew/lex.opening
def b_lex_opening_2 (c_strings_HasPrefix : T_strings_HasPrefix) (c_lex_hasRune : T_lex_hasRune) (n : Nat) : Nat → lex_Token → ByteArray → ByteArray → Nat → Option (lex_Token × Int × Int)
  | 0, _, _, _, _ => none
  | k + 1, x76, x7_77, x78, x79 => bif decide (x79 < x78.size) then (bif (decide ((((Utf8.decode x78 x79).1 : Int)) = 58)) && (!decide (x7_77 = ((⟨#[]⟩ : ByteArray)))) then (some (({ lex_Token.zero with f_Kind := 14, f_Flags := x7_77 } : lex_Token), IntKind.i64.wrap (3 + ((x7_77.size : Int))), 0)) else ((bif ((!decide ((((Utf8.decode x78 x79).1 : Int)) = 105)) && (!decide ((((Utf8.decode x78 x79).1 : Int)) = 109))) && (!decide ((((Utf8.decode x78 x79).1 : Int)) = 115)) then some true else ((c_lex_hasRune x7_77 (((Utf8.decode x78 x79).1 : Int))).bind fun v161 => some v161)).bind fun y162 => bif y162 then (some (lex_Token.zero, 0, 3)) else ((sadd x7_77 (Utf8.encode (((Utf8.decode x78 x79).1 : Int)))).bind fun v184 => b_lex_opening_2 c_strings_HasPrefix c_lex_hasRune n k x76 v184 x78 (x79 + (Utf8.decode x78 x79).2)))) else (some (lex_Token.zero, 0, 3))
def b_lex_opening_1 (c_strings_HasPrefix : T_strings_HasPrefix) (c_lex_hasRune : T_lex_hasRune) (n : Nat) : Nat → ByteArray → lex_Token → (Arr ByteArray 6) → Int → Option (lex_Token × Int × Int)
  | 0, _, _, _, _ => none
  | k + 1, x0_27, x28, x14_29, x15_30 => bif decide (x15_30 < 6) then ((ck 6 x15_30).bind fun j50 => (c_strings_HasPrefix x0_27 (x14_29.nth j50)).bind fun v52 => bif v52 then (some (({ lex_Token.zero with f_Kind := IntKind.i64.wrap (8 + x15_30) } : lex_Token), ((x14_29.nth j50).size : Int), 0)) else (b_lex_opening_1 c_strings_HasPrefix c_lex_hasRune n k x0_27 x28 x14_29 (IntKind.i64.wrap (x15_30 + 1)))) else ((sub x0_27 2 x0_27.size).bind fun v61 => b_lex_opening_2 c_strings_HasPrefix c_lex_hasRune n n x28 ((⟨#[]⟩ : ByteArray)) v61 0)
def b_lex_opening (c_strings_HasPrefix : T_strings_HasPrefix) (c_lex_hasRune : T_lex_hasRune) (n : Nat) (x0 : ByteArray) : Option (lex_Token × Int × Int) := (c_strings_HasPrefix x0 ((⟨#[40, 63]⟩ : ByteArray))).bind fun v14 => bif !v14 then (some (({ lex_Token.zero with f_Kind := 7 } : lex_Token), 1, 0)) else (b_lex_opening_1 c_strings_HasPrefix c_lex_hasRune n n x0 lex_Token.zero ((⟨[(⟨#[40, 63, 58]⟩ : ByteArray), (⟨#[40, 63, 61]⟩ : ByteArray), (⟨#[40, 63, 33]⟩ : ByteArray), (⟨#[40, 63, 60, 61]⟩ : ByteArray), (⟨#[40, 63, 60, 33]⟩ : ByteArray), (⟨#[40, 63, 62]⟩ : ByteArray)], rfl⟩ : (Arr ByteArray 6))) 0)

theorem w_lex_opening {call : CallF} (hok : CallOk Mt call) {n : Nat} {c_strings_HasPrefix : T_strings_HasPrefix} (ha_strings_HasPrefix : A_strings_HasPrefix call c_strings_HasPrefix) {c_lex_hasRune : T_lex_hasRune} (ha_lex_hasRune : A_lex_hasRune call c_lex_hasRune) {H0 : Hp} {x0 : ByteArray} {r : lex_Token × Int × Int} {ro : Nat} (hro : ro ≤ H0.length) (hm : b_lex_opening c_strings_HasPrefix c_lex_hasRune n x0 = some r) :
    Pt Mt ro 38 [(.string x0)] H0 (.tuple [(vAgg (lex_Token.c (r.1))), (.int .i64 (r.2.1)), (.int .i64 (r.2.2))].toArray) H0 [] := by
  refine pt_new0 okM F38d (by exact Nat.le_of_ble_eq_true rfl) ?_ hro
  intro c hnt hnb hcr
  have hcn : c.ro ≤ c.nb := by omega
  have iv : Iv c.nb [] H0 H0 := by rw [hnb]; exact iv_refl
  rw [show args0 [(.string x0)] = [(0, (.string x0))] from rfl]
  rw [b_lex_opening] at hm
  simp only [C.f38, C.f38b0, C.f38b1]
  refine tk_os okM hok fun J hJ => ?_
  obtain ⟨b1, H2, a3, f4, q5, r6, x7, i8⟩ := al_ok H0 46 (lex_Token.c lex_Token.zero) iv.le
  have i9 := i8 _ _ iv
  simp only [C.f38r0, R, Nat.reduceEqDiff, zs46, a3]
  refine hJ _ ?_
  refine tk_seq_k fun K n11 x12 => ?_
  refine tk_os okM hok fun J hJ => ?_
  obtain ⟨v14, ev14, hm⟩ := bind_s hm
  have a13 := ha_strings_HasPrefix c.ro H2 x0 ((⟨#[40, 63]⟩ : ByteArray)) v14 ev14
  simp only [C.f38r1, R, Nat.reduceEqDiff, c_fn F26, a13]
  refine hJ _ ?_
  refine tk_cond (t := !v14) rfl (fun g15 => ?_) (fun g15 => ?_)
  · replace hm := cond_t hm g15
    refine tk_os okM hok fun J hJ => ?_
    obtain ⟨H16, a17, f18, u19⟩ := st_ok (M := Mt) (t := 46) (v := (vAgg (lex_Token.c (({ lex_Token.zero with f_Kind := 7 } : lex_Token))))) (c := lex_Token.c (({ lex_Token.zero with f_Kind := 7 } : lex_Token))) (cs' := lex_Token.c (({ lex_Token.zero with f_Kind := 7 } : lex_Token))) f4 (by rw [lex_Token.enc.len]; exact T.sz46) vAgg_cells (lex_Token.enc.one _) (Nat.le_trans hcn r6) (le0 lex_Token.enc.len) (wrs_all (eqL lex_Token.enc.len))
    have i20 := i9.up u19 r6
    simp only [C.f38r2, R, Nat.reduceEqDiff, bd46_0, a17]
    refine hJ _ ?_
    refine tk_ret okM ?_
    refine x12 _ _ (by simp) ?_
    obtain rfl := Option.some.inj hm
    exact end_flat (.inl rfl) (vs := [(vAgg (lex_Token.c (({ lex_Token.zero with f_Kind := 7 } : lex_Token)))), (.int .i64 (1)), (.int .i64 (0))]) (resC' (v := (vAgg (lex_Token.c (({ lex_Token.zero with f_Kind := 7 } : lex_Token))))) rfl (ldv_of (ld_agg (M := Mt) (t := 46) f18 T.ag46 (by rw [lex_Token.enc.len]; exact T.sz46) Seg.refl)) (resT' (v := (.int .i64 (1))) rfl (resT' (v := (.int .i64 (0))) rfl resN))) (fm_cons (flat_agg lex_Token.enc _) (fm_cons rfl (fm_cons rfl fm_nil)))
  · replace hm := cond_f hm g15
    refine tk_skip okM ?_
    refine n11 _ ?_
    refine tk_seq_k fun K n21 x22 => ?_
    refine tk_os okM hok fun J hJ => ?_
    have a23 {H : Hp} : bdP Mt H 88 [(0, (.string ((⟨#[40, 63, 58]⟩ : ByteArray)))), (1, (.string ((⟨#[40, 63, 61]⟩ : ByteArray)))), (2, (.string ((⟨#[40, 63, 33]⟩ : ByteArray)))), (3, (.string ((⟨#[40, 63, 60, 61]⟩ : ByteArray)))), (4, (.string ((⟨#[40, 63, 60, 33]⟩ : ByteArray)))), (5, (.string ((⟨#[40, 63, 62]⟩ : ByteArray))))] = some (.val (vAgg ((cArr (n := 6) cStr) (⟨[(⟨#[40, 63, 58]⟩ : ByteArray), (⟨#[40, 63, 61]⟩ : ByteArray), (⟨#[40, 63, 33]⟩ : ByteArray), (⟨#[40, 63, 60, 61]⟩ : ByteArray), (⟨#[40, 63, 60, 33]⟩ : ByteArray), (⟨#[40, 63, 62]⟩ : ByteArray)], rfl⟩ : (Arr ByteArray 6)))), H) := bd_arr (z := 1) Tryd.underlying88 T.zc88 rfl T.sz9 enc_str rfl rfl
    simp only [C.f38r3, R, Nat.reduceEqDiff, a23]
    refine hJ _ ?_
    refine tk_block_k fun K n24 e25 x26 => ?_
    refine tk_loop_k (n := n) (fun k1 ⟨σ, H, _⟩ => ∃ x0_27 x28 x14_29 x15_30, b_lex_opening_1 c_strings_HasPrefix c_lex_hasRune n k1 x0_27 x28 x14_29 x15_30 = some r ∧ Lk σ 0 (.string x0_27) ∧ Lk σ 2 (.pointer (some ⟨b1, 0, none⟩)) ∧ Lk σ 14 (vAgg ((cArr (n := 6) cStr) x14_29)) ∧ Lk σ 15 (.int .i64 x15_30) ∧ H[b1]? = some (.cells (lex_Token.c x28) 46) ∧ Iv c.nb [] H0 H) ?_ ?_ ?_
    · exact ⟨x0, lex_Token.zero, (⟨[(⟨#[40, 63, 58]⟩ : ByteArray), (⟨#[40, 63, 61]⟩ : ByteArray), (⟨#[40, 63, 33]⟩ : ByteArray), (⟨#[40, 63, 60, 61]⟩ : ByteArray), (⟨#[40, 63, 60, 33]⟩ : ByteArray), (⟨#[40, 63, 62]⟩ : ByteArray)], rfl⟩ : (Arr ByteArray 6)), 0, hm, rfl, rfl, rfl, rfl, f4, i9⟩
    · rintro ⟨σ, H, d⟩ ⟨_, _, _, _, hm, _⟩
      cases hm
    · intro k1 K n31 x32
      rintro ⟨σ40, H33, d41⟩ ⟨x0_27, x28, x14_29, x15_30, hm, h34, h35, h36, h37, f38, i39⟩
      rw [b_lex_opening_1.eq_2] at hm
      refine tk_os okM hok fun J hJ => ?_
      simp only [C.f38r4, R, Nat.reduceEqDiff, h37]
      refine hJ _ ?_
      refine tk_seq_k fun K n42 x43 => ?_
      refine tk_cond (t := decide (x15_30 < 6)) rfl (fun g44 => ?_) (fun g44 => ?_)
      · replace hm := cond_t hm g44
        refine tk_skip okM ?_
        refine n42 _ ?_
        refine tk_seq_k fun K n45 x46 => ?_
        refine tk_block_k fun K n47 e48 x49 => ?_
        refine tk_os okM hok fun J hJ => ?_
        obtain ⟨j50, ej50, hm⟩ := bind_s hm
        simp only [C.f38r5, R, Nat.reduceEqDiff, h37, ix88, ej50, h36]
        refine hJ _ ?_
        refine tk_os okM hok fun J hJ => ?_
        obtain ⟨v52, ev52, hm⟩ := bind_s hm
        have a51 := ha_strings_HasPrefix c.ro H33 x0_27 (x14_29.nth j50) v52 ev52
        simp only [C.f38r6, R, Nat.reduceEqDiff, h34, c_fn F26, a51]
        refine hJ _ ?_
        refine tk_cond (t := v52) rfl (fun g53 => ?_) (fun g53 => ?_)
        · replace hm := cond_t hm g53
          refine tk_os okM hok fun J hJ => ?_
          obtain ⟨H54, a55, f56, u57⟩ := st_ok (M := Mt) (t := 46) (v := (vAgg (lex_Token.c (({ lex_Token.zero with f_Kind := IntKind.i64.wrap (8 + x15_30) } : lex_Token))))) (c := lex_Token.c (({ lex_Token.zero with f_Kind := IntKind.i64.wrap (8 + x15_30) } : lex_Token))) (cs' := lex_Token.c (({ lex_Token.zero with f_Kind := IntKind.i64.wrap (8 + x15_30) } : lex_Token))) f38 (by rw [lex_Token.enc.len]; exact T.sz46) vAgg_cells (lex_Token.enc.one _) (Nat.le_trans hcn r6) (le0 lex_Token.enc.len) (wrs_all (eqL lex_Token.enc.len))
          have i58 := i39.up u57 r6
          simp only [C.f38r7, R, Nat.reduceEqDiff, bd46_0, len_str (M := Mt) Tryd.underlying9, a55, h35]
          refine hJ _ ?_
          refine tk_ret okM ?_
          refine x49 _ _ (by simp) (by simp) ?_
          refine x46 _ _ (by simp) ?_
          refine x32 _ _ (by simp) ?_
          refine x26 _ _ (by simp) (by simp) ?_
          refine x22 _ _ (by simp) ?_
          obtain rfl := Option.some.inj hm
          exact end_flat (.inl rfl) (vs := [(vAgg (lex_Token.c (({ lex_Token.zero with f_Kind := IntKind.i64.wrap (8 + x15_30) } : lex_Token)))), (.int .i64 (((x14_29.nth j50).size : Int))), (.int .i64 (0))]) (resC' (v := (vAgg (lex_Token.c (({ lex_Token.zero with f_Kind := IntKind.i64.wrap (8 + x15_30) } : lex_Token))))) h35 (ldv_of (ld_agg (M := Mt) (t := 46) f56 T.ag46 (by rw [lex_Token.enc.len]; exact T.sz46) Seg.refl)) (resT' (v := (.int .i64 (((x14_29.nth j50).size : Int)))) rfl (resT' (v := (.int .i64 (0))) rfl resN))) (fm_cons (flat_agg lex_Token.enc _) (fm_cons rfl (fm_cons rfl fm_nil)))
        · replace hm := cond_f hm g53
          refine tk_skip okM ?_
          refine n47 _ ?_
          refine n45 _ ?_
          refine tk_oe okM hok fun J hJ => ?_
          simp only [C.f38r8, R, Nat.reduceEqDiff, h37]
          refine hJ _ ?_
          refine n31 _ ?_
          exact ⟨x0_27, x28, x14_29, IntKind.i64.wrap (x15_30 + 1), hm, h34, h35, h36, rfl, f38, i39⟩
      · replace hm := cond_f hm g44
        refine tk_exit okM ?_
        refine x43 _ _ (by simp) ?_
        refine x32 _ _ (by simp) ?_
        refine e25 _ ?_
        refine n21 _ ?_
        refine tk_os okM hok fun J hJ => ?_
        simp only [C.f38r9, R, Nat.reduceEqDiff]
        refine hJ _ ?_
        refine tk_seq_k fun K n59 x60 => ?_
        refine tk_os okM hok fun J hJ => ?_
        obtain ⟨v61, ev61, hm⟩ := bind_s hm
        obtain ⟨b62, H63, a64, f65, q66, r67, x68, i69⟩ := rg_ok (M := Mt) (t := 9) H33 v61 i39.le Tryd.underlying9
        have i70 := i69 _ _ i39
        have f71 := x68 _ _ f38
        simp only [C.f38r10, R, Nat.reduceEqDiff, h34, sl_str (M := Mt) Tryd.underlying9, ev61, a64]
        refine hJ _ ?_
        refine tk_block_k fun K n73 e74 x75 => ?_
        refine tk_loop_k (n := n) (fun k2 ⟨σ, H, _⟩ => ∃ x76 x7_77 x78 x79, b_lex_opening_2 c_strings_HasPrefix c_lex_hasRune n k2 x76 x7_77 x78 x79 = some r ∧ Lk σ 2 (.pointer (some ⟨b1, 0, none⟩)) ∧ Lk σ 7 (.string x7_77) ∧ Lk σ 30 (.pointer (some ⟨b62, 0, none⟩)) ∧ H[b1]? = some (.cells (lex_Token.c x76) 46) ∧ H[b62]? = some (.iter x78 x79) ∧ Iv c.nb [] H0 H) ?_ ?_ ?_
        · exact ⟨x28, (⟨#[]⟩ : ByteArray), v61, 0, hm, h35, rfl, rfl, f71, f65, i70⟩
        · rintro ⟨σ, H, d⟩ ⟨_, _, _, _, hm, _⟩
          cases hm
        · intro k2 K n80 x81
          rintro ⟨σ89, H82, d90⟩ ⟨x76, x7_77, x78, x79, hm, h83, h84, h85, f86, f87, i88⟩
          rw [b_lex_opening_2.eq_2] at hm
          cases g91 : decide (x79 < x78.size)
          · replace hm := cond_f hm g91
            refine tk_os okM hok fun J hJ => ?_
            have a92 := nx_f (M := Mt) f87 (Nat.le_trans hcn r67) g91
            simp only [C.f38r11, R, Nat.reduceEqDiff, a92, h85]
            refine hJ _ ?_
            refine tk_seq_k fun K n93 x94 => ?_
            refine tk_cond_f rfl ?_
            refine tk_exit okM ?_
            refine x94 _ _ (by simp) ?_
            refine x81 _ _ (by simp) ?_
            refine e74 _ ?_
            refine n59 _ ?_
            refine tk_os okM hok fun J hJ => ?_
            obtain ⟨H95, a96, f97, u98⟩ := st_ok (M := Mt) (t := 46) (v := (vAgg (lex_Token.c (lex_Token.zero)))) (c := lex_Token.c lex_Token.zero) (cs' := lex_Token.c lex_Token.zero) f86 (by rw [lex_Token.enc.len]; exact T.sz46) vAgg_cells (lex_Token.enc.one _) (Nat.le_trans hcn r6) (le0 lex_Token.enc.len) (wrs_all (eqL lex_Token.enc.len))
            have i99 := i88.up u98 r6
            have f100 := (u98.get _ (ne_len f38 q66).symm).trans f87
            simp only [C.f38r18, R, Nat.reduceEqDiff, bd46_, a96, h83]
            refine hJ _ ?_
            refine tk_ret okM ?_
            obtain rfl := Option.some.inj hm
            exact end_flat (.inl rfl) (vs := [(vAgg (lex_Token.c (lex_Token.zero))), (.int .i64 (0)), (.int .i64 (3))]) (resC' (v := (vAgg (lex_Token.c (lex_Token.zero)))) h83 (ldv_of (ld_agg (M := Mt) (t := 46) f97 T.ag46 (by rw [lex_Token.enc.len]; exact T.sz46) Seg.refl)) (resT' (v := (.int .i64 (0))) rfl (resT' (v := (.int .i64 (3))) rfl resN))) (fm_cons (flat_agg lex_Token.enc _) (fm_cons rfl (fm_cons rfl fm_nil)))
          · replace hm := cond_t hm g91
            refine tk_os okM hok fun J hJ => ?_
            obtain ⟨H101, a102, f103, u104⟩ := nx_t (M := Mt) f87 (Nat.le_trans hcn r67) g91
            have i105 := i88.up u104 r67
            have f106 := (u104.get _ (ne_len f38 q66)).trans f86
            simp only [C.f38r11, R, Nat.reduceEqDiff, a102, h85]
            refine hJ _ ?_
            refine tk_seq_k fun K n107 x108 => ?_
            refine tk_cond_t rfl ?_
            refine tk_skip okM ?_
            refine n107 _ ?_
            refine tk_block_k fun K n109 e110 x111 => ?_
            refine tk_os okM hok fun J hJ => ?_
            simp only [C.f38r12, R, Nat.reduceEqDiff]
            refine hJ _ ?_
            refine tk_seq_k fun K n112 x113 => ?_
            refine tk_block_k fun K n114 e115 x116 => ?_
            refine tk_os okM hok fun J hJ => ?_
            rw [C.f38r13]
            refine rn_app_k (fun ⟨σ, H, _⟩ => Lk σ 2 (.pointer (some ⟨b1, 0, none⟩)) ∧ Lk σ 7 (.string (x7_77)) ∧ Lk σ 9 (.int .i32 (((Utf8.decode x78 x79).1 : Int))) ∧ Lk σ 30 (.pointer (some ⟨b62, 0, none⟩)) ∧ Lk σ 40 (.bool ((decide ((((Utf8.decode x78 x79).1 : Int)) = 58)) && (!decide (x7_77 = ((⟨#[]⟩ : ByteArray)))))) ∧ H[b1]? = some (.cells (lex_Token.c x76) 46) ∧ H[b62]? = some (.iter x78 (x79 + (Utf8.decode x78 x79).2)) ∧ Iv c.nb [] H0 H) (fun J hJ => ?_) ?_
            · skip
              cases g126 : decide ((((Utf8.decode x78 x79).1 : Int)) = 58)
              · skip
                simp only [C.f38r13p0, R, Nat.reduceEqDiff, g126]
                refine hJ _ ?_
                exact ⟨h83, h84, (by first | rfl | (simp only [g126]; rfl) | simp only [g126, Lk, lookS, lookN, Nat.reduceEqDiff, not_false_eq_true, Bool.true_and, Bool.false_and, Bool.true_or, Bool.false_or, cond_true, cond_false]), h85, (by first | rfl | (simp only [g126]; rfl) | simp only [g126, Lk, lookS, lookN, Nat.reduceEqDiff, not_false_eq_true, Bool.true_and, Bool.false_and, Bool.true_or, Bool.false_or, cond_true, cond_false]), f106, f103, i105⟩
              · skip
                simp only [C.f38r13p0, R, Nat.reduceEqDiff, g126, h84]
                refine hJ _ ?_
                exact ⟨h83, h84, (by first | rfl | (simp only [g126]; rfl) | simp only [g126, Lk, lookS, lookN, Nat.reduceEqDiff, not_false_eq_true, Bool.true_and, Bool.false_and, Bool.true_or, Bool.false_or, cond_true, cond_false]), h85, (by first | rfl | (simp only [g126]; rfl) | simp only [g126, Lk, lookS, lookN, Nat.reduceEqDiff, not_false_eq_true, Bool.true_and, Bool.false_and, Bool.true_or, Bool.false_or, cond_true, cond_false]), f106, f103, i105⟩
            rintro ⟨σ127, H117, d128⟩ ⟨h118, h119, h120, h121, h122, f123, f124, i125⟩
            simp only [C.f38r13p1, R, Nat.reduceEqDiff, h122]
            refine hJ _ ?_
            refine tk_cond (t := (decide ((((Utf8.decode x78 x79).1 : Int)) = 58)) && (!decide (x7_77 = ((⟨#[]⟩ : ByteArray))))) rfl (fun g129 => ?_) (fun g129 => ?_)
            · replace hm := cond_t hm g129
              refine tk_os okM hok fun J hJ => ?_
              obtain ⟨H130, a131, f132, u133⟩ := st_ok (M := Mt) (t := 46) (v := (vAgg (lex_Token.c (({ lex_Token.zero with f_Kind := 14, f_Flags := x7_77 } : lex_Token))))) (c := lex_Token.c (({ lex_Token.zero with f_Kind := 14, f_Flags := x7_77 } : lex_Token))) (cs' := lex_Token.c (({ lex_Token.zero with f_Kind := 14, f_Flags := x7_77 } : lex_Token))) f123 (by rw [lex_Token.enc.len]; exact T.sz46) vAgg_cells (lex_Token.enc.one _) (Nat.le_trans hcn r6) (le0 lex_Token.enc.len) (wrs_all (eqL lex_Token.enc.len))
              have i134 := i125.up u133 r6
              have f135 := (u133.get _ (ne_len f38 q66).symm).trans f124
              simp only [C.f38r14, R, Nat.reduceEqDiff, h119, bd46_0_6, len_str (M := Mt) Tryd.underlying9, a131, h118]
              refine hJ _ ?_
              refine tk_ret okM ?_
              refine x116 _ _ (by simp) (by simp) ?_
              refine x113 _ _ (by simp) ?_
              refine x111 _ _ (by simp) (by simp) ?_
              refine x81 _ _ (by simp) ?_
              refine x75 _ _ (by simp) (by simp) ?_
              refine x60 _ _ (by simp) ?_
              obtain rfl := Option.some.inj hm
              exact end_flat (.inl rfl) (vs := [(vAgg (lex_Token.c (({ lex_Token.zero with f_Kind := 14, f_Flags := x7_77 } : lex_Token)))), (.int .i64 (IntKind.i64.wrap (3 + ((x7_77.size : Int))))), (.int .i64 (0))]) (resC' (v := (vAgg (lex_Token.c (({ lex_Token.zero with f_Kind := 14, f_Flags := x7_77 } : lex_Token))))) h118 (ldv_of (ld_agg (M := Mt) (t := 46) f132 T.ag46 (by rw [lex_Token.enc.len]; exact T.sz46) Seg.refl)) (resT' (v := (.int .i64 (IntKind.i64.wrap (3 + ((x7_77.size : Int)))))) rfl (resT' (v := (.int .i64 (0))) rfl resN))) (fm_cons (flat_agg lex_Token.enc _) (fm_cons rfl (fm_cons rfl fm_nil)))
            · replace hm := cond_f hm g129
              refine tk_os okM hok fun J hJ => ?_
              rw [C.f38r15]
              refine rn_app_k (fun ⟨σ, H, _⟩ => Lk σ 2 (.pointer (some ⟨b1, 0, none⟩)) ∧ Lk σ 7 (.string (x7_77)) ∧ Lk σ 9 (.int .i32 (((Utf8.decode x78 x79).1 : Int))) ∧ Lk σ 30 (.pointer (some ⟨b62, 0, none⟩)) ∧ Lk σ 52 (.bool ((!decide ((((Utf8.decode x78 x79).1 : Int)) = 105)) && (!decide ((((Utf8.decode x78 x79).1 : Int)) = 109)))) ∧ H[b1]? = some (.cells (lex_Token.c x76) 46) ∧ H[b62]? = some (.iter x78 (x79 + (Utf8.decode x78 x79).2)) ∧ Iv c.nb [] H0 H) (fun J hJ => ?_) ?_
              · skip
                cases g145 : !decide ((((Utf8.decode x78 x79).1 : Int)) = 105)
                · skip
                  simp only [C.f38r15p0, R, Nat.reduceEqDiff, h120, g145]
                  refine hJ _ ?_
                  exact ⟨h118, h119, h120, h121, (by first | rfl | (simp only [g145]; rfl) | simp only [g145, Lk, lookS, lookN, Nat.reduceEqDiff, not_false_eq_true, Bool.true_and, Bool.false_and, Bool.true_or, Bool.false_or, cond_true, cond_false]), f123, f124, i125⟩
                · skip
                  simp only [C.f38r15p0, R, Nat.reduceEqDiff, h120, g145]
                  refine hJ _ ?_
                  exact ⟨h118, h119, h120, h121, (by first | rfl | (simp only [g145]; rfl) | simp only [g145, Lk, lookS, lookN, Nat.reduceEqDiff, not_false_eq_true, Bool.true_and, Bool.false_and, Bool.true_or, Bool.false_or, cond_true, cond_false]), f123, f124, i125⟩
              rintro ⟨σ146, H136, d147⟩ ⟨h137, h138, h139, h140, h141, f142, f143, i144⟩
              refine rn_app_k (fun ⟨σ, H, _⟩ => Lk σ 2 (.pointer (some ⟨b1, 0, none⟩)) ∧ Lk σ 7 (.string (x7_77)) ∧ Lk σ 9 (.int .i32 (((Utf8.decode x78 x79).1 : Int))) ∧ Lk σ 30 (.pointer (some ⟨b62, 0, none⟩)) ∧ Lk σ 56 (.bool (((!decide ((((Utf8.decode x78 x79).1 : Int)) = 105)) && (!decide ((((Utf8.decode x78 x79).1 : Int)) = 109))) && (!decide ((((Utf8.decode x78 x79).1 : Int)) = 115)))) ∧ H[b1]? = some (.cells (lex_Token.c x76) 46) ∧ H[b62]? = some (.iter x78 (x79 + (Utf8.decode x78 x79).2)) ∧ Iv c.nb [] H0 H) (fun J hJ => ?_) ?_
              · skip
                cases g157 : (!decide ((((Utf8.decode x78 x79).1 : Int)) = 105)) && (!decide ((((Utf8.decode x78 x79).1 : Int)) = 109))
                · skip
                  simp only [C.f38r15p1, R, Nat.reduceEqDiff, h141, g157]
                  refine hJ _ ?_
                  exact ⟨h137, h138, h139, h140, (by first | rfl | (simp only [g157]; rfl) | simp only [g157, Lk, lookS, lookN, Nat.reduceEqDiff, not_false_eq_true, Bool.true_and, Bool.false_and, Bool.true_or, Bool.false_or, cond_true, cond_false]), f142, f143, i144⟩
                · skip
                  simp only [C.f38r15p1, R, Nat.reduceEqDiff, h141, g157, h139]
                  refine hJ _ ?_
                  exact ⟨h137, h138, h139, h140, (by first | rfl | (simp only [g157]; rfl) | simp only [g157, Lk, lookS, lookN, Nat.reduceEqDiff, not_false_eq_true, Bool.true_and, Bool.false_and, Bool.true_or, Bool.false_or, cond_true, cond_false]), f142, f143, i144⟩
              rintro ⟨σ158, H148, d159⟩ ⟨h149, h150, h151, h152, h153, f154, f155, i156⟩
              obtain ⟨y162, ey162, hm⟩ := bind_s hm
              refine rn_app_k (fun ⟨σ, H, _⟩ => Lk σ 2 (.pointer (some ⟨b1, 0, none⟩)) ∧ Lk σ 7 (.string (x7_77)) ∧ Lk σ 9 (.int .i32 (((Utf8.decode x78 x79).1 : Int))) ∧ Lk σ 30 (.pointer (some ⟨b62, 0, none⟩)) ∧ Lk σ 61 (.bool (y162)) ∧ H[b1]? = some (.cells (lex_Token.c x76) 46) ∧ H[b62]? = some (.iter x78 (x79 + (Utf8.decode x78 x79).2)) ∧ Iv c.nb [] H0 H) (fun J hJ => ?_) ?_
              · skip
                cases g172 : ((!decide ((((Utf8.decode x78 x79).1 : Int)) = 105)) && (!decide ((((Utf8.decode x78 x79).1 : Int)) = 109))) && (!decide ((((Utf8.decode x78 x79).1 : Int)) = 115))
                · skip
                  have ey162 := cond_f ey162 g172
                  obtain ⟨v174, ev174, ey162⟩ := bind_s ey162
                  have a173 := ha_lex_hasRune c.ro H148 x7_77 (((Utf8.decode x78 x79).1 : Int)) v174 ev174
                  obtain rfl := Option.some.inj ey162
                  simp only [C.f38r15p2, R, Nat.reduceEqDiff, h153, g172, h150, h151, c_fn F50, a173]
                  refine hJ _ ?_
                  exact ⟨h149, h150, h151, h152, (by first | rfl | (simp only [g172]; rfl) | simp only [g172, Lk, lookS, lookN, Nat.reduceEqDiff, not_false_eq_true, Bool.true_and, Bool.false_and, Bool.true_or, Bool.false_or, cond_true, cond_false]), f154, f155, i156⟩
                · skip
                  have ey162 := cond_t ey162 g172
                  obtain rfl := Option.some.inj ey162
                  simp only [C.f38r15p2, R, Nat.reduceEqDiff, h153, g172]
                  refine hJ _ ?_
                  exact ⟨h149, h150, h151, h152, (by first | rfl | (simp only [g172]; rfl) | simp only [g172, Lk, lookS, lookN, Nat.reduceEqDiff, not_false_eq_true, Bool.true_and, Bool.false_and, Bool.true_or, Bool.false_or, cond_true, cond_false]), f154, f155, i156⟩
              rintro ⟨σ175, H163, d176⟩ ⟨h164, h165, h166, h167, h168, f169, f170, i171⟩
              simp only [C.f38r15p3, R, Nat.reduceEqDiff, h168]
              refine hJ _ ?_
              refine tk_cond (t := y162) rfl (fun g177 => ?_) (fun g177 => ?_)
              · replace hm := cond_t hm g177
                refine tk_os okM hok fun J hJ => ?_
                obtain ⟨H178, a179, f180, u181⟩ := st_ok (M := Mt) (t := 46) (v := (vAgg (lex_Token.c (lex_Token.zero)))) (c := lex_Token.c lex_Token.zero) (cs' := lex_Token.c lex_Token.zero) f169 (by rw [lex_Token.enc.len]; exact T.sz46) vAgg_cells (lex_Token.enc.one _) (Nat.le_trans hcn r6) (le0 lex_Token.enc.len) (wrs_all (eqL lex_Token.enc.len))
                have i182 := i171.up u181 r6
                have f183 := (u181.get _ (ne_len f38 q66).symm).trans f170
                simp only [C.f38r16, R, Nat.reduceEqDiff, bd46_, a179, h164]
                refine hJ _ ?_
                refine tk_ret okM ?_
                refine x116 _ _ (by simp) (by simp) ?_
                refine x113 _ _ (by simp) ?_
                refine x111 _ _ (by simp) (by simp) ?_
                refine x81 _ _ (by simp) ?_
                refine x75 _ _ (by simp) (by simp) ?_
                refine x60 _ _ (by simp) ?_
                obtain rfl := Option.some.inj hm
                exact end_flat (.inl rfl) (vs := [(vAgg (lex_Token.c (lex_Token.zero))), (.int .i64 (0)), (.int .i64 (3))]) (resC' (v := (vAgg (lex_Token.c (lex_Token.zero)))) h164 (ldv_of (ld_agg (M := Mt) (t := 46) f180 T.ag46 (by rw [lex_Token.enc.len]; exact T.sz46) Seg.refl)) (resT' (v := (.int .i64 (0))) rfl (resT' (v := (.int .i64 (3))) rfl resN))) (fm_cons (flat_agg lex_Token.enc _) (fm_cons rfl (fm_cons rfl fm_nil)))
              · replace hm := cond_f hm g177
                refine tk_skip okM ?_
                refine n114 _ ?_
                refine n112 _ ?_
                refine tk_oe okM hok fun J hJ => ?_
                obtain ⟨v184, ev184, hm⟩ := bind_s hm
                simp only [C.f38r17, R, Nat.reduceEqDiff, h165, h166, cv_r2s (M := Mt) Tryd.underlying21 Tryd.underlying9, ev184]
                refine hJ _ ?_
                refine n109 _ ?_
                refine n80 _ ?_
                exact ⟨x76, v184, x78, x79 + (Utf8.decode x78 x79).2, hm, h164, rfl, h167, f169, f170, i171⟩

-- clew/lex.quant
def b_lex_quant_2 (c_strings_HasPrefix : T_strings_HasPrefix) (c_lex_counted : T_lex_counted) (n : Nat) (x42 : lex_Token) (x43 : lex_Token) (x6_44 : Int) : Option (lex_Token × Int × Int) := some (x43, x6_44, 0)
def b_lex_quant_1 (c_strings_HasPrefix : T_strings_HasPrefix) (c_lex_counted : T_lex_counted) (n : Nat) (x0_28 : ByteArray) (x29 : lex_Token) (x30 : lex_Token) (x6_31 : Int) : Option (lex_Token × Int × Int) := (sub x0_28 x6_31 x0_28.size).bind fun v66 => (c_strings_HasPrefix v66 ((⟨#[63]⟩ : ByteArray))).bind fun v68 => bif v68 then (b_lex_quant_2 c_strings_HasPrefix c_lex_counted n x29 ({ x30 with f_Mode := 1 }) (IntKind.i64.wrap (x6_31 + 1))) else ((c_strings_HasPrefix v66 ((⟨#[43]⟩ : ByteArray))).bind fun v77 => bif v77 then (b_lex_quant_2 c_strings_HasPrefix c_lex_counted n x29 ({ x30 with f_Mode := 2 }) (IntKind.i64.wrap (x6_31 + 1))) else (b_lex_quant_2 c_strings_HasPrefix c_lex_counted n x29 x30 x6_31))
def b_lex_quant (c_strings_HasPrefix : T_strings_HasPrefix) (c_lex_counted : T_lex_counted) (n : Nat) (x0 : ByteArray) : Option (lex_Token × Int × Int) := (bt x0 0).bind fun v87 => bif decide (v87 = 43) then (b_lex_quant_1 c_strings_HasPrefix c_lex_counted n x0 lex_Token.zero ({ ({ lex_Token.zero with f_Kind := 16, f_Max := (-1) } : lex_Token) with f_Min := 1 }) 1) else (bif decide (v87 = 63) then (b_lex_quant_1 c_strings_HasPrefix c_lex_counted n x0 lex_Token.zero ({ ({ lex_Token.zero with f_Kind := 16, f_Max := (-1) } : lex_Token) with f_Max := 1 }) 1) else (bif decide (v87 = 123) then ((c_lex_counted x0).bind fun v107 => bif decide (v107.2.2 = 0) then (some (lex_Token.zero, 0, 3)) else (bif decide (100 < (max (({ { ({ lex_Token.zero with f_Kind := 16, f_Max := (-1) } : lex_Token) with f_Min := v107.1 } with f_Max := v107.2.1 }).f_Min) (({ { ({ lex_Token.zero with f_Kind := 16, f_Max := (-1) } : lex_Token) with f_Min := v107.1 } with f_Max := v107.2.1 }).f_Max))) then (some (lex_Token.zero, 0, 4)) else (bif (!decide ((({ { ({ lex_Token.zero with f_Kind := 16, f_Max := (-1) } : lex_Token) with f_Min := v107.1 } with f_Max := v107.2.1 }).f_Max) = ((-1)))) && (decide ((({ { ({ lex_Token.zero with f_Kind := 16, f_Max := (-1) } : lex_Token) with f_Min := v107.1 } with f_Max := v107.2.1 }).f_Max) < (({ { ({ lex_Token.zero with f_Kind := 16, f_Max := (-1) } : lex_Token) with f_Min := v107.1 } with f_Max := v107.2.1 }).f_Min))) then (some (lex_Token.zero, 0, 3)) else (b_lex_quant_1 c_strings_HasPrefix c_lex_counted n x0 lex_Token.zero ({ { ({ lex_Token.zero with f_Kind := 16, f_Max := (-1) } : lex_Token) with f_Min := v107.1 } with f_Max := v107.2.1 }) v107.2.2)))) else (b_lex_quant_1 c_strings_HasPrefix c_lex_counted n x0 lex_Token.zero (({ lex_Token.zero with f_Kind := 16, f_Max := (-1) } : lex_Token)) 1)))

theorem w_lex_quant {call : CallF} (hok : CallOk Mt call) {n : Nat} {c_strings_HasPrefix : T_strings_HasPrefix} (ha_strings_HasPrefix : A_strings_HasPrefix call c_strings_HasPrefix) {c_lex_counted : T_lex_counted} (ha_lex_counted : A_lex_counted call c_lex_counted) {H0 : Hp} {x0 : ByteArray} {r : lex_Token × Int × Int} {ro : Nat} (hro : ro ≤ H0.length) (hm : b_lex_quant c_strings_HasPrefix c_lex_counted n x0 = some r) :
    Pt Mt ro 39 [(.string x0)] H0 (.tuple [(vAgg (lex_Token.c (r.1))), (.int .i64 (r.2.1)), (.int .i64 (r.2.2))].toArray) H0 [] := by
  refine pt_new0 okM F39d (by exact Nat.le_of_ble_eq_true rfl) ?_ hro
  intro c hnt hnb hcr
  have hcn : c.ro ≤ c.nb := by omega
  have iv : Iv c.nb [] H0 H0 := by rw [hnb]; exact iv_refl
  rw [show args0 [(.string x0)] = [(0, (.string x0))] from rfl]
  rw [b_lex_quant] at hm
  simp only [C.f39]
  refine tk_os okM hok fun J hJ => ?_
  obtain ⟨b1, H2, a3, f4, q5, r6, x7, i8⟩ := al_ok H0 46 (lex_Token.c lex_Token.zero) iv.le
  have i9 := i8 _ _ iv
  simp only [C.f39r0, R, Nat.reduceEqDiff, zs46, a3]
  refine hJ _ ?_
  refine tk_os okM hok fun J hJ => ?_
  obtain ⟨b11, H12, a13, f14, q15, r16, x17, i18⟩ := al_ok H2 46 (lex_Token.c lex_Token.zero) i9.le
  have i19 := i18 _ _ i9
  have f20 := x17 _ _ f4
  obtain ⟨H22, a23, f24, u25⟩ := st_ok (M := Mt) (t := 46) (v := (vAgg (lex_Token.c (({ lex_Token.zero with f_Kind := 16, f_Max := (-1) } : lex_Token))))) (c := lex_Token.c (({ lex_Token.zero with f_Kind := 16, f_Max := (-1) } : lex_Token))) (cs' := lex_Token.c (({ lex_Token.zero with f_Kind := 16, f_Max := (-1) } : lex_Token))) f14 (by rw [lex_Token.enc.len]; exact T.sz46) vAgg_cells (lex_Token.enc.one _) (Nat.le_trans hcn r16) (le0 lex_Token.enc.len) (wrs_all (eqL lex_Token.enc.len))
  have i26 := i19.up u25 r16
  have f27 := (u25.get _ (ne_len f4 q15)).trans f20
  simp only [C.f39r1, R, Nat.reduceEqDiff, bd46_0_3, zs46, a13, a23]
  refine hJ _ ?_
  refine tk_seq_j (fun ⟨σ, H, _⟩ => ∃ x0_28 x29 x30 x6_31, b_lex_quant_1 c_strings_HasPrefix c_lex_counted n x0_28 x29 x30 x6_31 = some r ∧ Lk σ 0 (.string x0_28) ∧ Lk σ 2 (.pointer (some ⟨b1, 0, none⟩)) ∧ Lk σ 5 (.pointer (some ⟨b11, 0, none⟩)) ∧ Lk σ 6 (.int .i64 x6_31) ∧ H[b1]? = some (.cells (lex_Token.c x29) 46) ∧ H[b11]? = some (.cells (lex_Token.c x30) 46) ∧ Iv c.nb [] H0 H) ?_ ?_
  · skip
    rintro ⟨σ40, H32, d41⟩ ⟨x0_28, x29, x30, x6_31, hm, h33, h34, h35, h36, f37, f38, i39⟩
    rw [b_lex_quant_1] at hm
    refine tk_seq_j (fun ⟨σ, H, _⟩ => ∃ x42 x43 x6_44, b_lex_quant_2 c_strings_HasPrefix c_lex_counted n x42 x43 x6_44 = some r ∧ Lk σ 2 (.pointer (some ⟨b1, 0, none⟩)) ∧ Lk σ 5 (.pointer (some ⟨b11, 0, none⟩)) ∧ Lk σ 6 (.int .i64 x6_44) ∧ H[b1]? = some (.cells (lex_Token.c x42) 46) ∧ H[b11]? = some (.cells (lex_Token.c x43) 46) ∧ Iv c.nb [] H0 H) ?_ ?_
    · skip
      rintro ⟨σ52, H45, d53⟩ ⟨x42, x43, x6_44, hm, h46, h47, h48, f49, f50, i51⟩
      rw [b_lex_quant_2] at hm
      refine tk_os okM hok fun J hJ => ?_
      have a54 := ld_agg (M := Mt) (t := 46) f50 T.ag46 (by rw [lex_Token.enc.len]; exact T.sz46) Seg.refl
      obtain ⟨H55, a56, f57, u58⟩ := st_ok (M := Mt) (t := 46) (v := (vAgg (lex_Token.c (x43)))) (c := lex_Token.c x43) (cs' := lex_Token.c x43) f49 (by rw [lex_Token.enc.len]; exact T.sz46) vAgg_cells (lex_Token.enc.one _) (Nat.le_trans hcn r6) (le0 lex_Token.enc.len) (wrs_all (eqL lex_Token.enc.len))
      have i59 := i51.up u58 r6
      have f60 := (u58.get _ (ne_len f4 q15).symm).trans f50
      simp only [C.f39r21, R, Nat.reduceEqDiff, a54, h47, h48, a56, h46]
      refine hJ _ ?_
      refine tk_ret okM ?_
      obtain rfl := Option.some.inj hm
      exact end_flat (.inl rfl) (vs := [(vAgg (lex_Token.c (x43))), (.int .i64 (x6_44)), (.int .i64 (0))]) (resC' (v := (vAgg (lex_Token.c (x43)))) h46 (ldv_of (ld_agg (M := Mt) (t := 46) f57 T.ag46 (by rw [lex_Token.enc.len]; exact T.sz46) Seg.refl)) (resT' (v := (.int .i64 (x6_44))) rfl (resT' (v := (.int .i64 (0))) rfl resN))) (fm_cons (flat_agg lex_Token.enc _) (fm_cons rfl (fm_cons rfl fm_nil)))
    · refine fun K n61 x62 => ?_
      refine tk_block_k fun K n63 e64 x65 => ?_
      refine tk_os okM hok fun J hJ => ?_
      obtain ⟨v66, ev66, hm⟩ := bind_s hm
      obtain ⟨v68, ev68, hm⟩ := bind_s hm
      have a67 := ha_strings_HasPrefix c.ro H32 v66 ((⟨#[63]⟩ : ByteArray)) v68 ev68
      simp only [C.f39r15, R, Nat.reduceEqDiff, h33, h36, sl_str (M := Mt) Tryd.underlying9, ev66, c_fn F26, a67]
      refine hJ _ ?_
      refine tk_cond (t := v68) rfl (fun g69 => ?_) (fun g69 => ?_)
      · replace hm := cond_t hm g69
        refine tk_os okM hok fun J hJ => ?_
        obtain ⟨H70, a71, f72, u73⟩ := st_ok (M := Mt) (t := 3) (v := (.int .i64 (1))) (c := (cInt .i64) 1) (cs' := lex_Token.c ({ x30 with f_Mode := 1 })) f38 (by rw [enc_int.len]; exact T.sz3) rfl (enc_int.one _) (Nat.le_trans hcn r16) (Nat.le_trans (Nat.le_of_eq (congrArg _ (eqL enc_int.len))) (Seg.refl.sub (lex_Token.seg4 x30)).2) (by rw [Nat.zero_add, lex_Token.wr4 x30 1])
        have i74 := i39.up u73 r16
        have f75 := (u73.get _ (ne_len f4 q15)).trans f37
        simp only [C.f39r16, R, Nat.reduceEqDiff, fa46_4, h35, a71]
        refine hJ _ ?_
        refine tk_oe okM hok fun J hJ => ?_
        simp only [C.f39r17, R, Nat.reduceEqDiff, h36]
        refine hJ _ ?_
        refine n63 _ ?_
        refine n61 _ ?_
        exact ⟨x29, { x30 with f_Mode := 1 }, IntKind.i64.wrap (x6_31 + 1), hm, h34, h35, rfl, f75, f72, i74⟩
      · replace hm := cond_f hm g69
        refine tk_os okM hok fun J hJ => ?_
        obtain ⟨v77, ev77, hm⟩ := bind_s hm
        have a76 := ha_strings_HasPrefix c.ro H32 v66 ((⟨#[43]⟩ : ByteArray)) v77 ev77
        simp only [C.f39r18, R, Nat.reduceEqDiff, h33, h36, sl_str (M := Mt) Tryd.underlying9, ev66, c_fn F26, a76]
        refine hJ _ ?_
        refine tk_cond (t := v77) rfl (fun g78 => ?_) (fun g78 => ?_)
        · replace hm := cond_t hm g78
          refine tk_os okM hok fun J hJ => ?_
          obtain ⟨H79, a80, f81, u82⟩ := st_ok (M := Mt) (t := 3) (v := (.int .i64 (2))) (c := (cInt .i64) 2) (cs' := lex_Token.c ({ x30 with f_Mode := 2 })) f38 (by rw [enc_int.len]; exact T.sz3) rfl (enc_int.one _) (Nat.le_trans hcn r16) (Nat.le_trans (Nat.le_of_eq (congrArg _ (eqL enc_int.len))) (Seg.refl.sub (lex_Token.seg4 x30)).2) (by rw [Nat.zero_add, lex_Token.wr4 x30 2])
          have i83 := i39.up u82 r16
          have f84 := (u82.get _ (ne_len f4 q15)).trans f37
          simp only [C.f39r19, R, Nat.reduceEqDiff, fa46_4, h35, a80]
          refine hJ _ ?_
          refine tk_oe okM hok fun J hJ => ?_
          simp only [C.f39r20, R, Nat.reduceEqDiff, h36]
          refine hJ _ ?_
          refine n63 _ ?_
          refine n61 _ ?_
          exact ⟨x29, { x30 with f_Mode := 2 }, IntKind.i64.wrap (x6_31 + 1), hm, h34, h35, rfl, f84, f81, i83⟩
        · replace hm := cond_f hm g78
          refine tk_skip okM ?_
          refine n63 _ ?_
          refine n61 _ ?_
          exact ⟨x29, x30, x6_31, hm, h34, h35, h36, f37, f38, i39⟩
  · refine fun K n85 x86 => ?_
    refine tk_os okM hok fun J hJ => ?_
    obtain ⟨v87, ev87, hm⟩ := bind_s hm
    simp only [C.f39r2, R, Nat.reduceEqDiff, idxP_str (M := Mt) Tryd.underlying9, ev87]
    refine hJ _ ?_
    refine tk_block_k fun K n88 e89 x90 => ?_
    refine tk_os okM hok fun J hJ => ?_
    simp only [C.f39r3, R, Nat.reduceEqDiff]
    refine hJ _ ?_
    refine tk_cond (t := decide (v87 = 43)) rfl (fun g91 => ?_) (fun g91 => ?_)
    · replace hm := cond_t hm g91
      refine tk_oe okM hok fun J hJ => ?_
      obtain ⟨H92, a93, f94, u95⟩ := st_ok (M := Mt) (t := 3) (v := (.int .i64 (1))) (c := (cInt .i64) 1) (cs' := lex_Token.c ({ ({ lex_Token.zero with f_Kind := 16, f_Max := (-1) } : lex_Token) with f_Min := 1 })) f24 (by rw [enc_int.len]; exact T.sz3) rfl (enc_int.one _) (Nat.le_trans hcn r16) (Nat.le_trans (Nat.le_of_eq (congrArg _ (eqL enc_int.len))) (Seg.refl.sub (lex_Token.seg2 (({ lex_Token.zero with f_Kind := 16, f_Max := (-1) } : lex_Token)))).2) (by rw [Nat.zero_add, lex_Token.wr2 (({ lex_Token.zero with f_Kind := 16, f_Max := (-1) } : lex_Token)) 1])
      have i96 := i26.up u95 r16
      have f97 := (u95.get _ (ne_len f4 q15)).trans f27
      simp only [C.f39r4, R, Nat.reduceEqDiff, fa46_2, a93]
      refine hJ _ ?_
      refine n88 _ ?_
      refine n85 _ ?_
      exact ⟨x0, lex_Token.zero, { ({ lex_Token.zero with f_Kind := 16, f_Max := (-1) } : lex_Token) with f_Min := 1 }, 1, hm, rfl, rfl, rfl, rfl, f97, f94, i96⟩
    · replace hm := cond_f hm g91
      refine tk_os okM hok fun J hJ => ?_
      simp only [C.f39r5, R, Nat.reduceEqDiff]
      refine hJ _ ?_
      refine tk_cond (t := decide (v87 = 63)) rfl (fun g98 => ?_) (fun g98 => ?_)
      · replace hm := cond_t hm g98
        refine tk_oe okM hok fun J hJ => ?_
        obtain ⟨H99, a100, f101, u102⟩ := st_ok (M := Mt) (t := 3) (v := (.int .i64 (1))) (c := (cInt .i64) 1) (cs' := lex_Token.c ({ ({ lex_Token.zero with f_Kind := 16, f_Max := (-1) } : lex_Token) with f_Max := 1 })) f24 (by rw [enc_int.len]; exact T.sz3) rfl (enc_int.one _) (Nat.le_trans hcn r16) (Nat.le_trans (Nat.le_of_eq (congrArg _ (eqL enc_int.len))) (Seg.refl.sub (lex_Token.seg3 (({ lex_Token.zero with f_Kind := 16, f_Max := (-1) } : lex_Token)))).2) (by rw [Nat.zero_add, lex_Token.wr3 (({ lex_Token.zero with f_Kind := 16, f_Max := (-1) } : lex_Token)) 1])
        have i103 := i26.up u102 r16
        have f104 := (u102.get _ (ne_len f4 q15)).trans f27
        simp only [C.f39r6, R, Nat.reduceEqDiff, fa46_3, a100]
        refine hJ _ ?_
        refine n88 _ ?_
        refine n85 _ ?_
        exact ⟨x0, lex_Token.zero, { ({ lex_Token.zero with f_Kind := 16, f_Max := (-1) } : lex_Token) with f_Max := 1 }, 1, hm, rfl, rfl, rfl, rfl, f104, f101, i103⟩
      · replace hm := cond_f hm g98
        refine tk_os okM hok fun J hJ => ?_
        simp only [C.f39r7, R, Nat.reduceEqDiff]
        refine hJ _ ?_
        refine tk_cond (t := decide (v87 = 123)) rfl (fun g105 => ?_) (fun g105 => ?_)
        · replace hm := cond_t hm g105
          refine tk_os okM hok fun J hJ => ?_
          obtain ⟨v107, ev107, hm⟩ := bind_s hm
          have a106 := ha_lex_counted c.ro H22 x0 v107 ev107
          obtain ⟨H108, a109, f110, u111⟩ := st_ok (M := Mt) (t := 3) (v := (.int .i64 (v107.1))) (c := (cInt .i64) v107.1) (cs' := lex_Token.c ({ ({ lex_Token.zero with f_Kind := 16, f_Max := (-1) } : lex_Token) with f_Min := v107.1 })) f24 (by rw [enc_int.len]; exact T.sz3) rfl (enc_int.one _) (Nat.le_trans hcn r16) (Nat.le_trans (Nat.le_of_eq (congrArg _ (eqL enc_int.len))) (Seg.refl.sub (lex_Token.seg2 (({ lex_Token.zero with f_Kind := 16, f_Max := (-1) } : lex_Token)))).2) (by rw [Nat.zero_add, lex_Token.wr2 (({ lex_Token.zero with f_Kind := 16, f_Max := (-1) } : lex_Token)) v107.1])
          have i112 := i26.up u111 r16
          have f113 := (u111.get _ (ne_len f4 q15)).trans f27
          obtain ⟨H114, a115, f116, u117⟩ := st_ok (M := Mt) (t := 3) (v := (.int .i64 (v107.2.1))) (c := (cInt .i64) v107.2.1) (cs' := lex_Token.c ({ { ({ lex_Token.zero with f_Kind := 16, f_Max := (-1) } : lex_Token) with f_Min := v107.1 } with f_Max := v107.2.1 })) f110 (by rw [enc_int.len]; exact T.sz3) rfl (enc_int.one _) (Nat.le_trans hcn r16) (Nat.le_trans (Nat.le_of_eq (congrArg _ (eqL enc_int.len))) (Seg.refl.sub (lex_Token.seg3 ({ ({ lex_Token.zero with f_Kind := 16, f_Max := (-1) } : lex_Token) with f_Min := v107.1 }))).2) (by rw [Nat.zero_add, lex_Token.wr3 ({ ({ lex_Token.zero with f_Kind := 16, f_Max := (-1) } : lex_Token) with f_Min := v107.1 }) v107.2.1])
          have i118 := i112.up u117 r16
          have f119 := (u117.get _ (ne_len f4 q15)).trans f113
          simp only [C.f39r8, R, Nat.reduceEqDiff, c_fn F51, a106, fa46_2, a109, fa46_3, a115]
          refine hJ _ ?_
          refine tk_block_k fun K n120 e121 x122 => ?_
          refine tk_os okM hok fun J hJ => ?_
          simp only [C.f39r9, R, Nat.reduceEqDiff]
          refine hJ _ ?_
          refine tk_cond (t := decide (v107.2.2 = 0)) rfl (fun g123 => ?_) (fun g123 => ?_)
          · replace hm := cond_t hm g123
            refine tk_os okM hok fun J hJ => ?_
            obtain ⟨H124, a125, f126, u127⟩ := st_ok (M := Mt) (t := 46) (v := (vAgg (lex_Token.c (lex_Token.zero)))) (c := lex_Token.c lex_Token.zero) (cs' := lex_Token.c lex_Token.zero) f119 (by rw [lex_Token.enc.len]; exact T.sz46) vAgg_cells (lex_Token.enc.one _) (Nat.le_trans hcn r6) (le0 lex_Token.enc.len) (wrs_all (eqL lex_Token.enc.len))
            have i128 := i118.up u127 r6
            have f129 := (u127.get _ (ne_len f4 q15).symm).trans f116
            simp only [C.f39r10, R, Nat.reduceEqDiff, bd46_, a125]
            refine hJ _ ?_
            refine tk_ret okM ?_
            refine x122 _ _ (by simp) (by simp) ?_
            refine x90 _ _ (by simp) (by simp) ?_
            refine x86 _ _ (by simp) ?_
            obtain rfl := Option.some.inj hm
            exact end_flat (.inl rfl) (vs := [(vAgg (lex_Token.c (lex_Token.zero))), (.int .i64 (0)), (.int .i64 (3))]) (resC' (v := (vAgg (lex_Token.c (lex_Token.zero)))) rfl (ldv_of (ld_agg (M := Mt) (t := 46) f126 T.ag46 (by rw [lex_Token.enc.len]; exact T.sz46) Seg.refl)) (resT' (v := (.int .i64 (0))) rfl (resT' (v := (.int .i64 (3))) rfl resN))) (fm_cons (flat_agg lex_Token.enc _) (fm_cons rfl (fm_cons rfl fm_nil)))
          · replace hm := cond_f hm g123
            refine tk_os okM hok fun J hJ => ?_
            have a130 := ld_one (M := Mt) (t := 3) f116 T.ag3 (Seg.refl.sub (lex_Token.seg2 ({ { ({ lex_Token.zero with f_Kind := 16, f_Max := (-1) } : lex_Token) with f_Min := v107.1 } with f_Max := v107.2.1 })))
            have a131 := ld_one (M := Mt) (t := 3) f116 T.ag3 (Seg.refl.sub (lex_Token.seg3 ({ { ({ lex_Token.zero with f_Kind := 16, f_Max := (-1) } : lex_Token) with f_Min := v107.1 } with f_Max := v107.2.1 })))
            simp only [C.f39r11, R, Nat.reduceEqDiff, fa46_2, a130, fa46_3, a131]
            refine hJ _ ?_
            refine tk_cond (t := decide (100 < (max (({ { ({ lex_Token.zero with f_Kind := 16, f_Max := (-1) } : lex_Token) with f_Min := v107.1 } with f_Max := v107.2.1 }).f_Min) (({ { ({ lex_Token.zero with f_Kind := 16, f_Max := (-1) } : lex_Token) with f_Min := v107.1 } with f_Max := v107.2.1 }).f_Max)))) rfl (fun g132 => ?_) (fun g132 => ?_)
            · replace hm := cond_t hm g132
              refine tk_os okM hok fun J hJ => ?_
              obtain ⟨H133, a134, f135, u136⟩ := st_ok (M := Mt) (t := 46) (v := (vAgg (lex_Token.c (lex_Token.zero)))) (c := lex_Token.c lex_Token.zero) (cs' := lex_Token.c lex_Token.zero) f119 (by rw [lex_Token.enc.len]; exact T.sz46) vAgg_cells (lex_Token.enc.one _) (Nat.le_trans hcn r6) (le0 lex_Token.enc.len) (wrs_all (eqL lex_Token.enc.len))
              have i137 := i118.up u136 r6
              have f138 := (u136.get _ (ne_len f4 q15).symm).trans f116
              simp only [C.f39r12, R, Nat.reduceEqDiff, bd46_, a134]
              refine hJ _ ?_
              refine tk_ret okM ?_
              refine x122 _ _ (by simp) (by simp) ?_
              refine x90 _ _ (by simp) (by simp) ?_
              refine x86 _ _ (by simp) ?_
              obtain rfl := Option.some.inj hm
              exact end_flat (.inl rfl) (vs := [(vAgg (lex_Token.c (lex_Token.zero))), (.int .i64 (0)), (.int .i64 (4))]) (resC' (v := (vAgg (lex_Token.c (lex_Token.zero)))) rfl (ldv_of (ld_agg (M := Mt) (t := 46) f135 T.ag46 (by rw [lex_Token.enc.len]; exact T.sz46) Seg.refl)) (resT' (v := (.int .i64 (0))) rfl (resT' (v := (.int .i64 (4))) rfl resN))) (fm_cons (flat_agg lex_Token.enc _) (fm_cons rfl (fm_cons rfl fm_nil)))
            · replace hm := cond_f hm g132
              refine tk_os okM hok fun J hJ => ?_
              rw [C.f39r13]
              have a139 := ld_one (M := Mt) (t := 3) f116 T.ag3 (Seg.refl.sub (lex_Token.seg3 ({ { ({ lex_Token.zero with f_Kind := 16, f_Max := (-1) } : lex_Token) with f_Min := v107.1 } with f_Max := v107.2.1 })))
              refine rn_app_k (fun ⟨σ, H, _⟩ => Lk σ 0 (.string (x0)) ∧ Lk σ 2 (.pointer (some ⟨b1, 0, none⟩)) ∧ Lk σ 5 (.pointer (some ⟨b11, 0, none⟩)) ∧ Lk σ 6 (.int .i64 (v107.2.2)) ∧ Lk σ 48 (.bool ((!decide ((({ { ({ lex_Token.zero with f_Kind := 16, f_Max := (-1) } : lex_Token) with f_Min := v107.1 } with f_Max := v107.2.1 }).f_Max) = ((-1)))) && (decide ((({ { ({ lex_Token.zero with f_Kind := 16, f_Max := (-1) } : lex_Token) with f_Min := v107.1 } with f_Max := v107.2.1 }).f_Max) < (({ { ({ lex_Token.zero with f_Kind := 16, f_Max := (-1) } : lex_Token) with f_Min := v107.1 } with f_Max := v107.2.1 }).f_Min))))) ∧ H[b1]? = some (.cells (lex_Token.c lex_Token.zero) 46) ∧ H[b11]? = some (.cells (lex_Token.c ({ { ({ lex_Token.zero with f_Kind := 16, f_Max := (-1) } : lex_Token) with f_Min := v107.1 } with f_Max := v107.2.1 })) 46) ∧ Iv c.nb [] H0 H) (fun J hJ => ?_) ?_
              · skip
                cases g151 : !decide ((({ { ({ lex_Token.zero with f_Kind := 16, f_Max := (-1) } : lex_Token) with f_Min := v107.1 } with f_Max := v107.2.1 }).f_Max) = ((-1)))
                · skip
                  simp only [C.f39r13p0, R, Nat.reduceEqDiff, fa46_3, a139, g151]
                  refine hJ _ ?_
                  exact ⟨(by first | rfl | (simp only [g151]; rfl) | simp only [g151, Lk, lookS, lookN, Nat.reduceEqDiff, not_false_eq_true, Bool.true_and, Bool.false_and, Bool.true_or, Bool.false_or, cond_true, cond_false]), rfl, rfl, (by first | rfl | (simp only [g151]; rfl) | simp only [g151, Lk, lookS, lookN, Nat.reduceEqDiff, not_false_eq_true, Bool.true_and, Bool.false_and, Bool.true_or, Bool.false_or, cond_true, cond_false]), (by first | rfl | (simp only [g151]; rfl) | simp only [g151, Lk, lookS, lookN, Nat.reduceEqDiff, not_false_eq_true, Bool.true_and, Bool.false_and, Bool.true_or, Bool.false_or, cond_true, cond_false]), f119, f116, i118⟩
                · skip
                  have a152 := ld_one (M := Mt) (t := 3) f116 T.ag3 (Seg.refl.sub (lex_Token.seg3 ({ { ({ lex_Token.zero with f_Kind := 16, f_Max := (-1) } : lex_Token) with f_Min := v107.1 } with f_Max := v107.2.1 })))
                  have a153 := ld_one (M := Mt) (t := 3) f116 T.ag3 (Seg.refl.sub (lex_Token.seg2 ({ { ({ lex_Token.zero with f_Kind := 16, f_Max := (-1) } : lex_Token) with f_Min := v107.1 } with f_Max := v107.2.1 })))
                  simp only [C.f39r13p0, R, Nat.reduceEqDiff, fa46_3, a139, g151, a152, fa46_2, a153]
                  refine hJ _ ?_
                  exact ⟨(by first | rfl | (simp only [g151]; rfl) | simp only [g151, Lk, lookS, lookN, Nat.reduceEqDiff, not_false_eq_true, Bool.true_and, Bool.false_and, Bool.true_or, Bool.false_or, cond_true, cond_false]), rfl, rfl, (by first | rfl | (simp only [g151]; rfl) | simp only [g151, Lk, lookS, lookN, Nat.reduceEqDiff, not_false_eq_true, Bool.true_and, Bool.false_and, Bool.true_or, Bool.false_or, cond_true, cond_false]), (by first | rfl | (simp only [g151]; rfl) | simp only [g151, Lk, lookS, lookN, Nat.reduceEqDiff, not_false_eq_true, Bool.true_and, Bool.false_and, Bool.true_or, Bool.false_or, cond_true, cond_false]), f119, f116, i118⟩
              rintro ⟨σ154, H142, d155⟩ ⟨h143, h144, h145, h146, h147, f148, f149, i150⟩
              simp only [C.f39r13p1, R, Nat.reduceEqDiff, h147]
              refine hJ _ ?_
              refine tk_cond (t := (!decide ((({ { ({ lex_Token.zero with f_Kind := 16, f_Max := (-1) } : lex_Token) with f_Min := v107.1 } with f_Max := v107.2.1 }).f_Max) = ((-1)))) && (decide ((({ { ({ lex_Token.zero with f_Kind := 16, f_Max := (-1) } : lex_Token) with f_Min := v107.1 } with f_Max := v107.2.1 }).f_Max) < (({ { ({ lex_Token.zero with f_Kind := 16, f_Max := (-1) } : lex_Token) with f_Min := v107.1 } with f_Max := v107.2.1 }).f_Min)))) rfl (fun g156 => ?_) (fun g156 => ?_)
              · replace hm := cond_t hm g156
                refine tk_os okM hok fun J hJ => ?_
                obtain ⟨H157, a158, f159, u160⟩ := st_ok (M := Mt) (t := 46) (v := (vAgg (lex_Token.c (lex_Token.zero)))) (c := lex_Token.c lex_Token.zero) (cs' := lex_Token.c lex_Token.zero) f148 (by rw [lex_Token.enc.len]; exact T.sz46) vAgg_cells (lex_Token.enc.one _) (Nat.le_trans hcn r6) (le0 lex_Token.enc.len) (wrs_all (eqL lex_Token.enc.len))
                have i161 := i150.up u160 r6
                have f162 := (u160.get _ (ne_len f4 q15).symm).trans f149
                simp only [C.f39r14, R, Nat.reduceEqDiff, bd46_, a158, h144]
                refine hJ _ ?_
                refine tk_ret okM ?_
                refine x122 _ _ (by simp) (by simp) ?_
                refine x90 _ _ (by simp) (by simp) ?_
                refine x86 _ _ (by simp) ?_
                obtain rfl := Option.some.inj hm
                exact end_flat (.inl rfl) (vs := [(vAgg (lex_Token.c (lex_Token.zero))), (.int .i64 (0)), (.int .i64 (3))]) (resC' (v := (vAgg (lex_Token.c (lex_Token.zero)))) h144 (ldv_of (ld_agg (M := Mt) (t := 46) f159 T.ag46 (by rw [lex_Token.enc.len]; exact T.sz46) Seg.refl)) (resT' (v := (.int .i64 (0))) rfl (resT' (v := (.int .i64 (3))) rfl resN))) (fm_cons (flat_agg lex_Token.enc _) (fm_cons rfl (fm_cons rfl fm_nil)))
              · replace hm := cond_f hm g156
                refine tk_skip okM ?_
                refine n120 _ ?_
                refine n88 _ ?_
                refine n85 _ ?_
                exact ⟨x0, lex_Token.zero, { { ({ lex_Token.zero with f_Kind := 16, f_Max := (-1) } : lex_Token) with f_Min := v107.1 } with f_Max := v107.2.1 }, v107.2.2, hm, h143, h144, h145, h146, f148, f149, i150⟩
        · replace hm := cond_f hm g105
          refine tk_skip okM ?_
          refine n88 _ ?_
          refine n85 _ ?_
          exact ⟨x0, lex_Token.zero, ({ lex_Token.zero with f_Kind := 16, f_Max := (-1) } : lex_Token), 1, hm, rfl, rfl, rfl, rfl, f27, f24, i26⟩

-- clew/lex.escaped
def b_lex_escaped (c_strings_HasPrefix : T_strings_HasPrefix) (c_lex_digit : T_lex_digit) (c_lex_escape : T_lex_escape) (n : Nat) (x0 : ByteArray) : Option (lex_Token × Int × Int) := (sub x0 1 x0.size).bind fun v11 => (c_strings_HasPrefix v11 ((⟨#[98]⟩ : ByteArray))).bind fun v18 => bif v18 then (some (({ lex_Token.zero with f_Kind := 4 } : lex_Token), 2, 0)) else ((c_strings_HasPrefix v11 ((⟨#[66]⟩ : ByteArray))).bind fun v26 => bif v26 then (some (({ lex_Token.zero with f_Kind := 5 } : lex_Token), 2, 0)) else ((bif !decide (v11 = ((⟨#[]⟩ : ByteArray))) then ((bt v11 0).bind fun v33 => (c_lex_digit v33 10).bind fun v35 => some (decide (0 < v35))) else some false).bind fun y36 => bif y36 then ((bt v11 0).bind fun v50 => (c_lex_digit v50 10).bind fun v52 => some (({ lex_Token.zero with f_Kind := 17, f_N := v52 } : lex_Token), 2, 0)) else ((c_lex_escape v11).bind fun v59 => bif decide (v59.2 = 0) then (some (lex_Token.zero, 0, 3)) else (some (({ lex_Token.zero with f_Set := v59.1 } : lex_Token), IntKind.i64.wrap (v59.2 + 1), 0)))))

theorem w_lex_escaped {call : CallF} (hok : CallOk Mt call) {n : Nat} {c_strings_HasPrefix : T_strings_HasPrefix} (ha_strings_HasPrefix : A_strings_HasPrefix call c_strings_HasPrefix) {c_lex_digit : T_lex_digit} (ha_lex_digit : A_lex_digit call c_lex_digit) {c_lex_escape : T_lex_escape} (ha_lex_escape : A_lex_escape call c_lex_escape) {H0 : Hp} {x0 : ByteArray} {r : lex_Token × Int × Int} {ro : Nat} (hro : ro ≤ H0.length) (hm : b_lex_escaped c_strings_HasPrefix c_lex_digit c_lex_escape n x0 = some r) :
    Pt Mt ro 40 [(.string x0)] H0 (.tuple [(vAgg (lex_Token.c (r.1))), (.int .i64 (r.2.1)), (.int .i64 (r.2.2))].toArray) H0 [] := by
  refine pt_new0 okM F40d (by exact Nat.le_of_ble_eq_true rfl) ?_ hro
  intro c hnt hnb hcr
  have hcn : c.ro ≤ c.nb := by omega
  have iv : Iv c.nb [] H0 H0 := by rw [hnb]; exact iv_refl
  rw [show args0 [(.string x0)] = [(0, (.string x0))] from rfl]
  rw [b_lex_escaped] at hm
  simp only [C.f40]
  refine tk_os okM hok fun J hJ => ?_
  obtain ⟨b1, H2, a3, f4, q5, r6, x7, i8⟩ := al_ok H0 46 (lex_Token.c lex_Token.zero) iv.le
  have i9 := i8 _ _ iv
  simp only [C.f40r0, R, Nat.reduceEqDiff, zs46, a3]
  refine hJ _ ?_
  refine tk_os okM hok fun J hJ => ?_
  obtain ⟨v11, ev11, hm⟩ := bind_s hm
  simp only [C.f40r1, R, Nat.reduceEqDiff, sl_str (M := Mt) Tryd.underlying9, ev11]
  refine hJ _ ?_
  refine tk_seq_k fun K n12 x13 => ?_
  refine tk_block_k fun K n14 e15 x16 => ?_
  refine tk_os okM hok fun J hJ => ?_
  obtain ⟨v18, ev18, hm⟩ := bind_s hm
  have a17 := ha_strings_HasPrefix c.ro H2 v11 ((⟨#[98]⟩ : ByteArray)) v18 ev18
  simp only [C.f40r2, R, Nat.reduceEqDiff, c_fn F26, a17]
  refine hJ _ ?_
  refine tk_cond (t := v18) rfl (fun g19 => ?_) (fun g19 => ?_)
  · replace hm := cond_t hm g19
    refine tk_os okM hok fun J hJ => ?_
    obtain ⟨H20, a21, f22, u23⟩ := st_ok (M := Mt) (t := 46) (v := (vAgg (lex_Token.c (({ lex_Token.zero with f_Kind := 4 } : lex_Token))))) (c := lex_Token.c (({ lex_Token.zero with f_Kind := 4 } : lex_Token))) (cs' := lex_Token.c (({ lex_Token.zero with f_Kind := 4 } : lex_Token))) f4 (by rw [lex_Token.enc.len]; exact T.sz46) vAgg_cells (lex_Token.enc.one _) (Nat.le_trans hcn r6) (le0 lex_Token.enc.len) (wrs_all (eqL lex_Token.enc.len))
    have i24 := i9.up u23 r6
    simp only [C.f40r3, R, Nat.reduceEqDiff, bd46_0, a21]
    refine hJ _ ?_
    refine tk_ret okM ?_
    refine x16 _ _ (by simp) (by simp) ?_
    refine x13 _ _ (by simp) ?_
    obtain rfl := Option.some.inj hm
    exact end_flat (.inl rfl) (vs := [(vAgg (lex_Token.c (({ lex_Token.zero with f_Kind := 4 } : lex_Token)))), (.int .i64 (2)), (.int .i64 (0))]) (resC' (v := (vAgg (lex_Token.c (({ lex_Token.zero with f_Kind := 4 } : lex_Token))))) rfl (ldv_of (ld_agg (M := Mt) (t := 46) f22 T.ag46 (by rw [lex_Token.enc.len]; exact T.sz46) Seg.refl)) (resT' (v := (.int .i64 (2))) rfl (resT' (v := (.int .i64 (0))) rfl resN))) (fm_cons (flat_agg lex_Token.enc _) (fm_cons rfl (fm_cons rfl fm_nil)))
  · replace hm := cond_f hm g19
    refine tk_os okM hok fun J hJ => ?_
    obtain ⟨v26, ev26, hm⟩ := bind_s hm
    have a25 := ha_strings_HasPrefix c.ro H2 v11 ((⟨#[66]⟩ : ByteArray)) v26 ev26
    simp only [C.f40r4, R, Nat.reduceEqDiff, c_fn F26, a25]
    refine hJ _ ?_
    refine tk_cond (t := v26) rfl (fun g27 => ?_) (fun g27 => ?_)
    · replace hm := cond_t hm g27
      refine tk_os okM hok fun J hJ => ?_
      obtain ⟨H28, a29, f30, u31⟩ := st_ok (M := Mt) (t := 46) (v := (vAgg (lex_Token.c (({ lex_Token.zero with f_Kind := 5 } : lex_Token))))) (c := lex_Token.c (({ lex_Token.zero with f_Kind := 5 } : lex_Token))) (cs' := lex_Token.c (({ lex_Token.zero with f_Kind := 5 } : lex_Token))) f4 (by rw [lex_Token.enc.len]; exact T.sz46) vAgg_cells (lex_Token.enc.one _) (Nat.le_trans hcn r6) (le0 lex_Token.enc.len) (wrs_all (eqL lex_Token.enc.len))
      have i32 := i9.up u31 r6
      simp only [C.f40r5, R, Nat.reduceEqDiff, bd46_0, a29]
      refine hJ _ ?_
      refine tk_ret okM ?_
      refine x16 _ _ (by simp) (by simp) ?_
      refine x13 _ _ (by simp) ?_
      obtain rfl := Option.some.inj hm
      exact end_flat (.inl rfl) (vs := [(vAgg (lex_Token.c (({ lex_Token.zero with f_Kind := 5 } : lex_Token)))), (.int .i64 (2)), (.int .i64 (0))]) (resC' (v := (vAgg (lex_Token.c (({ lex_Token.zero with f_Kind := 5 } : lex_Token))))) rfl (ldv_of (ld_agg (M := Mt) (t := 46) f30 T.ag46 (by rw [lex_Token.enc.len]; exact T.sz46) Seg.refl)) (resT' (v := (.int .i64 (2))) rfl (resT' (v := (.int .i64 (0))) rfl resN))) (fm_cons (flat_agg lex_Token.enc _) (fm_cons rfl (fm_cons rfl fm_nil)))
    · replace hm := cond_f hm g27
      refine tk_os okM hok fun J hJ => ?_
      rw [C.f40r6]
      obtain ⟨y36, ey36, hm⟩ := bind_s hm
      refine rn_app_k (fun ⟨σ, H, _⟩ => Lk σ 2 (.pointer (some ⟨b1, 0, none⟩)) ∧ Lk σ 5 (.string (v11)) ∧ Lk σ 26 (.bool (y36)) ∧ H[b1]? = some (.cells (lex_Token.c lex_Token.zero) 46) ∧ Iv c.nb [] H0 H) (fun J hJ => ?_) ?_
      · skip
        cases g43 : !decide (v11 = ((⟨#[]⟩ : ByteArray)))
        · skip
          have ey36 := cond_f ey36 g43
          obtain rfl := Option.some.inj ey36
          simp only [C.f40r6p0, R, Nat.reduceEqDiff, g43]
          refine hJ _ ?_
          exact ⟨rfl, (by first | rfl | (simp only [g43]; rfl) | simp only [g43, Lk, lookS, lookN, Nat.reduceEqDiff, not_false_eq_true, Bool.true_and, Bool.false_and, Bool.true_or, Bool.false_or, cond_true, cond_false]), (by first | rfl | (simp only [g43]; rfl) | simp only [g43, Lk, lookS, lookN, Nat.reduceEqDiff, not_false_eq_true, Bool.true_and, Bool.false_and, Bool.true_or, Bool.false_or, cond_true, cond_false]), f4, i9⟩
        · skip
          have ey36 := cond_t ey36 g43
          obtain ⟨v44, ev44, ey36⟩ := bind_s ey36
          obtain ⟨v46, ev46, ey36⟩ := bind_s ey36
          have a45 := ha_lex_digit c.ro H2 v44 10 v46 ev46
          obtain rfl := Option.some.inj ey36
          simp only [C.f40r6p0, R, Nat.reduceEqDiff, g43, idxP_str (M := Mt) Tryd.underlying9, ev44, c_fn F52, a45]
          refine hJ _ ?_
          exact ⟨rfl, (by first | rfl | (simp only [g43]; rfl) | simp only [g43, Lk, lookS, lookN, Nat.reduceEqDiff, not_false_eq_true, Bool.true_and, Bool.false_and, Bool.true_or, Bool.false_or, cond_true, cond_false]), (by first | rfl | (simp only [g43]; rfl) | simp only [g43, Lk, lookS, lookN, Nat.reduceEqDiff, not_false_eq_true, Bool.true_and, Bool.false_and, Bool.true_or, Bool.false_or, cond_true, cond_false]), f4, i9⟩
      rintro ⟨σ47, H37, d48⟩ ⟨h38, h39, h40, f41, i42⟩
      simp only [C.f40r6p1, R, Nat.reduceEqDiff, h40]
      refine hJ _ ?_
      refine tk_cond (t := y36) rfl (fun g49 => ?_) (fun g49 => ?_)
      · replace hm := cond_t hm g49
        refine tk_os okM hok fun J hJ => ?_
        obtain ⟨v50, ev50, hm⟩ := bind_s hm
        obtain ⟨v52, ev52, hm⟩ := bind_s hm
        have a51 := ha_lex_digit c.ro H37 v50 10 v52 ev52
        obtain ⟨H53, a54, f55, u56⟩ := st_ok (M := Mt) (t := 46) (v := (vAgg (lex_Token.c (({ lex_Token.zero with f_Kind := 17, f_N := v52 } : lex_Token))))) (c := lex_Token.c (({ lex_Token.zero with f_Kind := 17, f_N := v52 } : lex_Token))) (cs' := lex_Token.c (({ lex_Token.zero with f_Kind := 17, f_N := v52 } : lex_Token))) f41 (by rw [lex_Token.enc.len]; exact T.sz46) vAgg_cells (lex_Token.enc.one _) (Nat.le_trans hcn r6) (le0 lex_Token.enc.len) (wrs_all (eqL lex_Token.enc.len))
        have i57 := i42.up u56 r6
        simp only [C.f40r7, R, Nat.reduceEqDiff, h39, idxP_str (M := Mt) Tryd.underlying9, ev50, c_fn F52, a51, bd46_0_5, a54, h38]
        refine hJ _ ?_
        refine tk_ret okM ?_
        refine x16 _ _ (by simp) (by simp) ?_
        refine x13 _ _ (by simp) ?_
        obtain rfl := Option.some.inj hm
        exact end_flat (.inl rfl) (vs := [(vAgg (lex_Token.c (({ lex_Token.zero with f_Kind := 17, f_N := v52 } : lex_Token)))), (.int .i64 (2)), (.int .i64 (0))]) (resC' (v := (vAgg (lex_Token.c (({ lex_Token.zero with f_Kind := 17, f_N := v52 } : lex_Token))))) h38 (ldv_of (ld_agg (M := Mt) (t := 46) f55 T.ag46 (by rw [lex_Token.enc.len]; exact T.sz46) Seg.refl)) (resT' (v := (.int .i64 (2))) rfl (resT' (v := (.int .i64 (0))) rfl resN))) (fm_cons (flat_agg lex_Token.enc _) (fm_cons rfl (fm_cons rfl fm_nil)))
      · replace hm := cond_f hm g49
        refine tk_skip okM ?_
        refine n14 _ ?_
        refine n12 _ ?_
        refine tk_os okM hok fun J hJ => ?_
        obtain ⟨v59, ev59, hm⟩ := bind_s hm
        have a58 := ha_lex_escape c.ro H37 v11 v59 ev59
        obtain ⟨b60, H61, a62, f63, q64, r65, x66, i67⟩ := al_ok H37 36 (class_Set.c class_Set.zero) i42.le
        have i68 := i67 _ _ i42
        have f69 := x66 _ _ f41
        obtain ⟨H71, a72, f73, u74⟩ := st_ok (M := Mt) (t := 36) (v := (vAgg (class_Set.c (v59.1)))) (c := class_Set.c v59.1) (cs' := class_Set.c v59.1) f63 (by rw [class_Set.enc.len]; exact T.sz36) vAgg_cells (class_Set.enc.one _) (Nat.le_trans hcn r65) (le0 class_Set.enc.len) (wrs_all (eqL class_Set.enc.len))
        have i75 := i68.up u74 r65
        have f76 := (u74.get _ (ne_len f41 q64)).trans f69
        simp only [C.f40r8, R, Nat.reduceEqDiff, h39, c_fn F53, a58, zs36, a62, a72]
        refine hJ _ ?_
        refine tk_seq_k fun K n77 x78 => ?_
        refine tk_os okM hok fun J hJ => ?_
        simp only [C.f40r9, R, Nat.reduceEqDiff]
        refine hJ _ ?_
        refine tk_cond (t := decide (v59.2 = 0)) rfl (fun g79 => ?_) (fun g79 => ?_)
        · replace hm := cond_t hm g79
          refine tk_os okM hok fun J hJ => ?_
          obtain ⟨H80, a81, f82, u83⟩ := st_ok (M := Mt) (t := 46) (v := (vAgg (lex_Token.c (lex_Token.zero)))) (c := lex_Token.c lex_Token.zero) (cs' := lex_Token.c lex_Token.zero) f76 (by rw [lex_Token.enc.len]; exact T.sz46) vAgg_cells (lex_Token.enc.one _) (Nat.le_trans hcn r6) (le0 lex_Token.enc.len) (wrs_all (eqL lex_Token.enc.len))
          have i84 := i75.up u83 r6
          have f85 := (u83.get _ (ne_len f41 q64).symm).trans f73
          simp only [C.f40r10, R, Nat.reduceEqDiff, bd46_, a81, h38]
          refine hJ _ ?_
          refine tk_ret okM ?_
          refine x78 _ _ (by simp) ?_
          obtain rfl := Option.some.inj hm
          exact end_flat (.inl rfl) (vs := [(vAgg (lex_Token.c (lex_Token.zero))), (.int .i64 (0)), (.int .i64 (3))]) (resC' (v := (vAgg (lex_Token.c (lex_Token.zero)))) h38 (ldv_of (ld_agg (M := Mt) (t := 46) f82 T.ag46 (by rw [lex_Token.enc.len]; exact T.sz46) Seg.refl)) (resT' (v := (.int .i64 (0))) rfl (resT' (v := (.int .i64 (3))) rfl resN))) (fm_cons (flat_agg lex_Token.enc _) (fm_cons rfl (fm_cons rfl fm_nil)))
        · replace hm := cond_f hm g79
          refine tk_skip okM ?_
          refine n77 _ ?_
          refine tk_os okM hok fun J hJ => ?_
          have a86 := ld_agg (M := Mt) (t := 36) f73 T.ag36 (by rw [class_Set.enc.len]; exact T.sz36) Seg.refl
          obtain ⟨H87, a88, f89, u90⟩ := st_ok (M := Mt) (t := 46) (v := (vAgg (lex_Token.c (({ lex_Token.zero with f_Set := v59.1 } : lex_Token))))) (c := lex_Token.c (({ lex_Token.zero with f_Set := v59.1 } : lex_Token))) (cs' := lex_Token.c (({ lex_Token.zero with f_Set := v59.1 } : lex_Token))) f76 (by rw [lex_Token.enc.len]; exact T.sz46) vAgg_cells (lex_Token.enc.one _) (Nat.le_trans hcn r6) (le0 lex_Token.enc.len) (wrs_all (eqL lex_Token.enc.len))
          have i91 := i75.up u90 r6
          have f92 := (u90.get _ (ne_len f41 q64).symm).trans f73
          simp only [C.f40r11, R, Nat.reduceEqDiff, a86, bd46_1, a88, h38]
          refine hJ _ ?_
          refine tk_ret okM ?_
          obtain rfl := Option.some.inj hm
          exact end_flat (.inl rfl) (vs := [(vAgg (lex_Token.c (({ lex_Token.zero with f_Set := v59.1 } : lex_Token)))), (.int .i64 (IntKind.i64.wrap (v59.2 + 1))), (.int .i64 (0))]) (resC' (v := (vAgg (lex_Token.c (({ lex_Token.zero with f_Set := v59.1 } : lex_Token))))) h38 (ldv_of (ld_agg (M := Mt) (t := 46) f89 T.ag46 (by rw [lex_Token.enc.len]; exact T.sz46) Seg.refl)) (resT' (v := (.int .i64 (IntKind.i64.wrap (v59.2 + 1)))) rfl (resT' (v := (.int .i64 (0))) rfl resN))) (fm_cons (flat_agg lex_Token.enc _) (fm_cons rfl (fm_cons rfl fm_nil)))

-- clew/clewref06.one
def b_ref06_one (c_ref01_Range : T_ref01_Range) (n : Nat) (x0 : Int) : Option (ref01_Set) := (c_ref01_Range x0 x0).bind fun v12 => some v12

theorem w_ref06_one {call : CallF} (hok : CallOk Mt call) {n : Nat} {c_ref01_Range : T_ref01_Range} (ha_ref01_Range : A_ref01_Range call c_ref01_Range) {H0 : Hp} {x0 : Int} {r : ref01_Set} {ro : Nat} (hro : ro ≤ H0.length) (hm : b_ref06_one c_ref01_Range n x0 = some r) :
    Pt Mt ro 43 [(.int .u8 x0)] H0 (vAgg (ref01_Set.c (r))) H0 [] := by
  refine pt_new0 okM F43d (by exact Nat.le_of_ble_eq_true rfl) ?_ hro
  intro c hnt hnb hcr
  have hcn : c.ro ≤ c.nb := by omega
  have iv : Iv c.nb [] H0 H0 := by rw [hnb]; exact iv_refl
  rw [show args0 [(.int .u8 x0)] = [(0, (.int .u8 x0))] from rfl]
  rw [b_ref06_one] at hm
  simp only [C.f43]
  refine tk_os okM hok fun J hJ => ?_
  obtain ⟨b1, H2, a3, f4, q5, r6, x7, i8⟩ := al_ok H0 68 (ref01_Set.c ref01_Set.zero) iv.le
  have i9 := i8 _ _ iv
  simp only [C.f43r0, R, Nat.reduceEqDiff, zs68, a3]
  refine hJ _ ?_
  refine tk_os okM hok fun J hJ => ?_
  obtain ⟨v12, ev12, hm⟩ := bind_s hm
  have a11 := ha_ref01_Range c.ro H2 x0 x0 v12 ev12
  obtain ⟨H13, a14, f15, u16⟩ := st_ok (M := Mt) (t := 68) (v := (vAgg (ref01_Set.c (v12)))) (c := ref01_Set.c v12) (cs' := ref01_Set.c v12) f4 (by rw [ref01_Set.enc.len]; exact T.sz68) vAgg_cells (ref01_Set.enc.one _) (Nat.le_trans hcn r6) (le0 ref01_Set.enc.len) (wrs_all (eqL ref01_Set.enc.len))
  have i17 := i9.up u16 r6
  simp only [C.f43r1, R, Nat.reduceEqDiff, c_fn F32, a11, a14]
  refine hJ _ ?_
  refine tk_ret okM ?_
  obtain rfl := Option.some.inj hm
  exact end_flat (.inl rfl) (vs := [(vAgg (ref01_Set.c (v12)))]) (resC' (v := (vAgg (ref01_Set.c (v12)))) rfl (ldv_of (ld_agg (M := Mt) (t := 68) f15 T.ag68 (by rw [ref01_Set.enc.len]; exact T.sz68) Seg.refl)) resN) (fm_cons (flat_agg ref01_Set.enc _) fm_nil)
end Go.Proofs.YtcjnmmeibppblaaDoor
