/-
  WHAT THE FUNCTIONS COMPUTE, AS TYPED FUNCTIONS, AND THAT THEY DO: printed by our own mir.py.
-/
import Derived.Test.YtcjnmmeibppblaaDoorF8Base
set_option maxRecDepth 100000
set_option linter.unusedVariables false
set_option linter.unusedSimpArgs false
namespace Go.Proofs.YtcjnmmeibppblaaDoor
open Go Go.AM
attribute [local congr] bind_first map_first
-- internal/stringslite.HasPrefix
def fn45 (n : Nat) (x0 : ByteArray) (x1 : ByteArray) : Option (Bool) := (bif decide (((x1.size : Int)) ≤ ((x0.size : Int))) then ((sub x0 0 ((x1.size : Int))).bind fun v1 => some (decide (v1 = x1))) else some false).bind fun y2 => some y2

theorem w45 {call : CallF} (hok : CallOk Mt call) {n : Nat} {H0 : Hp} {x0 : ByteArray} {x1 : ByteArray} {r : Bool} {ro : Nat} (hro : ro ≤ H0.length) (hm : fn45 n x0 x1 = some r) :
    Pt Mt ro 45 [(.string x0), (.string x1)] H0 (.bool (r)) H0 [] := by
  refine pt_new0 okM F45d (by exact Nat.le_of_ble_eq_true rfl) ?_ hro
  intro c hnt hnb hcr
  have hcn : c.ro ≤ c.nb := by omega
  have iv : Iv c.nb [] H0 H0 := by rw [hnb]; exact iv_refl
  rw [show args0 [(.string x0), (.string x1)] = [(0, (.string x0)), (1, (.string x1))] from rfl]
  rw [fn45] at hm
  simp only [C.f45]
  refine tk_os okM hok fun J hJ => ?_
  simp only [C.f45r0, R, Nat.reduceEqDiff]
  refine hJ _ ?_
  refine tk_os okM hok fun J hJ => ?_
  rw [C.f45r1]
  obtain ⟨y2, ey2, hm⟩ := bind_s hm
  refine rn_app_k (fun ⟨σ, H, _⟩ => Lk σ 17 (.bool (y2)) ∧ Iv c.nb [] H0 H) (fun J hJ => ?_) ?_
  · skip
    cases g6 : decide (((x1.size : Int)) ≤ ((x0.size : Int)))
    · skip
      have ey2 := cond_f ey2 g6
      obtain rfl := Option.some.inj ey2
      simp only [C.f45r1p0, R, Nat.reduceEqDiff, len_str (M := Mt) Tryd.underlying9, g6]
      refine hJ _ ?_
      exact ⟨(by first | rfl | (simp only [g6]; rfl) | simp only [g6, Lk, lookS, lookN, Nat.reduceEqDiff, not_false_eq_true, Bool.true_and, Bool.false_and, Bool.true_or, Bool.false_or, cond_true, cond_false]), iv⟩
    · skip
      have ey2 := cond_t ey2 g6
      obtain ⟨v7, ev7, ey2⟩ := bind_s ey2
      obtain rfl := Option.some.inj ey2
      simp only [C.f45r1p0, R, Nat.reduceEqDiff, len_str (M := Mt) Tryd.underlying9, g6, sl_str3 (M := Mt) Tryd.underlying9, ev7]
      refine hJ _ ?_
      exact ⟨(by first | rfl | (simp only [g6]; rfl) | simp only [g6, Lk, lookS, lookN, Nat.reduceEqDiff, not_false_eq_true, Bool.true_and, Bool.false_and, Bool.true_or, Bool.false_or, cond_true, cond_false]), iv⟩
  rintro ⟨σ8, H3, d9⟩ ⟨h4, i5⟩
  simp only [C.f45r1p1, R, Nat.reduceEqDiff, h4]
  refine hJ _ ?_
  refine tk_ret okM ?_
  obtain rfl := Option.some.inj hm
  exact end_flat (.inl rfl) (vs := [(.bool (y2))]) (resT' (v := (.bool (y2))) rfl resN) (fm_cons rfl fm_nil)

-- clew/lex.item
def fn46 (c17 : T17) (c49 : T49) (c53 : T53) (n : Nat) (x0 : ByteArray) : Option (S35 × Int) := (bif decide (x0 = ((⟨#[]⟩ : ByteArray))) then some true else ((bt x0 0).bind fun v16 => (c49 ((⟨#[91, 93, 45]⟩ : ByteArray)) v16).bind fun v18 => some (decide (0 ≤ v18)))).bind fun y19 => bif y19 then (some (S35.zero, 0)) else ((bt x0 0).bind fun v38 => bif decide (v38 = 92) then ((sub x0 1 x0.size).bind fun v40 => (c53 v40).bind fun v42 => bif decide (v42.2 = 0) then (some (S35.zero, 0)) else (some (v42.1, IntKind.i64.wrap (v42.2 + 1)))) else ((c17 v38).bind fun v77 => some (v77, 1)))

theorem w46 {call : CallF} (hok : CallOk Mt call) {n : Nat} {c17 : T17} (ha17 : A17 call c17) {c49 : T49} (ha49 : A49 call c49) {c53 : T53} (ha53 : A53 call c53) {H0 : Hp} {x0 : ByteArray} {r : S35 × Int} {ro : Nat} (hro : ro ≤ H0.length) (hm : fn46 c17 c49 c53 n x0 = some r) :
    Pt Mt ro 46 [(.string x0)] H0 (.tuple [(vAgg (S35.c (r.1))), (.int .i64 (r.2))].toArray) H0 [] := by
  refine pt_new0 okM F46d (by exact Nat.le_of_ble_eq_true rfl) ?_ hro
  intro c hnt hnb hcr
  have hcn : c.ro ≤ c.nb := by omega
  have iv : Iv c.nb [] H0 H0 := by rw [hnb]; exact iv_refl
  rw [show args0 [(.string x0)] = [(0, (.string x0))] from rfl]
  rw [fn46] at hm
  simp only [C.f46]
  refine tk_os okM hok fun J hJ => ?_
  obtain ⟨b1, H2, a3, f4, q5, r6, x7, i8⟩ := al_ok H0 36 (S35.c S35.zero) iv.le
  have i9 := i8 _ _ iv
  simp only [C.f46r0, R, Nat.reduceEqDiff, zs36, a3]
  refine hJ _ ?_
  refine tk_seq_k fun K n11 x12 => ?_
  refine tk_block_k fun K n13 e14 x15 => ?_
  refine tk_os okM hok fun J hJ => ?_
  rw [C.f46r1]
  obtain ⟨y19, ey19, hm⟩ := bind_s hm
  refine rn_app_k (fun ⟨σ, H, _⟩ => Lk σ 0 (.string (x0)) ∧ Lk σ 2 (.pointer (some ⟨b1, 0, none⟩)) ∧ Lk σ 14 (.bool (y19)) ∧ H[b1]? = some (.cells (S35.c S35.zero) 36) ∧ Iv c.nb [] H0 H) (fun J hJ => ?_) ?_
  · skip
    cases g26 : decide (x0 = ((⟨#[]⟩ : ByteArray)))
    · skip
      have ey19 := cond_f ey19 g26
      obtain ⟨v27, ev27, ey19⟩ := bind_s ey19
      obtain ⟨v29, ev29, ey19⟩ := bind_s ey19
      have a28 := ha49 c.ro H2 ((⟨#[91, 93, 45]⟩ : ByteArray)) v27 v29 ev29
      obtain rfl := Option.some.inj ey19
      simp only [C.f46r1p0, R, Nat.reduceEqDiff, g26, idxP_str (M := Mt) Tryd.underlying9, ev27, c_fn F49, a28]
      refine hJ _ ?_
      exact ⟨(by first | rfl | (simp only [g26]; rfl) | simp only [g26, Lk, lookS, lookN, Nat.reduceEqDiff, not_false_eq_true, Bool.true_and, Bool.false_and, Bool.true_or, Bool.false_or, cond_true, cond_false]), rfl, (by first | rfl | (simp only [g26]; rfl) | simp only [g26, Lk, lookS, lookN, Nat.reduceEqDiff, not_false_eq_true, Bool.true_and, Bool.false_and, Bool.true_or, Bool.false_or, cond_true, cond_false]), f4, i9⟩
    · skip
      have ey19 := cond_t ey19 g26
      obtain rfl := Option.some.inj ey19
      simp only [C.f46r1p0, R, Nat.reduceEqDiff, g26]
      refine hJ _ ?_
      exact ⟨(by first | rfl | (simp only [g26]; rfl) | simp only [g26, Lk, lookS, lookN, Nat.reduceEqDiff, not_false_eq_true, Bool.true_and, Bool.false_and, Bool.true_or, Bool.false_or, cond_true, cond_false]), rfl, (by first | rfl | (simp only [g26]; rfl) | simp only [g26, Lk, lookS, lookN, Nat.reduceEqDiff, not_false_eq_true, Bool.true_and, Bool.false_and, Bool.true_or, Bool.false_or, cond_true, cond_false]), f4, i9⟩
  rintro ⟨σ30, H20, d31⟩ ⟨h21, h22, h23, f24, i25⟩
  simp only [C.f46r1p1, R, Nat.reduceEqDiff, h23]
  refine hJ _ ?_
  refine tk_cond (t := y19) rfl (fun g32 => ?_) (fun g32 => ?_)
  · replace hm := cond_t hm g32
    refine tk_os okM hok fun J hJ => ?_
    obtain ⟨H33, a34, f35, u36⟩ := st_ok (M := Mt) (t := 36) (v := (vAgg (S35.c (S35.zero)))) (c := S35.c S35.zero) (cs' := S35.c S35.zero) f24 (by rw [S35.enc.len]; exact T.sz36) vAgg_cells (S35.enc.one _) (Nat.le_trans hcn r6) (le0 S35.enc.len) (wrs_all (eqL S35.enc.len))
    have i37 := i25.up u36 r6
    simp only [C.f46r2, R, Nat.reduceEqDiff, bd36_, a34, h22]
    refine hJ _ ?_
    refine tk_ret okM ?_
    refine x15 _ _ (by simp) (by simp) ?_
    refine x12 _ _ (by simp) ?_
    obtain rfl := Option.some.inj hm
    exact end_flat (.inl rfl) (vs := [(vAgg (S35.c (S35.zero))), (.int .i64 (0))]) (resC' (v := (vAgg (S35.c (S35.zero)))) h22 (ldv_of (ld_agg (M := Mt) (t := 36) f35 T.ag36 (by rw [S35.enc.len]; exact T.sz36) Seg.refl)) (resT' (v := (.int .i64 (0))) rfl resN)) (fm_cons (flat_agg S35.enc _) (fm_cons rfl fm_nil))
  · replace hm := cond_f hm g32
    refine tk_os okM hok fun J hJ => ?_
    obtain ⟨v38, ev38, hm⟩ := bind_s hm
    simp only [C.f46r3, R, Nat.reduceEqDiff, h21, idxP_str (M := Mt) Tryd.underlying9, ev38]
    refine hJ _ ?_
    refine tk_cond (t := decide (v38 = 92)) rfl (fun g39 => ?_) (fun g39 => ?_)
    · replace hm := cond_t hm g39
      refine tk_os okM hok fun J hJ => ?_
      obtain ⟨v40, ev40, hm⟩ := bind_s hm
      obtain ⟨v42, ev42, hm⟩ := bind_s hm
      have a41 := ha53 c.ro H20 v40 v42 ev42
      obtain ⟨b43, H44, a45, f46, q47, r48, x49, i50⟩ := al_ok H20 36 (S35.c S35.zero) i25.le
      have i51 := i50 _ _ i25
      have f52 := x49 _ _ f24
      obtain ⟨H54, a55, f56, u57⟩ := st_ok (M := Mt) (t := 36) (v := (vAgg (S35.c (v42.1)))) (c := S35.c v42.1) (cs' := S35.c v42.1) f46 (by rw [S35.enc.len]; exact T.sz36) vAgg_cells (S35.enc.one _) (Nat.le_trans hcn r48) (le0 S35.enc.len) (wrs_all (eqL S35.enc.len))
      have i58 := i51.up u57 r48
      have f59 := (u57.get _ (ne_len f24 q47)).trans f52
      simp only [C.f46r4, R, Nat.reduceEqDiff, h21, sl_str (M := Mt) Tryd.underlying9, ev40, c_fn F53, a41, zs36, a45, a55]
      refine hJ _ ?_
      refine tk_seq_k fun K n60 x61 => ?_
      refine tk_os okM hok fun J hJ => ?_
      simp only [C.f46r5, R, Nat.reduceEqDiff]
      refine hJ _ ?_
      refine tk_cond (t := decide (v42.2 = 0)) rfl (fun g62 => ?_) (fun g62 => ?_)
      · replace hm := cond_t hm g62
        refine tk_os okM hok fun J hJ => ?_
        obtain ⟨H63, a64, f65, u66⟩ := st_ok (M := Mt) (t := 36) (v := (vAgg (S35.c (S35.zero)))) (c := S35.c S35.zero) (cs' := S35.c S35.zero) f59 (by rw [S35.enc.len]; exact T.sz36) vAgg_cells (S35.enc.one _) (Nat.le_trans hcn r6) (le0 S35.enc.len) (wrs_all (eqL S35.enc.len))
        have i67 := i58.up u66 r6
        have f68 := (u66.get _ (ne_len f24 q47).symm).trans f56
        simp only [C.f46r6, R, Nat.reduceEqDiff, bd36_, a64, h22]
        refine hJ _ ?_
        refine tk_ret okM ?_
        refine x61 _ _ (by simp) ?_
        refine x15 _ _ (by simp) (by simp) ?_
        refine x12 _ _ (by simp) ?_
        obtain rfl := Option.some.inj hm
        exact end_flat (.inl rfl) (vs := [(vAgg (S35.c (S35.zero))), (.int .i64 (0))]) (resC' (v := (vAgg (S35.c (S35.zero)))) h22 (ldv_of (ld_agg (M := Mt) (t := 36) f65 T.ag36 (by rw [S35.enc.len]; exact T.sz36) Seg.refl)) (resT' (v := (.int .i64 (0))) rfl resN)) (fm_cons (flat_agg S35.enc _) (fm_cons rfl fm_nil))
      · replace hm := cond_f hm g62
        refine tk_skip okM ?_
        refine n60 _ ?_
        refine tk_os okM hok fun J hJ => ?_
        have a69 := ld_agg (M := Mt) (t := 36) f56 T.ag36 (by rw [S35.enc.len]; exact T.sz36) Seg.refl
        obtain ⟨H70, a71, f72, u73⟩ := st_ok (M := Mt) (t := 36) (v := (vAgg (S35.c (v42.1)))) (c := S35.c v42.1) (cs' := S35.c v42.1) f59 (by rw [S35.enc.len]; exact T.sz36) vAgg_cells (S35.enc.one _) (Nat.le_trans hcn r6) (le0 S35.enc.len) (wrs_all (eqL S35.enc.len))
        have i74 := i58.up u73 r6
        have f75 := (u73.get _ (ne_len f24 q47).symm).trans f56
        simp only [C.f46r7, R, Nat.reduceEqDiff, a69, a71, h22]
        refine hJ _ ?_
        refine tk_ret okM ?_
        refine x15 _ _ (by simp) (by simp) ?_
        refine x12 _ _ (by simp) ?_
        obtain rfl := Option.some.inj hm
        exact end_flat (.inl rfl) (vs := [(vAgg (S35.c (v42.1))), (.int .i64 (IntKind.i64.wrap (v42.2 + 1)))]) (resC' (v := (vAgg (S35.c (v42.1)))) h22 (ldv_of (ld_agg (M := Mt) (t := 36) f72 T.ag36 (by rw [S35.enc.len]; exact T.sz36) Seg.refl)) (resT' (v := (.int .i64 (IntKind.i64.wrap (v42.2 + 1)))) rfl resN)) (fm_cons (flat_agg S35.enc _) (fm_cons rfl fm_nil))
    · replace hm := cond_f hm g39
      refine tk_skip okM ?_
      refine n13 _ ?_
      refine n11 _ ?_
      refine tk_os okM hok fun J hJ => ?_
      obtain ⟨v77, ev77, hm⟩ := bind_s hm
      have a76 := ha17 c.ro H20 v38 v77 ev77
      obtain ⟨H78, a79, f80, u81⟩ := st_ok (M := Mt) (t := 36) (v := (vAgg (S35.c (v77)))) (c := S35.c v77) (cs' := S35.c v77) f24 (by rw [S35.enc.len]; exact T.sz36) vAgg_cells (S35.enc.one _) (Nat.le_trans hcn r6) (le0 S35.enc.len) (wrs_all (eqL S35.enc.len))
      have i82 := i25.up u81 r6
      simp only [C.f46r8, R, Nat.reduceEqDiff, h21, idxP_str (M := Mt) Tryd.underlying9, ev38, c_fn F17, a76, a79, h22]
      refine hJ _ ?_
      refine tk_ret okM ?_
      obtain rfl := Option.some.inj hm
      exact end_flat (.inl rfl) (vs := [(vAgg (S35.c (v77))), (.int .i64 (1))]) (resC' (v := (vAgg (S35.c (v77)))) h22 (ldv_of (ld_agg (M := Mt) (t := 36) f80 T.ag36 (by rw [S35.enc.len]; exact T.sz36) Seg.refl)) (resT' (v := (.int .i64 (1))) rfl resN)) (fm_cons (flat_agg S35.enc _) (fm_cons rfl fm_nil))

-- (clew/class.Set).Min
def fn47_1 (c58 : T58) (n : Nat) : Nat → (Arr Int 4) → Int → Option (Int × Bool)
  | 0, _, _ => none
  | k + 1, x7_17, x8_18 => bif decide (x8_18 < 4) then ((ck 4 x8_18).bind fun j35 => bif !decide ((x7_17.nth j35) = 0) then ((c58 (x7_17.nth j35)).bind fun v38 => some (IntKind.u8.wrap (IntKind.i64.wrap ((IntKind.i64.wrap (x8_18 * 64)) + v38)), true)) else (fn47_1 c58 n k x7_17 (IntKind.i64.wrap (x8_18 + 1)))) else (some (0, false))
def fn47 (c58 : T58) (n : Nat) (x0 : S35) : Option (Int × Bool) := fn47_1 c58 n n x0.f_W 0

theorem w47 {call : CallF} (hok : CallOk Mt call) {n : Nat} {c58 : T58} (ha58 : A58 call c58) {H0 : Hp} {x0 : S35} {r : Int × Bool} {ro : Nat} (hro : ro ≤ H0.length) (hm : fn47 c58 n x0 = some r) (hG0 : TabH0 H0) :
    Pt Mt ro 47 [(vAgg (S35.c x0))] H0 (.tuple [(.int .u8 (r.1)), (.bool (r.2))].toArray) H0 [] := by
  refine pt_new0 okM F47d (by exact Nat.le_of_ble_eq_true rfl) ?_ hro
  intro c hnt hnb hcr
  have hcn : c.ro ≤ c.nb := by omega
  have iv : Iv c.nb [] H0 H0 := by rw [hnb]; exact iv_refl
  rw [show args0 [(vAgg (S35.c x0))] = [(0, (vAgg (S35.c x0)))] from rfl]
  rw [fn47] at hm
  simp only [C.f47, C.f47b0]
  refine tk_os okM hok fun J hJ => ?_
  obtain ⟨b1, H2, a3, f4, q5, r6, x7, i8⟩ := bx_ok (M := Mt) (t := 36) (u := (vAgg (S35.c (x0)))) (cs := S35.c x0) H0 iv.le (by rw [S35.enc.len]; exact T.sz36) vAgg_cells (S35.enc.one _)
  have i9 := i8 _ _ iv
  simp only [C.f47r0, R, Nat.reduceEqDiff, a3]
  refine hJ _ ?_
  refine tk_seq_k fun K n11 x12 => ?_
  refine tk_os okM hok fun J hJ => ?_
  have a13 := ld_agg (M := Mt) (t := 34) f4 T.ag34 (by rw [(enc_arr (n := 4) enc_int).len]; exact T.sz34) (Seg.refl.sub (S35.seg0 x0))
  simp only [C.f47r1, R, Nat.reduceEqDiff, fa36_0, a13]
  refine hJ _ ?_
  refine tk_block_k fun K n14 e15 x16 => ?_
  refine tk_loop_k (n := n) (fun k1 ⟨σ, H, _⟩ => ∃ x7_17 x8_18, fn47_1 c58 n k1 x7_17 x8_18 = some r ∧ Lk σ 7 (vAgg ((cArr (n := 4) (cInt .u64)) x7_17)) ∧ Lk σ 8 (.int .i64 x8_18) ∧ Iv c.nb [] H0 H) ?_ ?_ ?_
  · exact ⟨x0.f_W, 0, hm, rfl, rfl, i9⟩
  · rintro ⟨σ, H, d⟩ ⟨_, _, hm, _⟩
    cases hm
  · intro k1 K n19 x20
    rintro ⟨σ25, H21, d26⟩ ⟨x7_17, x8_18, hm, h22, h23, i24⟩
    rw [fn47_1.eq_2] at hm
    refine tk_os okM hok fun J hJ => ?_
    simp only [C.f47r2, R, Nat.reduceEqDiff, h23]
    refine hJ _ ?_
    refine tk_seq_k fun K n27 x28 => ?_
    refine tk_cond (t := decide (x8_18 < 4)) rfl (fun g29 => ?_) (fun g29 => ?_)
    · replace hm := cond_t hm g29
      refine tk_skip okM ?_
      refine n27 _ ?_
      refine tk_seq_k fun K n30 x31 => ?_
      refine tk_block_k fun K n32 e33 x34 => ?_
      refine tk_os okM hok fun J hJ => ?_
      obtain ⟨j35, ej35, hm⟩ := bind_s hm
      simp only [C.f47r3, R, Nat.reduceEqDiff, h23, ix34, ej35, h22]
      refine hJ _ ?_
      refine tk_os okM hok fun J hJ => ?_
      simp only [C.f47r4, R, Nat.reduceEqDiff]
      refine hJ _ ?_
      refine tk_cond (t := !decide ((x7_17.nth j35) = 0)) rfl (fun g36 => ?_) (fun g36 => ?_)
      · replace hm := cond_t hm g36
        refine tk_os okM hok fun J hJ => ?_
        obtain ⟨v38, ev38, hm⟩ := bind_s hm
        have a37 := ha58 c.ro H21 (x7_17.nth j35) v38 (tabIv0 i24 hnb hG0) ev38
        simp only [C.f47r5, R, Nat.reduceEqDiff, c_fn F58, a37, cv_int (M := Mt) Tryd.underlying3 Tryd.underlying5]
        refine hJ _ ?_
        refine tk_ret okM ?_
        refine x34 _ _ (by simp) (by simp) ?_
        refine x31 _ _ (by simp) ?_
        refine x20 _ _ (by simp) ?_
        refine x16 _ _ (by simp) (by simp) ?_
        refine x12 _ _ (by simp) ?_
        obtain rfl := Option.some.inj hm
        exact end_flat (.inl rfl) (vs := [(.int .u8 (IntKind.u8.wrap (IntKind.i64.wrap ((IntKind.i64.wrap (x8_18 * 64)) + v38)))), (.bool (true))]) (resT' (v := (.int .u8 (IntKind.u8.wrap (IntKind.i64.wrap ((IntKind.i64.wrap (x8_18 * 64)) + v38))))) rfl (resT' (v := (.bool (true))) rfl resN)) (fm_cons rfl (fm_cons rfl fm_nil))
      · replace hm := cond_f hm g36
        refine tk_skip okM ?_
        refine n32 _ ?_
        refine n30 _ ?_
        refine tk_oe okM hok fun J hJ => ?_
        simp only [C.f47r6, R, Nat.reduceEqDiff, h23]
        refine hJ _ ?_
        refine n19 _ ?_
        exact ⟨x7_17, IntKind.i64.wrap (x8_18 + 1), hm, h22, rfl, i24⟩
    · replace hm := cond_f hm g29
      refine tk_exit okM ?_
      refine x28 _ _ (by simp) ?_
      refine x20 _ _ (by simp) ?_
      refine e15 _ ?_
      refine n11 _ ?_
      refine tk_os okM hok fun J hJ => ?_
      simp only [C.f47r7, R, Nat.reduceEqDiff]
      refine hJ _ ?_
      refine tk_ret okM ?_
      obtain rfl := Option.some.inj hm
      exact end_flat (.inl rfl) (vs := [(.int .u8 (0)), (.bool (false))]) (resT' (v := (.int .u8 (0))) rfl (resT' (v := (.bool (false))) rfl resN)) (fm_cons rfl (fm_cons rfl fm_nil))

-- (clew/class.Set).Len
def fn48_1 (c59 : T59) (n : Nat) : Nat → Int → (Arr Int 4) → Int → Option (Int)
  | 0, _, _, _ => none
  | k + 1, x3_17, x7_18, x8_19 => bif decide (x8_19 < 4) then ((ck 4 x8_19).bind fun j37 => (c59 (x7_18.nth j37)).bind fun v39 => fn48_1 c59 n k (IntKind.i64.wrap (x3_17 + v39)) x7_18 (IntKind.i64.wrap (x8_19 + 1))) else (some x3_17)
def fn48 (c59 : T59) (n : Nat) (x0 : S35) : Option (Int) := fn48_1 c59 n n 0 x0.f_W 0

theorem w48 {call : CallF} (hok : CallOk Mt call) {n : Nat} {c59 : T59} (ha59 : A59 call c59) {H0 : Hp} {x0 : S35} {r : Int} {ro : Nat} (hro : ro ≤ H0.length) (hm : fn48 c59 n x0 = some r) :
    Pt Mt ro 48 [(vAgg (S35.c x0))] H0 (.int .i64 (r)) H0 [] := by
  refine pt_new0 okM F48d (by exact Nat.le_of_ble_eq_true rfl) ?_ hro
  intro c hnt hnb hcr
  have hcn : c.ro ≤ c.nb := by omega
  have iv : Iv c.nb [] H0 H0 := by rw [hnb]; exact iv_refl
  rw [show args0 [(vAgg (S35.c x0))] = [(0, (vAgg (S35.c x0)))] from rfl]
  rw [fn48] at hm
  simp only [C.f48, C.f48b0]
  refine tk_os okM hok fun J hJ => ?_
  obtain ⟨b1, H2, a3, f4, q5, r6, x7, i8⟩ := bx_ok (M := Mt) (t := 36) (u := (vAgg (S35.c (x0)))) (cs := S35.c x0) H0 iv.le (by rw [S35.enc.len]; exact T.sz36) vAgg_cells (S35.enc.one _)
  have i9 := i8 _ _ iv
  simp only [C.f48r0, R, Nat.reduceEqDiff, a3]
  refine hJ _ ?_
  refine tk_os okM hok fun J hJ => ?_
  simp only [C.f48r1, R, Nat.reduceEqDiff]
  refine hJ _ ?_
  refine tk_seq_k fun K n11 x12 => ?_
  refine tk_os okM hok fun J hJ => ?_
  have a13 := ld_agg (M := Mt) (t := 34) f4 T.ag34 (by rw [(enc_arr (n := 4) enc_int).len]; exact T.sz34) (Seg.refl.sub (S35.seg0 x0))
  simp only [C.f48r2, R, Nat.reduceEqDiff, fa36_0, a13]
  refine hJ _ ?_
  refine tk_block_k fun K n14 e15 x16 => ?_
  refine tk_loop_k (n := n) (fun k1 ⟨σ, H, _⟩ => ∃ x3_17 x7_18 x8_19, fn48_1 c59 n k1 x3_17 x7_18 x8_19 = some r ∧ Lk σ 3 (.int .i64 x3_17) ∧ Lk σ 7 (vAgg ((cArr (n := 4) (cInt .u64)) x7_18)) ∧ Lk σ 8 (.int .i64 x8_19) ∧ Iv c.nb [] H0 H) ?_ ?_ ?_
  · exact ⟨0, x0.f_W, 0, hm, rfl, rfl, rfl, i9⟩
  · rintro ⟨σ, H, d⟩ ⟨_, _, _, hm, _⟩
    cases hm
  · intro k1 K n20 x21
    rintro ⟨σ27, H22, d28⟩ ⟨x3_17, x7_18, x8_19, hm, h23, h24, h25, i26⟩
    rw [fn48_1.eq_2] at hm
    refine tk_os okM hok fun J hJ => ?_
    simp only [C.f48r3, R, Nat.reduceEqDiff, h25]
    refine hJ _ ?_
    refine tk_seq_k fun K n29 x30 => ?_
    refine tk_cond (t := decide (x8_19 < 4)) rfl (fun g31 => ?_) (fun g31 => ?_)
    · replace hm := cond_t hm g31
      refine tk_skip okM ?_
      refine n29 _ ?_
      refine tk_seq_k fun K n32 x33 => ?_
      refine tk_block_k fun K n34 e35 x36 => ?_
      refine tk_os okM hok fun J hJ => ?_
      obtain ⟨j37, ej37, hm⟩ := bind_s hm
      simp only [C.f48r4, R, Nat.reduceEqDiff, ix34, ej37, h24, h25]
      refine hJ _ ?_
      refine tk_oe okM hok fun J hJ => ?_
      obtain ⟨v39, ev39, hm⟩ := bind_s hm
      have a38 := ha59 c.ro H22 (x7_18.nth j37) v39 ev39
      simp only [C.f48r5, R, Nat.reduceEqDiff, h23, c_fn F59, a38]
      refine hJ _ ?_
      refine n34 _ ?_
      refine n32 _ ?_
      refine tk_oe okM hok fun J hJ => ?_
      simp only [C.f48r6, R, Nat.reduceEqDiff, h25]
      refine hJ _ ?_
      refine n20 _ ?_
      exact ⟨IntKind.i64.wrap (x3_17 + v39), x7_18, IntKind.i64.wrap (x8_19 + 1), hm, rfl, h24, rfl, i26⟩
    · replace hm := cond_f hm g31
      refine tk_exit okM ?_
      refine x30 _ _ (by simp) ?_
      refine x21 _ _ (by simp) ?_
      refine e15 _ ?_
      refine n11 _ ?_
      refine tk_os okM hok fun J hJ => ?_
      simp only [C.f48r7, R, Nat.reduceEqDiff, h23]
      refine hJ _ ?_
      refine tk_ret okM ?_
      obtain rfl := Option.some.inj hm
      exact end_flat (.inl rfl) (vs := [(.int .i64 (x3_17))]) (resT' (v := (.int .i64 (x3_17))) rfl resN) (fm_cons rfl fm_nil)

-- strings.IndexByte
def fn49 (c60 : T60) (n : Nat) (x0 : ByteArray) (x1 : Int) : Option (Int) := (c60 x0 x1).bind fun v2 => some v2

theorem w49 {call : CallF} (hok : CallOk Mt call) {n : Nat} {c60 : T60} (ha60 : A60 call c60) {H0 : Hp} {x0 : ByteArray} {x1 : Int} {r : Int} {ro : Nat} (hro : ro ≤ H0.length) (hm : fn49 c60 n x0 x1 = some r) :
    Pt Mt ro 49 [(.string x0), (.int .u8 x1)] H0 (.int .i64 (r)) H0 [] := by
  refine pt_new0 okM F49d (by exact Nat.le_of_ble_eq_true rfl) ?_ hro
  intro c hnt hnb hcr
  have hcn : c.ro ≤ c.nb := by omega
  have iv : Iv c.nb [] H0 H0 := by rw [hnb]; exact iv_refl
  rw [show args0 [(.string x0), (.int .u8 x1)] = [(0, (.string x0)), (1, (.int .u8 x1))] from rfl]
  rw [fn49] at hm
  simp only [C.f49]
  refine tk_os okM hok fun J hJ => ?_
  simp only [C.f49r0, R, Nat.reduceEqDiff]
  refine hJ _ ?_
  refine tk_os okM hok fun J hJ => ?_
  obtain ⟨v2, ev2, hm⟩ := bind_s hm
  have a1 := ha60 c.ro H0 x0 x1 v2 ev2
  simp only [C.f49r1, R, Nat.reduceEqDiff, c_fn F60, a1]
  refine hJ _ ?_
  refine tk_ret okM ?_
  obtain rfl := Option.some.inj hm
  exact end_flat (.inl rfl) (vs := [(.int .i64 (v2))]) (resT' (v := (.int .i64 (v2))) rfl resN) (fm_cons rfl fm_nil)

-- clew/lex.hasRune
def fn50_1 (n : Nat) : Nat → Int → ByteArray → Nat → Option (Bool)
  | 0, _, _, _ => none
  | k + 1, x1_16, x17, x18 => bif decide (x18 < x17.size) then (bif decide ((((Utf8.decode x17 x18).1 : Int)) = x1_16) then (some true) else (fn50_1 n k x1_16 x17 (x18 + (Utf8.decode x17 x18).2))) else (some false)
def fn50 (n : Nat) (x0 : ByteArray) (x1 : Int) : Option (Bool) := fn50_1 n n x1 x0 0

theorem w50 {call : CallF} (hok : CallOk Mt call) {n : Nat} {H0 : Hp} {x0 : ByteArray} {x1 : Int} {r : Bool} {ro : Nat} (hro : ro ≤ H0.length) (hm : fn50 n x0 x1 = some r) :
    Pt Mt ro 50 [(.string x0), (.int .i32 x1)] H0 (.bool (r)) H0 [] := by
  refine pt_new0 okM F50d (by exact Nat.le_of_ble_eq_true rfl) ?_ hro
  intro c hnt hnb hcr
  have hcn : c.ro ≤ c.nb := by omega
  have iv : Iv c.nb [] H0 H0 := by rw [hnb]; exact iv_refl
  rw [show args0 [(.string x0), (.int .i32 x1)] = [(0, (.string x0)), (1, (.int .i32 x1))] from rfl]
  rw [fn50] at hm
  simp only [C.f50, C.f50b0]
  refine tk_os okM hok fun J hJ => ?_
  simp only [C.f50r0, R, Nat.reduceEqDiff]
  refine hJ _ ?_
  refine tk_seq_k fun K n1 x2 => ?_
  refine tk_os okM hok fun J hJ => ?_
  obtain ⟨b3, H4, a5, f6, q7, r8, x9, i10⟩ := rg_ok (M := Mt) (t := 9) H0 x0 iv.le Tryd.underlying9
  have i11 := i10 _ _ iv
  simp only [C.f50r1, R, Nat.reduceEqDiff, a5]
  refine hJ _ ?_
  refine tk_block_k fun K n13 e14 x15 => ?_
  refine tk_loop_k (n := n) (fun k1 ⟨σ, H, _⟩ => ∃ x1_16 x17 x18, fn50_1 n k1 x1_16 x17 x18 = some r ∧ Lk σ 1 (.int .i32 x1_16) ∧ Lk σ 8 (.pointer (some ⟨b3, 0, none⟩)) ∧ H[b3]? = some (.iter x17 x18) ∧ Iv c.nb [] H0 H) ?_ ?_ ?_
  · exact ⟨x1, x0, 0, hm, rfl, rfl, f6, i11⟩
  · rintro ⟨σ, H, d⟩ ⟨_, _, _, hm, _⟩
    cases hm
  · intro k1 K n19 x20
    rintro ⟨σ26, H21, d27⟩ ⟨x1_16, x17, x18, hm, h22, h23, f24, i25⟩
    rw [fn50_1.eq_2] at hm
    cases g28 : decide (x18 < x17.size)
    · replace hm := cond_f hm g28
      refine tk_os okM hok fun J hJ => ?_
      have a29 := nx_f (M := Mt) f24 (Nat.le_trans hcn r8) g28
      simp only [C.f50r2, R, Nat.reduceEqDiff, a29, h23]
      refine hJ _ ?_
      refine tk_seq_k fun K n30 x31 => ?_
      refine tk_cond_f rfl ?_
      refine tk_exit okM ?_
      refine x31 _ _ (by simp) ?_
      refine x20 _ _ (by simp) ?_
      refine e14 _ ?_
      refine n1 _ ?_
      refine tk_os okM hok fun J hJ => ?_
      simp only [C.f50r6, R, Nat.reduceEqDiff]
      refine hJ _ ?_
      refine tk_ret okM ?_
      obtain rfl := Option.some.inj hm
      exact end_flat (.inl rfl) (vs := [(.bool (false))]) (resT' (v := (.bool (false))) rfl resN) (fm_cons rfl fm_nil)
    · replace hm := cond_t hm g28
      refine tk_os okM hok fun J hJ => ?_
      obtain ⟨H32, a33, f34, u35⟩ := nx_t (M := Mt) f24 (Nat.le_trans hcn r8) g28
      have i36 := i25.up u35 r8
      simp only [C.f50r2, R, Nat.reduceEqDiff, a33, h23]
      refine hJ _ ?_
      refine tk_seq_k fun K n37 x38 => ?_
      refine tk_cond_t rfl ?_
      refine tk_skip okM ?_
      refine n37 _ ?_
      refine tk_block_k fun K n39 e40 x41 => ?_
      refine tk_os okM hok fun J hJ => ?_
      simp only [C.f50r3, R, Nat.reduceEqDiff]
      refine hJ _ ?_
      refine tk_os okM hok fun J hJ => ?_
      simp only [C.f50r4, R, Nat.reduceEqDiff, h22]
      refine hJ _ ?_
      refine tk_cond (t := decide ((((Utf8.decode x17 x18).1 : Int)) = x1_16)) rfl (fun g42 => ?_) (fun g42 => ?_)
      · replace hm := cond_t hm g42
        refine tk_os okM hok fun J hJ => ?_
        simp only [C.f50r5, R, Nat.reduceEqDiff]
        refine hJ _ ?_
        refine tk_ret okM ?_
        refine x41 _ _ (by simp) (by simp) ?_
        refine x20 _ _ (by simp) ?_
        refine x15 _ _ (by simp) (by simp) ?_
        refine x2 _ _ (by simp) ?_
        obtain rfl := Option.some.inj hm
        exact end_flat (.inl rfl) (vs := [(.bool (true))]) (resT' (v := (.bool (true))) rfl resN) (fm_cons rfl fm_nil)
      · replace hm := cond_f hm g42
        refine tk_skip okM ?_
        refine n39 _ ?_
        refine n19 _ ?_
        exact ⟨x1_16, x17, x18 + (Utf8.decode x17 x18).2, hm, h22, h23, f34, i36⟩

-- clew/lex.counted
def fn51_1 (c61 : T61) (n : Nat) (x0_4 : ByteArray) (x5_5 : Int) (x6_6 : Int) (x7_7 : Int) (x8_8 : Int) : Option (Int × Int × Int) := (bif (decide (x6_6 = 0)) || (decide (((x0_4.size : Int)) ≤ x7_7)) then some true else ((bt x0_4 x7_7).bind fun v30 => some (!decide (v30 = 125)))).bind fun y31 => bif y31 then (some (0, 0, 0)) else (some (x5_5, x8_8, IntKind.i64.wrap (x7_7 + 1)))
def fn51 (c61 : T61) (n : Nat) (x0 : ByteArray) : Option (Int × Int × Int) := (sub x0 1 x0.size).bind fun v1 => (c61 v1).bind fun v3 => (bif (decide (0 < v3.2)) && (decide ((IntKind.i64.wrap (1 + v3.2)) < ((x0.size : Int)))) then ((bt x0 (IntKind.i64.wrap (1 + v3.2))).bind fun v56 => some (decide (v56 = 44))) else some false).bind fun y57 => bif y57 then ((sub x0 (IntKind.i64.wrap ((IntKind.i64.wrap (1 + v3.2)) + 1)) x0.size).bind fun v71 => (c61 v71).bind fun v73 => bif decide (v73.2 = 0) then (fn51_1 c61 n x0 v3.1 v3.2 (IntKind.i64.wrap ((IntKind.i64.wrap ((IntKind.i64.wrap (1 + v3.2)) + 1)) + v73.2)) ((-1))) else (fn51_1 c61 n x0 v3.1 v3.2 (IntKind.i64.wrap ((IntKind.i64.wrap ((IntKind.i64.wrap (1 + v3.2)) + 1)) + v73.2)) v73.1)) else (fn51_1 c61 n x0 v3.1 v3.2 (IntKind.i64.wrap (1 + v3.2)) v3.1)

theorem w51 {call : CallF} (hok : CallOk Mt call) {n : Nat} {c61 : T61} (ha61 : A61 call c61) {H0 : Hp} {x0 : ByteArray} {r : Int × Int × Int} {ro : Nat} (hro : ro ≤ H0.length) (hm : fn51 c61 n x0 = some r) :
    Pt Mt ro 51 [(.string x0)] H0 (.tuple [(.int .i64 (r.1)), (.int .i64 (r.2.1)), (.int .i64 (r.2.2))].toArray) H0 [] := by
  refine pt_new0 okM F51d (by exact Nat.le_of_ble_eq_true rfl) ?_ hro
  intro c hnt hnb hcr
  have hcn : c.ro ≤ c.nb := by omega
  have iv : Iv c.nb [] H0 H0 := by rw [hnb]; exact iv_refl
  rw [show args0 [(.string x0)] = [(0, (.string x0))] from rfl]
  rw [fn51] at hm
  simp only [C.f51]
  refine tk_os okM hok fun J hJ => ?_
  simp only [C.f51r0, R, Nat.reduceEqDiff]
  refine hJ _ ?_
  refine tk_os okM hok fun J hJ => ?_
  obtain ⟨v1, ev1, hm⟩ := bind_s hm
  obtain ⟨v3, ev3, hm⟩ := bind_s hm
  have a2 := ha61 c.ro H0 v1 v3 ev3
  simp only [C.f51r1, R, Nat.reduceEqDiff, sl_str (M := Mt) Tryd.underlying9, ev1, c_fn F61, a2]
  refine hJ _ ?_
  refine tk_os okM hok fun J hJ => ?_
  simp only [C.f51r2, R, Nat.reduceEqDiff]
  refine hJ _ ?_
  refine tk_os okM hok fun J hJ => ?_
  simp only [C.f51r3, R, Nat.reduceEqDiff]
  refine hJ _ ?_
  refine tk_seq_j (fun ⟨σ, H, _⟩ => ∃ x0_4 x5_5 x6_6 x7_7 x8_8, fn51_1 c61 n x0_4 x5_5 x6_6 x7_7 x8_8 = some r ∧ Lk σ 0 (.string x0_4) ∧ Lk σ 5 (.int .i64 x5_5) ∧ Lk σ 6 (.int .i64 x6_6) ∧ Lk σ 7 (.int .i64 x7_7) ∧ Lk σ 8 (.int .i64 x8_8) ∧ Iv c.nb [] H0 H) ?_ ?_
  · skip
    rintro ⟨σ16, H9, d17⟩ ⟨x0_4, x5_5, x6_6, x7_7, x8_8, hm, h10, h11, h12, h13, h14, i15⟩
    rw [fn51_1] at hm
    refine tk_seq_k fun K n18 x19 => ?_
    refine tk_os okM hok fun J hJ => ?_
    rw [C.f51r11]
    refine rn_app_k (fun ⟨σ, H, _⟩ => Lk σ 0 (.string (x0_4)) ∧ Lk σ 5 (.int .i64 (x5_5)) ∧ Lk σ 7 (.int .i64 (x7_7)) ∧ Lk σ 8 (.int .i64 (x8_8)) ∧ Lk σ 54 (.bool ((decide (x6_6 = 0)) || (decide (((x0_4.size : Int)) ≤ x7_7)))) ∧ Iv c.nb [] H0 H) (fun J hJ => ?_) ?_
    · skip
      cases g27 : decide (x6_6 = 0)
      · skip
        simp only [C.f51r11p0, R, Nat.reduceEqDiff, h12, g27, h13, h10, len_str (M := Mt) Tryd.underlying9]
        refine hJ _ ?_
        exact ⟨h10, h11, h13, h14, (by first | rfl | (simp only [g27]; rfl) | simp only [g27, Lk, lookS, lookN, Nat.reduceEqDiff, not_false_eq_true, Bool.true_and, Bool.false_and, Bool.true_or, Bool.false_or, cond_true, cond_false]), i15⟩
      · skip
        simp only [C.f51r11p0, R, Nat.reduceEqDiff, h12, g27]
        refine hJ _ ?_
        exact ⟨h10, h11, h13, h14, (by first | rfl | (simp only [g27]; rfl) | simp only [g27, Lk, lookS, lookN, Nat.reduceEqDiff, not_false_eq_true, Bool.true_and, Bool.false_and, Bool.true_or, Bool.false_or, cond_true, cond_false]), i15⟩
    rintro ⟨σ28, H20, d29⟩ ⟨h21, h22, h23, h24, h25, i26⟩
    obtain ⟨y31, ey31, hm⟩ := bind_s hm
    refine rn_k (fun ⟨σ, H, _⟩ => Lk σ 5 (.int .i64 (x5_5)) ∧ Lk σ 7 (.int .i64 (x7_7)) ∧ Lk σ 8 (.int .i64 (x8_8)) ∧ Lk σ 60 (.bool (y31)) ∧ Iv c.nb [] H0 H) (fun J hJ => ?_) ?_
    · skip
      cases g38 : (decide (x6_6 = 0)) || (decide (((x0_4.size : Int)) ≤ x7_7))
      · skip
        have ey31 := cond_f ey31 g38
        obtain ⟨v39, ev39, ey31⟩ := bind_s ey31
        obtain rfl := Option.some.inj ey31
        simp only [C.f51r11p1, R, Nat.reduceEqDiff, h25, g38, h21, h23, idxP_str (M := Mt) Tryd.underlying9, ev39]
        refine hJ _ ?_
        exact ⟨h22, h23, h24, (by first | rfl | (simp only [g38]; rfl) | simp only [g38, Lk, lookS, lookN, Nat.reduceEqDiff, not_false_eq_true, Bool.true_and, Bool.false_and, Bool.true_or, Bool.false_or, cond_true, cond_false]), i26⟩
      · skip
        have ey31 := cond_t ey31 g38
        obtain rfl := Option.some.inj ey31
        simp only [C.f51r11p1, R, Nat.reduceEqDiff, h25, g38]
        refine hJ _ ?_
        exact ⟨h22, h23, h24, (by first | rfl | (simp only [g38]; rfl) | simp only [g38, Lk, lookS, lookN, Nat.reduceEqDiff, not_false_eq_true, Bool.true_and, Bool.false_and, Bool.true_or, Bool.false_or, cond_true, cond_false]), i26⟩
    rintro ⟨σ40, H32, d41⟩ ⟨h33, h34, h35, h36, i37⟩
    refine hJ _ ?_
    refine tk_cond (t := y31) h36 (fun g42 => ?_) (fun g42 => ?_)
    · replace hm := cond_t hm g42
      refine tk_os okM hok fun J hJ => ?_
      simp only [C.f51r12, R, Nat.reduceEqDiff]
      refine hJ _ ?_
      refine tk_ret okM ?_
      refine x19 _ _ (by simp) ?_
      obtain rfl := Option.some.inj hm
      exact end_flat (.inl rfl) (vs := [(.int .i64 (0)), (.int .i64 (0)), (.int .i64 (0))]) (resT' (v := (.int .i64 (0))) rfl (resT' (v := (.int .i64 (0))) rfl (resT' (v := (.int .i64 (0))) rfl resN))) (fm_cons rfl (fm_cons rfl (fm_cons rfl fm_nil)))
    · replace hm := cond_f hm g42
      refine tk_skip okM ?_
      refine n18 _ ?_
      refine tk_os okM hok fun J hJ => ?_
      simp only [C.f51r13, R, Nat.reduceEqDiff, h33, h35, h34]
      refine hJ _ ?_
      refine tk_ret okM ?_
      obtain rfl := Option.some.inj hm
      exact end_flat (.inl rfl) (vs := [(.int .i64 (x5_5)), (.int .i64 (x8_8)), (.int .i64 (IntKind.i64.wrap (x7_7 + 1)))]) (resT' (v := (.int .i64 (x5_5))) rfl (resT' (v := (.int .i64 (x8_8))) rfl (resT' (v := (.int .i64 (IntKind.i64.wrap (x7_7 + 1)))) rfl resN))) (fm_cons rfl (fm_cons rfl (fm_cons rfl fm_nil)))
  · refine fun K n43 x44 => ?_
    refine tk_os okM hok fun J hJ => ?_
    rw [C.f51r4]
    refine rn_app_k (fun ⟨σ, H, _⟩ => Lk σ 0 (.string (x0)) ∧ Lk σ 5 (.int .i64 (v3.1)) ∧ Lk σ 6 (.int .i64 (v3.2)) ∧ Lk σ 7 (.int .i64 (IntKind.i64.wrap (1 + v3.2))) ∧ Lk σ 8 (.int .i64 (v3.1)) ∧ Lk σ 26 (.bool ((decide (0 < v3.2)) && (decide ((IntKind.i64.wrap (1 + v3.2)) < ((x0.size : Int)))))) ∧ Iv c.nb [] H0 H) (fun J hJ => ?_) ?_
    · skip
      cases g53 : decide (0 < v3.2)
      · skip
        simp only [C.f51r4p0, R, Nat.reduceEqDiff, g53]
        refine hJ _ ?_
        exact ⟨(by first | rfl | (simp only [g53]; rfl) | simp only [g53, Lk, lookS, lookN, Nat.reduceEqDiff, not_false_eq_true, Bool.true_and, Bool.false_and, Bool.true_or, Bool.false_or, cond_true, cond_false]), (by first | rfl | (simp only [g53]; rfl) | simp only [g53, Lk, lookS, lookN, Nat.reduceEqDiff, not_false_eq_true, Bool.true_and, Bool.false_and, Bool.true_or, Bool.false_or, cond_true, cond_false]), (by first | rfl | (simp only [g53]; rfl) | simp only [g53, Lk, lookS, lookN, Nat.reduceEqDiff, not_false_eq_true, Bool.true_and, Bool.false_and, Bool.true_or, Bool.false_or, cond_true, cond_false]), (by first | rfl | (simp only [g53]; rfl) | simp only [g53, Lk, lookS, lookN, Nat.reduceEqDiff, not_false_eq_true, Bool.true_and, Bool.false_and, Bool.true_or, Bool.false_or, cond_true, cond_false]), (by first | rfl | (simp only [g53]; rfl) | simp only [g53, Lk, lookS, lookN, Nat.reduceEqDiff, not_false_eq_true, Bool.true_and, Bool.false_and, Bool.true_or, Bool.false_or, cond_true, cond_false]), (by first | rfl | (simp only [g53]; rfl) | simp only [g53, Lk, lookS, lookN, Nat.reduceEqDiff, not_false_eq_true, Bool.true_and, Bool.false_and, Bool.true_or, Bool.false_or, cond_true, cond_false]), iv⟩
      · skip
        simp only [C.f51r4p0, R, Nat.reduceEqDiff, g53, len_str (M := Mt) Tryd.underlying9]
        refine hJ _ ?_
        exact ⟨(by first | rfl | (simp only [g53]; rfl) | simp only [g53, Lk, lookS, lookN, Nat.reduceEqDiff, not_false_eq_true, Bool.true_and, Bool.false_and, Bool.true_or, Bool.false_or, cond_true, cond_false]), (by first | rfl | (simp only [g53]; rfl) | simp only [g53, Lk, lookS, lookN, Nat.reduceEqDiff, not_false_eq_true, Bool.true_and, Bool.false_and, Bool.true_or, Bool.false_or, cond_true, cond_false]), (by first | rfl | (simp only [g53]; rfl) | simp only [g53, Lk, lookS, lookN, Nat.reduceEqDiff, not_false_eq_true, Bool.true_and, Bool.false_and, Bool.true_or, Bool.false_or, cond_true, cond_false]), (by first | rfl | (simp only [g53]; rfl) | simp only [g53, Lk, lookS, lookN, Nat.reduceEqDiff, not_false_eq_true, Bool.true_and, Bool.false_and, Bool.true_or, Bool.false_or, cond_true, cond_false]), (by first | rfl | (simp only [g53]; rfl) | simp only [g53, Lk, lookS, lookN, Nat.reduceEqDiff, not_false_eq_true, Bool.true_and, Bool.false_and, Bool.true_or, Bool.false_or, cond_true, cond_false]), (by first | rfl | (simp only [g53]; rfl) | simp only [g53, Lk, lookS, lookN, Nat.reduceEqDiff, not_false_eq_true, Bool.true_and, Bool.false_and, Bool.true_or, Bool.false_or, cond_true, cond_false]), iv⟩
    rintro ⟨σ54, H45, d55⟩ ⟨h46, h47, h48, h49, h50, h51, i52⟩
    obtain ⟨y57, ey57, hm⟩ := bind_s hm
    refine rn_k (fun ⟨σ, H, _⟩ => Lk σ 0 (.string (x0)) ∧ Lk σ 5 (.int .i64 (v3.1)) ∧ Lk σ 6 (.int .i64 (v3.2)) ∧ Lk σ 7 (.int .i64 (IntKind.i64.wrap (1 + v3.2))) ∧ Lk σ 8 (.int .i64 (v3.1)) ∧ Lk σ 32 (.bool (y57)) ∧ Iv c.nb [] H0 H) (fun J hJ => ?_) ?_
    · skip
      cases g66 : (decide (0 < v3.2)) && (decide ((IntKind.i64.wrap (1 + v3.2)) < ((x0.size : Int))))
      · skip
        have ey57 := cond_f ey57 g66
        obtain rfl := Option.some.inj ey57
        simp only [C.f51r4p1, R, Nat.reduceEqDiff, h51, g66]
        refine hJ _ ?_
        exact ⟨h46, h47, h48, h49, h50, (by first | rfl | (simp only [g66]; rfl) | simp only [g66, Lk, lookS, lookN, Nat.reduceEqDiff, not_false_eq_true, Bool.true_and, Bool.false_and, Bool.true_or, Bool.false_or, cond_true, cond_false]), i52⟩
      · skip
        have ey57 := cond_t ey57 g66
        obtain ⟨v67, ev67, ey57⟩ := bind_s ey57
        obtain rfl := Option.some.inj ey57
        simp only [C.f51r4p1, R, Nat.reduceEqDiff, h51, g66, h46, h49, idxP_str (M := Mt) Tryd.underlying9, ev67]
        refine hJ _ ?_
        exact ⟨h46, h47, h48, h49, h50, (by first | rfl | (simp only [g66]; rfl) | simp only [g66, Lk, lookS, lookN, Nat.reduceEqDiff, not_false_eq_true, Bool.true_and, Bool.false_and, Bool.true_or, Bool.false_or, cond_true, cond_false]), i52⟩
    rintro ⟨σ68, H58, d69⟩ ⟨h59, h60, h61, h62, h63, h64, i65⟩
    refine hJ _ ?_
    refine tk_cond (t := y57) h64 (fun g70 => ?_) (fun g70 => ?_)
    · replace hm := cond_t hm g70
      refine tk_os okM hok fun J hJ => ?_
      simp only [C.f51r5, R, Nat.reduceEqDiff, h62]
      refine hJ _ ?_
      refine tk_os okM hok fun J hJ => ?_
      simp only [C.f51r6, R, Nat.reduceEqDiff]
      refine hJ _ ?_
      refine tk_os okM hok fun J hJ => ?_
      obtain ⟨v71, ev71, hm⟩ := bind_s hm
      obtain ⟨v73, ev73, hm⟩ := bind_s hm
      have a72 := ha61 c.ro H58 v71 v73 ev73
      simp only [C.f51r7, R, Nat.reduceEqDiff, h59, sl_str (M := Mt) Tryd.underlying9, ev71, c_fn F61, a72]
      refine hJ _ ?_
      refine tk_os okM hok fun J hJ => ?_
      simp only [C.f51r8, R, Nat.reduceEqDiff]
      refine hJ _ ?_
      refine tk_os okM hok fun J hJ => ?_
      simp only [C.f51r9, R, Nat.reduceEqDiff]
      refine hJ _ ?_
      refine tk_cond (t := decide (v73.2 = 0)) rfl (fun g74 => ?_) (fun g74 => ?_)
      · replace hm := cond_t hm g74
        refine tk_oe okM hok fun J hJ => ?_
        simp only [C.f51r10, R, Nat.reduceEqDiff]
        refine hJ _ ?_
        refine n43 _ ?_
        exact ⟨x0, v3.1, v3.2, IntKind.i64.wrap ((IntKind.i64.wrap ((IntKind.i64.wrap (1 + v3.2)) + 1)) + v73.2), (-1), hm, h59, h60, h61, rfl, rfl, i65⟩
      · replace hm := cond_f hm g74
        refine tk_skip okM ?_
        refine n43 _ ?_
        exact ⟨x0, v3.1, v3.2, IntKind.i64.wrap ((IntKind.i64.wrap ((IntKind.i64.wrap (1 + v3.2)) + 1)) + v73.2), v73.1, hm, h59, h60, h61, rfl, rfl, i65⟩
    · replace hm := cond_f hm g70
      refine tk_skip okM ?_
      refine n43 _ ?_
      exact ⟨x0, v3.1, v3.2, IntKind.i64.wrap (1 + v3.2), v3.1, hm, h59, h60, h61, h62, h63, i65⟩

-- clew/lex.digit
def fn52_1 (n : Nat) (x1_1 : Int) (x5_2 : Int) : Option (Int) := bif decide (x1_1 ≤ x5_2) then (some ((-1))) else (some x5_2)
def fn52 (n : Nat) (x0 : Int) (x1 : Int) : Option (Int) := bif (decide (48 ≤ x0)) && (decide (x0 ≤ 57)) then (fn52_1 n x1 (IntKind.i64.wrap (IntKind.u8.wrap (x0 - 48)))) else (bif (decide (97 ≤ x0)) && (decide (x0 ≤ 102)) then (fn52_1 n x1 (IntKind.i64.wrap ((IntKind.i64.wrap (IntKind.u8.wrap (x0 - 97))) + 10))) else (bif (decide (65 ≤ x0)) && (decide (x0 ≤ 70)) then (fn52_1 n x1 (IntKind.i64.wrap ((IntKind.i64.wrap (IntKind.u8.wrap (x0 - 65))) + 10))) else (fn52_1 n x1 ((-1)))))

theorem w52 {call : CallF} (hok : CallOk Mt call) {n : Nat} {H0 : Hp} {x0 : Int} {x1 : Int} {r : Int} {ro : Nat} (hro : ro ≤ H0.length) (hm : fn52 n x0 x1 = some r) :
    Pt Mt ro 52 [(.int .u8 x0), (.int .i64 x1)] H0 (.int .i64 (r)) H0 [] := by
  refine pt_new0 okM F52d (by exact Nat.le_of_ble_eq_true rfl) ?_ hro
  intro c hnt hnb hcr
  have hcn : c.ro ≤ c.nb := by omega
  have iv : Iv c.nb [] H0 H0 := by rw [hnb]; exact iv_refl
  rw [show args0 [(.int .u8 x0), (.int .i64 x1)] = [(0, (.int .u8 x0)), (1, (.int .i64 x1))] from rfl]
  rw [fn52] at hm
  simp only [C.f52]
  refine tk_os okM hok fun J hJ => ?_
  simp only [C.f52r0, R, Nat.reduceEqDiff]
  refine hJ _ ?_
  refine tk_os okM hok fun J hJ => ?_
  simp only [C.f52r1, R, Nat.reduceEqDiff]
  refine hJ _ ?_
  refine tk_seq_j (fun ⟨σ, H, _⟩ => ∃ x1_1 x5_2, fn52_1 n x1_1 x5_2 = some r ∧ Lk σ 1 (.int .i64 x1_1) ∧ Lk σ 5 (.int .i64 x5_2) ∧ Iv c.nb [] H0 H) ?_ ?_
  · skip
    rintro ⟨σ7, H3, d8⟩ ⟨x1_1, x5_2, hm, h4, h5, i6⟩
    rw [fn52_1] at hm
    refine tk_seq_k fun K n9 x10 => ?_
    refine tk_os okM hok fun J hJ => ?_
    simp only [C.f52r8, R, Nat.reduceEqDiff, h5, h4]
    refine hJ _ ?_
    refine tk_cond (t := decide (x1_1 ≤ x5_2)) rfl (fun g11 => ?_) (fun g11 => ?_)
    · replace hm := cond_t hm g11
      refine tk_os okM hok fun J hJ => ?_
      simp only [C.f52r9, R, Nat.reduceEqDiff]
      refine hJ _ ?_
      refine tk_ret okM ?_
      refine x10 _ _ (by simp) ?_
      obtain rfl := Option.some.inj hm
      exact end_flat (.inl rfl) (vs := [(.int .i64 ((-1)))]) (resT' (v := (.int .i64 ((-1)))) rfl resN) (fm_cons rfl fm_nil)
    · replace hm := cond_f hm g11
      refine tk_skip okM ?_
      refine n9 _ ?_
      refine tk_os okM hok fun J hJ => ?_
      simp only [C.f52r10, R, Nat.reduceEqDiff, h5]
      refine hJ _ ?_
      refine tk_ret okM ?_
      obtain rfl := Option.some.inj hm
      exact end_flat (.inl rfl) (vs := [(.int .i64 (x5_2))]) (resT' (v := (.int .i64 (x5_2))) rfl resN) (fm_cons rfl fm_nil)
  · refine fun K n12 x13 => ?_
    refine tk_block_k fun K n14 e15 x16 => ?_
    refine tk_os okM hok fun J hJ => ?_
    rw [C.f52r2]
    refine rn_app_k (fun ⟨σ, H, _⟩ => Lk σ 0 (.int .u8 (x0)) ∧ Lk σ 1 (.int .i64 (x1)) ∧ Lk σ 5 (.int .i64 ((-1))) ∧ Lk σ 12 (.bool ((decide (48 ≤ x0)) && (decide (x0 ≤ 57)))) ∧ Iv c.nb [] H0 H) (fun J hJ => ?_) ?_
    · skip
      cases g23 : decide (48 ≤ x0)
      · skip
        simp only [C.f52r2p0, R, Nat.reduceEqDiff, g23]
        refine hJ _ ?_
        exact ⟨(by first | rfl | (simp only [g23]; rfl) | simp only [g23, Lk, lookS, lookN, Nat.reduceEqDiff, not_false_eq_true, Bool.true_and, Bool.false_and, Bool.true_or, Bool.false_or, cond_true, cond_false]), (by first | rfl | (simp only [g23]; rfl) | simp only [g23, Lk, lookS, lookN, Nat.reduceEqDiff, not_false_eq_true, Bool.true_and, Bool.false_and, Bool.true_or, Bool.false_or, cond_true, cond_false]), (by first | rfl | (simp only [g23]; rfl) | simp only [g23, Lk, lookS, lookN, Nat.reduceEqDiff, not_false_eq_true, Bool.true_and, Bool.false_and, Bool.true_or, Bool.false_or, cond_true, cond_false]), (by first | rfl | (simp only [g23]; rfl) | simp only [g23, Lk, lookS, lookN, Nat.reduceEqDiff, not_false_eq_true, Bool.true_and, Bool.false_and, Bool.true_or, Bool.false_or, cond_true, cond_false]), iv⟩
      · skip
        simp only [C.f52r2p0, R, Nat.reduceEqDiff, g23]
        refine hJ _ ?_
        exact ⟨(by first | rfl | (simp only [g23]; rfl) | simp only [g23, Lk, lookS, lookN, Nat.reduceEqDiff, not_false_eq_true, Bool.true_and, Bool.false_and, Bool.true_or, Bool.false_or, cond_true, cond_false]), (by first | rfl | (simp only [g23]; rfl) | simp only [g23, Lk, lookS, lookN, Nat.reduceEqDiff, not_false_eq_true, Bool.true_and, Bool.false_and, Bool.true_or, Bool.false_or, cond_true, cond_false]), (by first | rfl | (simp only [g23]; rfl) | simp only [g23, Lk, lookS, lookN, Nat.reduceEqDiff, not_false_eq_true, Bool.true_and, Bool.false_and, Bool.true_or, Bool.false_or, cond_true, cond_false]), (by first | rfl | (simp only [g23]; rfl) | simp only [g23, Lk, lookS, lookN, Nat.reduceEqDiff, not_false_eq_true, Bool.true_and, Bool.false_and, Bool.true_or, Bool.false_or, cond_true, cond_false]), iv⟩
    rintro ⟨σ24, H17, d25⟩ ⟨h18, h19, h20, h21, i22⟩
    simp only [C.f52r2p1, R, Nat.reduceEqDiff, h21]
    refine hJ _ ?_
    refine tk_cond (t := (decide (48 ≤ x0)) && (decide (x0 ≤ 57))) rfl (fun g26 => ?_) (fun g26 => ?_)
    · replace hm := cond_t hm g26
      refine tk_oe okM hok fun J hJ => ?_
      simp only [C.f52r3, R, Nat.reduceEqDiff, h18, cv_int (M := Mt) Tryd.underlying5 Tryd.underlying3]
      refine hJ _ ?_
      refine n14 _ ?_
      refine n12 _ ?_
      exact ⟨x1, IntKind.i64.wrap (IntKind.u8.wrap (x0 - 48)), hm, h19, rfl, i22⟩
    · replace hm := cond_f hm g26
      refine tk_os okM hok fun J hJ => ?_
      rw [C.f52r4]
      refine rn_app_k (fun ⟨σ, H, _⟩ => Lk σ 0 (.int .u8 (x0)) ∧ Lk σ 1 (.int .i64 (x1)) ∧ Lk σ 5 (.int .i64 ((-1))) ∧ Lk σ 22 (.bool ((decide (97 ≤ x0)) && (decide (x0 ≤ 102)))) ∧ Iv c.nb [] H0 H) (fun J hJ => ?_) ?_
      · skip
        cases g33 : decide (97 ≤ x0)
        · skip
          simp only [C.f52r4p0, R, Nat.reduceEqDiff, h18, g33]
          refine hJ _ ?_
          exact ⟨h18, h19, h20, (by first | rfl | (simp only [g33]; rfl) | simp only [g33, Lk, lookS, lookN, Nat.reduceEqDiff, not_false_eq_true, Bool.true_and, Bool.false_and, Bool.true_or, Bool.false_or, cond_true, cond_false]), i22⟩
        · skip
          simp only [C.f52r4p0, R, Nat.reduceEqDiff, h18, g33]
          refine hJ _ ?_
          exact ⟨h18, h19, h20, (by first | rfl | (simp only [g33]; rfl) | simp only [g33, Lk, lookS, lookN, Nat.reduceEqDiff, not_false_eq_true, Bool.true_and, Bool.false_and, Bool.true_or, Bool.false_or, cond_true, cond_false]), i22⟩
      rintro ⟨σ34, H27, d35⟩ ⟨h28, h29, h30, h31, i32⟩
      simp only [C.f52r4p1, R, Nat.reduceEqDiff, h31]
      refine hJ _ ?_
      refine tk_cond (t := (decide (97 ≤ x0)) && (decide (x0 ≤ 102))) rfl (fun g36 => ?_) (fun g36 => ?_)
      · replace hm := cond_t hm g36
        refine tk_oe okM hok fun J hJ => ?_
        simp only [C.f52r5, R, Nat.reduceEqDiff, h28, cv_int (M := Mt) Tryd.underlying5 Tryd.underlying3]
        refine hJ _ ?_
        refine n14 _ ?_
        refine n12 _ ?_
        exact ⟨x1, IntKind.i64.wrap ((IntKind.i64.wrap (IntKind.u8.wrap (x0 - 97))) + 10), hm, h29, rfl, i32⟩
      · replace hm := cond_f hm g36
        refine tk_os okM hok fun J hJ => ?_
        rw [C.f52r6]
        refine rn_app_k (fun ⟨σ, H, _⟩ => Lk σ 0 (.int .u8 (x0)) ∧ Lk σ 1 (.int .i64 (x1)) ∧ Lk σ 5 (.int .i64 ((-1))) ∧ Lk σ 33 (.bool ((decide (65 ≤ x0)) && (decide (x0 ≤ 70)))) ∧ Iv c.nb [] H0 H) (fun J hJ => ?_) ?_
        · skip
          cases g43 : decide (65 ≤ x0)
          · skip
            simp only [C.f52r6p0, R, Nat.reduceEqDiff, h28, g43]
            refine hJ _ ?_
            exact ⟨h28, h29, h30, (by first | rfl | (simp only [g43]; rfl) | simp only [g43, Lk, lookS, lookN, Nat.reduceEqDiff, not_false_eq_true, Bool.true_and, Bool.false_and, Bool.true_or, Bool.false_or, cond_true, cond_false]), i32⟩
          · skip
            simp only [C.f52r6p0, R, Nat.reduceEqDiff, h28, g43]
            refine hJ _ ?_
            exact ⟨h28, h29, h30, (by first | rfl | (simp only [g43]; rfl) | simp only [g43, Lk, lookS, lookN, Nat.reduceEqDiff, not_false_eq_true, Bool.true_and, Bool.false_and, Bool.true_or, Bool.false_or, cond_true, cond_false]), i32⟩
        rintro ⟨σ44, H37, d45⟩ ⟨h38, h39, h40, h41, i42⟩
        simp only [C.f52r6p1, R, Nat.reduceEqDiff, h41]
        refine hJ _ ?_
        refine tk_cond (t := (decide (65 ≤ x0)) && (decide (x0 ≤ 70))) rfl (fun g46 => ?_) (fun g46 => ?_)
        · replace hm := cond_t hm g46
          refine tk_oe okM hok fun J hJ => ?_
          simp only [C.f52r7, R, Nat.reduceEqDiff, h38, cv_int (M := Mt) Tryd.underlying5 Tryd.underlying3]
          refine hJ _ ?_
          refine n14 _ ?_
          refine n12 _ ?_
          exact ⟨x1, IntKind.i64.wrap ((IntKind.i64.wrap (IntKind.u8.wrap (x0 - 65))) + 10), hm, h39, rfl, i42⟩
        · replace hm := cond_f hm g46
          refine tk_skip okM ?_
          refine n14 _ ?_
          refine n12 _ ?_
          exact ⟨x1, (-1), hm, h39, h40, i42⟩

-- clew/lex.escape
def fn53 (c17 : T17) (c25 : T25) (c49 : T49) (c52 : T52) (c62 : T62) (c63 : T63) (c64 : T64) (c65 : T65) (n : Nat) (x0 : ByteArray) : Option (S35 × Int) := bif decide (x0 = ((⟨#[]⟩ : ByteArray))) then (some (S35.zero, 0)) else ((bt x0 0).bind fun v19 => bif decide (v19 = 100) then ((c62).bind fun v25 => some (v25, 1)) else (bif decide (v19 = 68) then ((c62).bind fun v33 => (c25 v33).bind fun v35 => some (v35, 1)) else (bif decide (v19 = 119) then ((c63).bind fun v43 => some (v43, 1)) else (bif decide (v19 = 87) then ((c63).bind fun v51 => (c25 v51).bind fun v53 => some (v53, 1)) else (bif decide (v19 = 115) then ((c64).bind fun v61 => some (v61, 1)) else (bif decide (v19 = 83) then ((c64).bind fun v69 => (c25 v69).bind fun v71 => some (v71, 1)) else (bif decide (v19 = 120) then ((bif decide (((x0.size : Int)) < 3) then some true else ((bt x0 1).bind fun v80 => (c52 v80 16).bind fun v82 => some (decide (v82 < 0)))).bind fun y83 => (bif y83 then some true else ((bt x0 2).bind fun v96 => (c52 v96 16).bind fun v98 => some (decide (v98 < 0)))).bind fun y99 => bif y99 then (some (S35.zero, 0)) else ((bt x0 1).bind fun v118 => (c52 v118 16).bind fun v120 => (bt x0 2).bind fun v121 => (c52 v121 16).bind fun v123 => (c17 (IntKind.u8.wrap (IntKind.i64.wrap ((IntKind.i64.wrap (v120 * 16)) + v123)))).bind fun v125 => some (v125, 3))) else ((c49 ((⟨#[110, 116, 114, 102, 118]⟩ : ByteArray)) v19).bind fun v134 => bif decide (0 ≤ v134) then ((bt ((⟨#[10, 9, 13, 12, 11]⟩ : ByteArray)) v134).bind fun v136 => (c17 v136).bind fun v138 => some (v138, 1)) else ((c65 v19).bind fun v147 => bif v147 then (some (S35.zero, 0)) else ((c17 v19).bind fun v155 => some (v155, 1)))))))))))

theorem w53 {call : CallF} (hok : CallOk Mt call) {n : Nat} {c17 : T17} (ha17 : A17 call c17) {c25 : T25} (ha25 : A25 call c25) {c49 : T49} (ha49 : A49 call c49) {c52 : T52} (ha52 : A52 call c52) {c62 : T62} (ha62 : A62 call c62) {c63 : T63} (ha63 : A63 call c63) {c64 : T64} (ha64 : A64 call c64) {c65 : T65} (ha65 : A65 call c65) {H0 : Hp} {x0 : ByteArray} {r : S35 × Int} {ro : Nat} (hro : ro ≤ H0.length) (hm : fn53 c17 c25 c49 c52 c62 c63 c64 c65 n x0 = some r) :
    Pt Mt ro 53 [(.string x0)] H0 (.tuple [(vAgg (S35.c (r.1))), (.int .i64 (r.2))].toArray) H0 [] := by
  refine pt_new0 okM F53d (by exact Nat.le_of_ble_eq_true rfl) ?_ hro
  intro c hnt hnb hcr
  have hcn : c.ro ≤ c.nb := by omega
  have iv : Iv c.nb [] H0 H0 := by rw [hnb]; exact iv_refl
  rw [show args0 [(.string x0)] = [(0, (.string x0))] from rfl]
  rw [fn53] at hm
  simp only [C.f53]
  refine tk_os okM hok fun J hJ => ?_
  obtain ⟨b1, H2, a3, f4, q5, r6, x7, i8⟩ := al_ok H0 36 (S35.c S35.zero) iv.le
  have i9 := i8 _ _ iv
  simp only [C.f53r0, R, Nat.reduceEqDiff, zs36, a3]
  refine hJ _ ?_
  refine tk_seq_k fun K n11 x12 => ?_
  refine tk_os okM hok fun J hJ => ?_
  simp only [C.f53r1, R, Nat.reduceEqDiff]
  refine hJ _ ?_
  refine tk_cond (t := decide (x0 = ((⟨#[]⟩ : ByteArray)))) rfl (fun g13 => ?_) (fun g13 => ?_)
  · replace hm := cond_t hm g13
    refine tk_os okM hok fun J hJ => ?_
    obtain ⟨H14, a15, f16, u17⟩ := st_ok (M := Mt) (t := 36) (v := (vAgg (S35.c (S35.zero)))) (c := S35.c S35.zero) (cs' := S35.c S35.zero) f4 (by rw [S35.enc.len]; exact T.sz36) vAgg_cells (S35.enc.one _) (Nat.le_trans hcn r6) (le0 S35.enc.len) (wrs_all (eqL S35.enc.len))
    have i18 := i9.up u17 r6
    simp only [C.f53r2, R, Nat.reduceEqDiff, bd36_, a15]
    refine hJ _ ?_
    refine tk_ret okM ?_
    refine x12 _ _ (by simp) ?_
    obtain rfl := Option.some.inj hm
    exact end_flat (.inl rfl) (vs := [(vAgg (S35.c (S35.zero))), (.int .i64 (0))]) (resC' (v := (vAgg (S35.c (S35.zero)))) rfl (ldv_of (ld_agg (M := Mt) (t := 36) f16 T.ag36 (by rw [S35.enc.len]; exact T.sz36) Seg.refl)) (resT' (v := (.int .i64 (0))) rfl resN)) (fm_cons (flat_agg S35.enc _) (fm_cons rfl fm_nil))
  · replace hm := cond_f hm g13
    refine tk_skip okM ?_
    refine n11 _ ?_
    refine tk_os okM hok fun J hJ => ?_
    obtain ⟨v19, ev19, hm⟩ := bind_s hm
    simp only [C.f53r3, R, Nat.reduceEqDiff, idxP_str (M := Mt) Tryd.underlying9, ev19]
    refine hJ _ ?_
    refine tk_os okM hok fun J hJ => ?_
    simp only [C.f53r4, R, Nat.reduceEqDiff]
    refine hJ _ ?_
    refine tk_block_k fun K n20 e21 x22 => ?_
    refine tk_os okM hok fun J hJ => ?_
    simp only [C.f53r11, R, Nat.reduceEqDiff]
    refine hJ _ ?_
    refine tk_cond (t := decide (v19 = 100)) rfl (fun g23 => ?_) (fun g23 => ?_)
    · replace hm := cond_t hm g23
      refine tk_os okM hok fun J hJ => ?_
      obtain ⟨v25, ev25, hm⟩ := bind_s hm
      have a24 := ha62 c.ro H2  v25 ev25
      obtain ⟨H26, a27, f28, u29⟩ := st_ok (M := Mt) (t := 36) (v := (vAgg (S35.c (v25)))) (c := S35.c v25) (cs' := S35.c v25) f4 (by rw [S35.enc.len]; exact T.sz36) vAgg_cells (S35.enc.one _) (Nat.le_trans hcn r6) (le0 S35.enc.len) (wrs_all (eqL S35.enc.len))
      have i30 := i9.up u29 r6
      simp only [C.f53r12, R, Nat.reduceEqDiff, c_fn F62, a24, a27]
      refine hJ _ ?_
      refine tk_ret okM ?_
      refine x22 _ _ (by simp) (by simp) ?_
      obtain rfl := Option.some.inj hm
      exact end_flat (.inl rfl) (vs := [(vAgg (S35.c (v25))), (.int .i64 (1))]) (resC' (v := (vAgg (S35.c (v25)))) rfl (ldv_of (ld_agg (M := Mt) (t := 36) f28 T.ag36 (by rw [S35.enc.len]; exact T.sz36) Seg.refl)) (resT' (v := (.int .i64 (1))) rfl resN)) (fm_cons (flat_agg S35.enc _) (fm_cons rfl fm_nil))
    · replace hm := cond_f hm g23
      refine tk_os okM hok fun J hJ => ?_
      simp only [C.f53r13, R, Nat.reduceEqDiff]
      refine hJ _ ?_
      refine tk_cond (t := decide (v19 = 68)) rfl (fun g31 => ?_) (fun g31 => ?_)
      · replace hm := cond_t hm g31
        refine tk_os okM hok fun J hJ => ?_
        obtain ⟨v33, ev33, hm⟩ := bind_s hm
        have a32 := ha62 c.ro H2  v33 ev33
        obtain ⟨v35, ev35, hm⟩ := bind_s hm
        have a34 := ha25 c.ro H2 v33 v35 ev35
        obtain ⟨H36, a37, f38, u39⟩ := st_ok (M := Mt) (t := 36) (v := (vAgg (S35.c (v35)))) (c := S35.c v35) (cs' := S35.c v35) f4 (by rw [S35.enc.len]; exact T.sz36) vAgg_cells (S35.enc.one _) (Nat.le_trans hcn r6) (le0 S35.enc.len) (wrs_all (eqL S35.enc.len))
        have i40 := i9.up u39 r6
        simp only [C.f53r14, R, Nat.reduceEqDiff, c_fn F62, a32, c_fn F25, a34, a37]
        refine hJ _ ?_
        refine tk_ret okM ?_
        refine x22 _ _ (by simp) (by simp) ?_
        obtain rfl := Option.some.inj hm
        exact end_flat (.inl rfl) (vs := [(vAgg (S35.c (v35))), (.int .i64 (1))]) (resC' (v := (vAgg (S35.c (v35)))) rfl (ldv_of (ld_agg (M := Mt) (t := 36) f38 T.ag36 (by rw [S35.enc.len]; exact T.sz36) Seg.refl)) (resT' (v := (.int .i64 (1))) rfl resN)) (fm_cons (flat_agg S35.enc _) (fm_cons rfl fm_nil))
      · replace hm := cond_f hm g31
        refine tk_os okM hok fun J hJ => ?_
        simp only [C.f53r15, R, Nat.reduceEqDiff]
        refine hJ _ ?_
        refine tk_cond (t := decide (v19 = 119)) rfl (fun g41 => ?_) (fun g41 => ?_)
        · replace hm := cond_t hm g41
          refine tk_os okM hok fun J hJ => ?_
          obtain ⟨v43, ev43, hm⟩ := bind_s hm
          have a42 := ha63 c.ro H2  v43 ev43
          obtain ⟨H44, a45, f46, u47⟩ := st_ok (M := Mt) (t := 36) (v := (vAgg (S35.c (v43)))) (c := S35.c v43) (cs' := S35.c v43) f4 (by rw [S35.enc.len]; exact T.sz36) vAgg_cells (S35.enc.one _) (Nat.le_trans hcn r6) (le0 S35.enc.len) (wrs_all (eqL S35.enc.len))
          have i48 := i9.up u47 r6
          simp only [C.f53r16, R, Nat.reduceEqDiff, c_fn F63, a42, a45]
          refine hJ _ ?_
          refine tk_ret okM ?_
          refine x22 _ _ (by simp) (by simp) ?_
          obtain rfl := Option.some.inj hm
          exact end_flat (.inl rfl) (vs := [(vAgg (S35.c (v43))), (.int .i64 (1))]) (resC' (v := (vAgg (S35.c (v43)))) rfl (ldv_of (ld_agg (M := Mt) (t := 36) f46 T.ag36 (by rw [S35.enc.len]; exact T.sz36) Seg.refl)) (resT' (v := (.int .i64 (1))) rfl resN)) (fm_cons (flat_agg S35.enc _) (fm_cons rfl fm_nil))
        · replace hm := cond_f hm g41
          refine tk_os okM hok fun J hJ => ?_
          simp only [C.f53r17, R, Nat.reduceEqDiff]
          refine hJ _ ?_
          refine tk_cond (t := decide (v19 = 87)) rfl (fun g49 => ?_) (fun g49 => ?_)
          · replace hm := cond_t hm g49
            refine tk_os okM hok fun J hJ => ?_
            obtain ⟨v51, ev51, hm⟩ := bind_s hm
            have a50 := ha63 c.ro H2  v51 ev51
            obtain ⟨v53, ev53, hm⟩ := bind_s hm
            have a52 := ha25 c.ro H2 v51 v53 ev53
            obtain ⟨H54, a55, f56, u57⟩ := st_ok (M := Mt) (t := 36) (v := (vAgg (S35.c (v53)))) (c := S35.c v53) (cs' := S35.c v53) f4 (by rw [S35.enc.len]; exact T.sz36) vAgg_cells (S35.enc.one _) (Nat.le_trans hcn r6) (le0 S35.enc.len) (wrs_all (eqL S35.enc.len))
            have i58 := i9.up u57 r6
            simp only [C.f53r18, R, Nat.reduceEqDiff, c_fn F63, a50, c_fn F25, a52, a55]
            refine hJ _ ?_
            refine tk_ret okM ?_
            refine x22 _ _ (by simp) (by simp) ?_
            obtain rfl := Option.some.inj hm
            exact end_flat (.inl rfl) (vs := [(vAgg (S35.c (v53))), (.int .i64 (1))]) (resC' (v := (vAgg (S35.c (v53)))) rfl (ldv_of (ld_agg (M := Mt) (t := 36) f56 T.ag36 (by rw [S35.enc.len]; exact T.sz36) Seg.refl)) (resT' (v := (.int .i64 (1))) rfl resN)) (fm_cons (flat_agg S35.enc _) (fm_cons rfl fm_nil))
          · replace hm := cond_f hm g49
            refine tk_os okM hok fun J hJ => ?_
            simp only [C.f53r19, R, Nat.reduceEqDiff]
            refine hJ _ ?_
            refine tk_cond (t := decide (v19 = 115)) rfl (fun g59 => ?_) (fun g59 => ?_)
            · replace hm := cond_t hm g59
              refine tk_os okM hok fun J hJ => ?_
              obtain ⟨v61, ev61, hm⟩ := bind_s hm
              have a60 := ha64 c.ro H2  v61 ev61
              obtain ⟨H62, a63, f64, u65⟩ := st_ok (M := Mt) (t := 36) (v := (vAgg (S35.c (v61)))) (c := S35.c v61) (cs' := S35.c v61) f4 (by rw [S35.enc.len]; exact T.sz36) vAgg_cells (S35.enc.one _) (Nat.le_trans hcn r6) (le0 S35.enc.len) (wrs_all (eqL S35.enc.len))
              have i66 := i9.up u65 r6
              simp only [C.f53r20, R, Nat.reduceEqDiff, c_fn F64, a60, a63]
              refine hJ _ ?_
              refine tk_ret okM ?_
              refine x22 _ _ (by simp) (by simp) ?_
              obtain rfl := Option.some.inj hm
              exact end_flat (.inl rfl) (vs := [(vAgg (S35.c (v61))), (.int .i64 (1))]) (resC' (v := (vAgg (S35.c (v61)))) rfl (ldv_of (ld_agg (M := Mt) (t := 36) f64 T.ag36 (by rw [S35.enc.len]; exact T.sz36) Seg.refl)) (resT' (v := (.int .i64 (1))) rfl resN)) (fm_cons (flat_agg S35.enc _) (fm_cons rfl fm_nil))
            · replace hm := cond_f hm g59
              refine tk_os okM hok fun J hJ => ?_
              simp only [C.f53r21, R, Nat.reduceEqDiff]
              refine hJ _ ?_
              refine tk_cond (t := decide (v19 = 83)) rfl (fun g67 => ?_) (fun g67 => ?_)
              · replace hm := cond_t hm g67
                refine tk_os okM hok fun J hJ => ?_
                obtain ⟨v69, ev69, hm⟩ := bind_s hm
                have a68 := ha64 c.ro H2  v69 ev69
                obtain ⟨v71, ev71, hm⟩ := bind_s hm
                have a70 := ha25 c.ro H2 v69 v71 ev71
                obtain ⟨H72, a73, f74, u75⟩ := st_ok (M := Mt) (t := 36) (v := (vAgg (S35.c (v71)))) (c := S35.c v71) (cs' := S35.c v71) f4 (by rw [S35.enc.len]; exact T.sz36) vAgg_cells (S35.enc.one _) (Nat.le_trans hcn r6) (le0 S35.enc.len) (wrs_all (eqL S35.enc.len))
                have i76 := i9.up u75 r6
                simp only [C.f53r22, R, Nat.reduceEqDiff, c_fn F64, a68, c_fn F25, a70, a73]
                refine hJ _ ?_
                refine tk_ret okM ?_
                refine x22 _ _ (by simp) (by simp) ?_
                obtain rfl := Option.some.inj hm
                exact end_flat (.inl rfl) (vs := [(vAgg (S35.c (v71))), (.int .i64 (1))]) (resC' (v := (vAgg (S35.c (v71)))) rfl (ldv_of (ld_agg (M := Mt) (t := 36) f74 T.ag36 (by rw [S35.enc.len]; exact T.sz36) Seg.refl)) (resT' (v := (.int .i64 (1))) rfl resN)) (fm_cons (flat_agg S35.enc _) (fm_cons rfl fm_nil))
              · replace hm := cond_f hm g67
                refine tk_os okM hok fun J hJ => ?_
                simp only [C.f53r23, R, Nat.reduceEqDiff]
                refine hJ _ ?_
                refine tk_cond (t := decide (v19 = 120)) rfl (fun g77 => ?_) (fun g77 => ?_)
                · replace hm := cond_t hm g77
                  refine tk_seq_k fun K n78 x79 => ?_
                  refine tk_os okM hok fun J hJ => ?_
                  rw [C.f53r24]
                  obtain ⟨y83, ey83, hm⟩ := bind_s hm
                  refine rn_app_k (fun ⟨σ, H, _⟩ => Lk σ 0 (.string (x0)) ∧ Lk σ 2 (.pointer (some ⟨b1, 0, none⟩)) ∧ Lk σ 55 (.bool (y83)) ∧ H[b1]? = some (.cells (S35.c S35.zero) 36) ∧ Iv c.nb [] H0 H) (fun J hJ => ?_) ?_
                  · skip
                    cases g90 : decide (((x0.size : Int)) < 3)
                    · skip
                      have ey83 := cond_f ey83 g90
                      obtain ⟨v91, ev91, ey83⟩ := bind_s ey83
                      obtain ⟨v93, ev93, ey83⟩ := bind_s ey83
                      have a92 := ha52 c.ro H2 v91 16 v93 ev93
                      obtain rfl := Option.some.inj ey83
                      simp only [C.f53r24p0, R, Nat.reduceEqDiff, len_str (M := Mt) Tryd.underlying9, g90, idxP_str (M := Mt) Tryd.underlying9, ev91, c_fn F52, a92]
                      refine hJ _ ?_
                      exact ⟨(by first | rfl | (simp only [g90]; rfl) | simp only [g90, Lk, lookS, lookN, Nat.reduceEqDiff, not_false_eq_true, Bool.true_and, Bool.false_and, Bool.true_or, Bool.false_or, cond_true, cond_false]), rfl, (by first | rfl | (simp only [g90]; rfl) | simp only [g90, Lk, lookS, lookN, Nat.reduceEqDiff, not_false_eq_true, Bool.true_and, Bool.false_and, Bool.true_or, Bool.false_or, cond_true, cond_false]), f4, i9⟩
                    · skip
                      have ey83 := cond_t ey83 g90
                      obtain rfl := Option.some.inj ey83
                      simp only [C.f53r24p0, R, Nat.reduceEqDiff, len_str (M := Mt) Tryd.underlying9, g90]
                      refine hJ _ ?_
                      exact ⟨(by first | rfl | (simp only [g90]; rfl) | simp only [g90, Lk, lookS, lookN, Nat.reduceEqDiff, not_false_eq_true, Bool.true_and, Bool.false_and, Bool.true_or, Bool.false_or, cond_true, cond_false]), rfl, (by first | rfl | (simp only [g90]; rfl) | simp only [g90, Lk, lookS, lookN, Nat.reduceEqDiff, not_false_eq_true, Bool.true_and, Bool.false_and, Bool.true_or, Bool.false_or, cond_true, cond_false]), f4, i9⟩
                  rintro ⟨σ94, H84, d95⟩ ⟨h85, h86, h87, f88, i89⟩
                  obtain ⟨y99, ey99, hm⟩ := bind_s hm
                  refine rn_k (fun ⟨σ, H, _⟩ => Lk σ 0 (.string (x0)) ∧ Lk σ 2 (.pointer (some ⟨b1, 0, none⟩)) ∧ Lk σ 61 (.bool (y99)) ∧ H[b1]? = some (.cells (S35.c S35.zero) 36) ∧ Iv c.nb [] H0 H) (fun J hJ => ?_) ?_
                  · skip
                    cases g106 : y83
                    · skip
                      have ey99 := cond_f ey99 g106
                      obtain ⟨v107, ev107, ey99⟩ := bind_s ey99
                      obtain ⟨v109, ev109, ey99⟩ := bind_s ey99
                      have a108 := ha52 c.ro H84 v107 16 v109 ev109
                      obtain rfl := Option.some.inj ey99
                      simp only [C.f53r24p1, R, Nat.reduceEqDiff, h87, g106, h85, idxP_str (M := Mt) Tryd.underlying9, ev107, c_fn F52, a108]
                      refine hJ _ ?_
                      exact ⟨h85, h86, (by first | rfl | (simp only [g106]; rfl) | simp only [g106, Lk, lookS, lookN, Nat.reduceEqDiff, not_false_eq_true, Bool.true_and, Bool.false_and, Bool.true_or, Bool.false_or, cond_true, cond_false]), f88, i89⟩
                    · skip
                      have ey99 := cond_t ey99 g106
                      obtain rfl := Option.some.inj ey99
                      simp only [C.f53r24p1, R, Nat.reduceEqDiff, h87, g106]
                      refine hJ _ ?_
                      exact ⟨h85, h86, (by first | rfl | (simp only [g106]; rfl) | simp only [g106, Lk, lookS, lookN, Nat.reduceEqDiff, not_false_eq_true, Bool.true_and, Bool.false_and, Bool.true_or, Bool.false_or, cond_true, cond_false]), f88, i89⟩
                  rintro ⟨σ110, H100, d111⟩ ⟨h101, h102, h103, f104, i105⟩
                  refine hJ _ ?_
                  refine tk_cond (t := y99) h103 (fun g112 => ?_) (fun g112 => ?_)
                  · replace hm := cond_t hm g112
                    refine tk_os okM hok fun J hJ => ?_
                    obtain ⟨H113, a114, f115, u116⟩ := st_ok (M := Mt) (t := 36) (v := (vAgg (S35.c (S35.zero)))) (c := S35.c S35.zero) (cs' := S35.c S35.zero) f104 (by rw [S35.enc.len]; exact T.sz36) vAgg_cells (S35.enc.one _) (Nat.le_trans hcn r6) (le0 S35.enc.len) (wrs_all (eqL S35.enc.len))
                    have i117 := i105.up u116 r6
                    simp only [C.f53r25, R, Nat.reduceEqDiff, bd36_, a114, h102]
                    refine hJ _ ?_
                    refine tk_ret okM ?_
                    refine x79 _ _ (by simp) ?_
                    refine x22 _ _ (by simp) (by simp) ?_
                    obtain rfl := Option.some.inj hm
                    exact end_flat (.inl rfl) (vs := [(vAgg (S35.c (S35.zero))), (.int .i64 (0))]) (resC' (v := (vAgg (S35.c (S35.zero)))) h102 (ldv_of (ld_agg (M := Mt) (t := 36) f115 T.ag36 (by rw [S35.enc.len]; exact T.sz36) Seg.refl)) (resT' (v := (.int .i64 (0))) rfl resN)) (fm_cons (flat_agg S35.enc _) (fm_cons rfl fm_nil))
                  · replace hm := cond_f hm g112
                    refine tk_skip okM ?_
                    refine n78 _ ?_
                    refine tk_os okM hok fun J hJ => ?_
                    obtain ⟨v118, ev118, hm⟩ := bind_s hm
                    obtain ⟨v120, ev120, hm⟩ := bind_s hm
                    have a119 := ha52 c.ro H100 v118 16 v120 ev120
                    obtain ⟨v121, ev121, hm⟩ := bind_s hm
                    obtain ⟨v123, ev123, hm⟩ := bind_s hm
                    have a122 := ha52 c.ro H100 v121 16 v123 ev123
                    obtain ⟨v125, ev125, hm⟩ := bind_s hm
                    have a124 := ha17 c.ro H100 (IntKind.u8.wrap (IntKind.i64.wrap ((IntKind.i64.wrap (v120 * 16)) + v123))) v125 ev125
                    obtain ⟨H126, a127, f128, u129⟩ := st_ok (M := Mt) (t := 36) (v := (vAgg (S35.c (v125)))) (c := S35.c v125) (cs' := S35.c v125) f104 (by rw [S35.enc.len]; exact T.sz36) vAgg_cells (S35.enc.one _) (Nat.le_trans hcn r6) (le0 S35.enc.len) (wrs_all (eqL S35.enc.len))
                    have i130 := i105.up u129 r6
                    simp only [C.f53r26, R, Nat.reduceEqDiff, h101, idxP_str (M := Mt) Tryd.underlying9, ev118, c_fn F52, a119, ev121, a122, cv_int (M := Mt) Tryd.underlying3 Tryd.underlying5, c_fn F17, a124, a127, h102]
                    refine hJ _ ?_
                    refine tk_ret okM ?_
                    refine x22 _ _ (by simp) (by simp) ?_
                    obtain rfl := Option.some.inj hm
                    exact end_flat (.inl rfl) (vs := [(vAgg (S35.c (v125))), (.int .i64 (3))]) (resC' (v := (vAgg (S35.c (v125)))) h102 (ldv_of (ld_agg (M := Mt) (t := 36) f128 T.ag36 (by rw [S35.enc.len]; exact T.sz36) Seg.refl)) (resT' (v := (.int .i64 (3))) rfl resN)) (fm_cons (flat_agg S35.enc _) (fm_cons rfl fm_nil))
                · replace hm := cond_f hm g77
                  refine tk_seq_k fun K n131 x132 => ?_
                  refine tk_os okM hok fun J hJ => ?_
                  obtain ⟨v134, ev134, hm⟩ := bind_s hm
                  have a133 := ha49 c.ro H2 ((⟨#[110, 116, 114, 102, 118]⟩ : ByteArray)) v19 v134 ev134
                  simp only [C.f53r5, R, Nat.reduceEqDiff, c_fn F49, a133]
                  refine hJ _ ?_
                  refine tk_os okM hok fun J hJ => ?_
                  simp only [C.f53r6, R, Nat.reduceEqDiff]
                  refine hJ _ ?_
                  refine tk_cond (t := decide (0 ≤ v134)) rfl (fun g135 => ?_) (fun g135 => ?_)
                  · replace hm := cond_t hm g135
                    refine tk_os okM hok fun J hJ => ?_
                    obtain ⟨v136, ev136, hm⟩ := bind_s hm
                    obtain ⟨v138, ev138, hm⟩ := bind_s hm
                    have a137 := ha17 c.ro H2 v136 v138 ev138
                    obtain ⟨H139, a140, f141, u142⟩ := st_ok (M := Mt) (t := 36) (v := (vAgg (S35.c (v138)))) (c := S35.c v138) (cs' := S35.c v138) f4 (by rw [S35.enc.len]; exact T.sz36) vAgg_cells (S35.enc.one _) (Nat.le_trans hcn r6) (le0 S35.enc.len) (wrs_all (eqL S35.enc.len))
                    have i143 := i9.up u142 r6
                    simp only [C.f53r7, R, Nat.reduceEqDiff, idxP_str (M := Mt) Tryd.underlying9, ev136, c_fn F17, a137, a140]
                    refine hJ _ ?_
                    refine tk_ret okM ?_
                    refine x132 _ _ (by simp) ?_
                    refine x22 _ _ (by simp) (by simp) ?_
                    obtain rfl := Option.some.inj hm
                    exact end_flat (.inl rfl) (vs := [(vAgg (S35.c (v138))), (.int .i64 (1))]) (resC' (v := (vAgg (S35.c (v138)))) rfl (ldv_of (ld_agg (M := Mt) (t := 36) f141 T.ag36 (by rw [S35.enc.len]; exact T.sz36) Seg.refl)) (resT' (v := (.int .i64 (1))) rfl resN)) (fm_cons (flat_agg S35.enc _) (fm_cons rfl fm_nil))
                  · replace hm := cond_f hm g135
                    refine tk_skip okM ?_
                    refine n131 _ ?_
                    refine tk_seq_k fun K n144 x145 => ?_
                    refine tk_os okM hok fun J hJ => ?_
                    obtain ⟨v147, ev147, hm⟩ := bind_s hm
                    have a146 := ha65 c.ro H2 v19 v147 ev147
                    simp only [C.f53r8, R, Nat.reduceEqDiff, c_fn F65, a146]
                    refine hJ _ ?_
                    refine tk_cond (t := v147) rfl (fun g148 => ?_) (fun g148 => ?_)
                    · replace hm := cond_t hm g148
                      refine tk_os okM hok fun J hJ => ?_
                      obtain ⟨H149, a150, f151, u152⟩ := st_ok (M := Mt) (t := 36) (v := (vAgg (S35.c (S35.zero)))) (c := S35.c S35.zero) (cs' := S35.c S35.zero) f4 (by rw [S35.enc.len]; exact T.sz36) vAgg_cells (S35.enc.one _) (Nat.le_trans hcn r6) (le0 S35.enc.len) (wrs_all (eqL S35.enc.len))
                      have i153 := i9.up u152 r6
                      simp only [C.f53r9, R, Nat.reduceEqDiff, bd36_, a150]
                      refine hJ _ ?_
                      refine tk_ret okM ?_
                      refine x145 _ _ (by simp) ?_
                      refine x22 _ _ (by simp) (by simp) ?_
                      obtain rfl := Option.some.inj hm
                      exact end_flat (.inl rfl) (vs := [(vAgg (S35.c (S35.zero))), (.int .i64 (0))]) (resC' (v := (vAgg (S35.c (S35.zero)))) rfl (ldv_of (ld_agg (M := Mt) (t := 36) f151 T.ag36 (by rw [S35.enc.len]; exact T.sz36) Seg.refl)) (resT' (v := (.int .i64 (0))) rfl resN)) (fm_cons (flat_agg S35.enc _) (fm_cons rfl fm_nil))
                    · replace hm := cond_f hm g148
                      refine tk_skip okM ?_
                      refine n144 _ ?_
                      refine tk_os okM hok fun J hJ => ?_
                      obtain ⟨v155, ev155, hm⟩ := bind_s hm
                      have a154 := ha17 c.ro H2 v19 v155 ev155
                      obtain ⟨H156, a157, f158, u159⟩ := st_ok (M := Mt) (t := 36) (v := (vAgg (S35.c (v155)))) (c := S35.c v155) (cs' := S35.c v155) f4 (by rw [S35.enc.len]; exact T.sz36) vAgg_cells (S35.enc.one _) (Nat.le_trans hcn r6) (le0 S35.enc.len) (wrs_all (eqL S35.enc.len))
                      have i160 := i9.up u159 r6
                      simp only [C.f53r10, R, Nat.reduceEqDiff, c_fn F17, a154, a157]
                      refine hJ _ ?_
                      refine tk_ret okM ?_
                      refine x22 _ _ (by simp) (by simp) ?_
                      obtain rfl := Option.some.inj hm
                      exact end_flat (.inl rfl) (vs := [(vAgg (S35.c (v155))), (.int .i64 (1))]) (resC' (v := (vAgg (S35.c (v155)))) rfl (ldv_of (ld_agg (M := Mt) (t := 36) f158 T.ag36 (by rw [S35.enc.len]; exact T.sz36) Seg.refl)) (resT' (v := (.int .i64 (1))) rfl resN)) (fm_cons (flat_agg S35.enc _) (fm_cons rfl fm_nil))

-- math/bits.TrailingZeros64
def fn58 (n : Nat) (x0 : Int) : Option (Int) := bif decide (x0 = 0) then (some 64) else ((shrO .u64 (IntKind.u64.wrap ((andI .u64 x0 (IntKind.u64.wrap (0 - x0))) * 285870213051353865)) 58).bind fun v4 => (ck 64 v4).bind fun j5 => some (IntKind.i64.wrap (tabN0 j5)))

theorem w58 {call : CallF} (hok : CallOk Mt call) {n : Nat} {H0 : Hp} {x0 : Int} {r : Int} {ro : Nat} (hro : ro ≤ H0.length) (hm : fn58 n x0 = some r) (hG0 : TabH0 H0) :
    Pt Mt ro 58 [(.int .u64 x0)] H0 (.int .i64 (r)) H0 [] := by
  refine pt_new0 okM F58d (by exact Nat.le_of_ble_eq_true rfl) ?_ hro
  intro c hnt hnb hcr
  have hcn : c.ro ≤ c.nb := by omega
  have iv : Iv c.nb [] H0 H0 := by rw [hnb]; exact iv_refl
  rw [show args0 [(.int .u64 x0)] = [(0, (.int .u64 x0))] from rfl]
  rw [fn58] at hm
  simp only [C.f58]
  refine tk_os okM hok fun J hJ => ?_
  simp only [C.f58r0, R, Nat.reduceEqDiff]
  refine hJ _ ?_
  refine tk_seq_k fun K n1 x2 => ?_
  refine tk_os okM hok fun J hJ => ?_
  simp only [C.f58r1, R, Nat.reduceEqDiff]
  refine hJ _ ?_
  refine tk_cond (t := decide (x0 = 0)) rfl (fun g3 => ?_) (fun g3 => ?_)
  · replace hm := cond_t hm g3
    refine tk_os okM hok fun J hJ => ?_
    simp only [C.f58r2, R, Nat.reduceEqDiff]
    refine hJ _ ?_
    refine tk_ret okM ?_
    refine x2 _ _ (by simp) ?_
    obtain rfl := Option.some.inj hm
    exact end_flat (.inl rfl) (vs := [(.int .i64 (64))]) (resT' (v := (.int .i64 (64))) rfl resN) (fm_cons rfl fm_nil)
  · replace hm := cond_f hm g3
    refine tk_skip okM ?_
    refine n1 _ ?_
    refine tk_os okM hok fun J hJ => ?_
    obtain ⟨v4, ev4, hm⟩ := bind_s hm
    obtain ⟨j5, ej5, hm⟩ := bind_s hm
    have a6 := ld_tab (M := Mt) (t := 5) (tabIv0 iv hnb hG0) T.ag5 (tabG0 (ck_lt ej5).1)
    simp only [C.f58r3, R, Nat.reduceEqDiff, ev4, ia100, ej5, a6, cv_int (M := Mt) Tryd.underlying5 Tryd.underlying3]
    refine hJ _ ?_
    refine tk_ret okM ?_
    obtain rfl := Option.some.inj hm
    exact end_flat (.inl rfl) (vs := [(.int .i64 (IntKind.i64.wrap (tabN0 j5)))]) (resT' (v := (.int .i64 (IntKind.i64.wrap (tabN0 j5)))) rfl resN) (fm_cons rfl fm_nil)

-- math/bits.OnesCount64
def fn59 (n : Nat) (x0 : Int) : Option (Int) := (shrO .u64 x0 1).bind fun v1 => (shrO .u64 (IntKind.u64.wrap ((andI .u64 v1 6148914691236517205) + (andI .u64 x0 6148914691236517205))) 2).bind fun v2 => (shrO .u64 (IntKind.u64.wrap ((andI .u64 v2 3689348814741910323) + (andI .u64 (IntKind.u64.wrap ((andI .u64 v1 6148914691236517205) + (andI .u64 x0 6148914691236517205))) 3689348814741910323))) 4).bind fun v3 => (shrO .u64 (andI .u64 (IntKind.u64.wrap (v3 + (IntKind.u64.wrap ((andI .u64 v2 3689348814741910323) + (andI .u64 (IntKind.u64.wrap ((andI .u64 v1 6148914691236517205) + (andI .u64 x0 6148914691236517205))) 3689348814741910323))))) 1085102592571150095) 8).bind fun v4 => (shrO .u64 (IntKind.u64.wrap ((andI .u64 (IntKind.u64.wrap (v3 + (IntKind.u64.wrap ((andI .u64 v2 3689348814741910323) + (andI .u64 (IntKind.u64.wrap ((andI .u64 v1 6148914691236517205) + (andI .u64 x0 6148914691236517205))) 3689348814741910323))))) 1085102592571150095) + v4)) 16).bind fun v5 => (shrO .u64 (IntKind.u64.wrap ((IntKind.u64.wrap ((andI .u64 (IntKind.u64.wrap (v3 + (IntKind.u64.wrap ((andI .u64 v2 3689348814741910323) + (andI .u64 (IntKind.u64.wrap ((andI .u64 v1 6148914691236517205) + (andI .u64 x0 6148914691236517205))) 3689348814741910323))))) 1085102592571150095) + v4)) + v5)) 32).bind fun v6 => some (andI .i64 (IntKind.i64.wrap (IntKind.u64.wrap ((IntKind.u64.wrap ((IntKind.u64.wrap ((andI .u64 (IntKind.u64.wrap (v3 + (IntKind.u64.wrap ((andI .u64 v2 3689348814741910323) + (andI .u64 (IntKind.u64.wrap ((andI .u64 v1 6148914691236517205) + (andI .u64 x0 6148914691236517205))) 3689348814741910323))))) 1085102592571150095) + v4)) + v5)) + v6))) 127)

theorem w59 {call : CallF} (hok : CallOk Mt call) {n : Nat} {H0 : Hp} {x0 : Int} {r : Int} {ro : Nat} (hro : ro ≤ H0.length) (hm : fn59 n x0 = some r) :
    Pt Mt ro 59 [(.int .u64 x0)] H0 (.int .i64 (r)) H0 [] := by
  refine pt_new0 okM F59d (by exact Nat.le_of_ble_eq_true rfl) ?_ hro
  intro c hnt hnb hcr
  have hcn : c.ro ≤ c.nb := by omega
  have iv : Iv c.nb [] H0 H0 := by rw [hnb]; exact iv_refl
  rw [show args0 [(.int .u64 x0)] = [(0, (.int .u64 x0))] from rfl]
  rw [fn59] at hm
  simp only [C.f59]
  refine tk_os okM hok fun J hJ => ?_
  simp only [C.f59r0, R, Nat.reduceEqDiff]
  refine hJ _ ?_
  refine tk_os okM hok fun J hJ => ?_
  obtain ⟨v1, ev1, hm⟩ := bind_s hm
  simp only [C.f59r1, R, Nat.reduceEqDiff, ev1]
  refine hJ _ ?_
  refine tk_os okM hok fun J hJ => ?_
  obtain ⟨v2, ev2, hm⟩ := bind_s hm
  simp only [C.f59r2, R, Nat.reduceEqDiff, ev2]
  refine hJ _ ?_
  refine tk_os okM hok fun J hJ => ?_
  obtain ⟨v3, ev3, hm⟩ := bind_s hm
  simp only [C.f59r3, R, Nat.reduceEqDiff, ev3]
  refine hJ _ ?_
  refine tk_os okM hok fun J hJ => ?_
  obtain ⟨v4, ev4, hm⟩ := bind_s hm
  simp only [C.f59r4, R, Nat.reduceEqDiff, ev4]
  refine hJ _ ?_
  refine tk_os okM hok fun J hJ => ?_
  obtain ⟨v5, ev5, hm⟩ := bind_s hm
  simp only [C.f59r5, R, Nat.reduceEqDiff, ev5]
  refine hJ _ ?_
  refine tk_os okM hok fun J hJ => ?_
  obtain ⟨v6, ev6, hm⟩ := bind_s hm
  simp only [C.f59r6, R, Nat.reduceEqDiff, ev6]
  refine hJ _ ?_
  refine tk_os okM hok fun J hJ => ?_
  simp only [C.f59r7, R, Nat.reduceEqDiff, cv_int (M := Mt) Tryd.underlying33 Tryd.underlying3]
  refine hJ _ ?_
  refine tk_ret okM ?_
  obtain rfl := Option.some.inj hm
  exact end_flat (.inl rfl) (vs := [(.int .i64 (andI .i64 (IntKind.i64.wrap (IntKind.u64.wrap ((IntKind.u64.wrap ((IntKind.u64.wrap ((andI .u64 (IntKind.u64.wrap (v3 + (IntKind.u64.wrap ((andI .u64 v2 3689348814741910323) + (andI .u64 (IntKind.u64.wrap ((andI .u64 v1 6148914691236517205) + (andI .u64 x0 6148914691236517205))) 3689348814741910323))))) 1085102592571150095) + v4)) + v5)) + v6))) 127))]) (resT' (v := (.int .i64 (andI .i64 (IntKind.i64.wrap (IntKind.u64.wrap ((IntKind.u64.wrap ((IntKind.u64.wrap ((andI .u64 (IntKind.u64.wrap (v3 + (IntKind.u64.wrap ((andI .u64 v2 3689348814741910323) + (andI .u64 (IntKind.u64.wrap ((andI .u64 v1 6148914691236517205) + (andI .u64 x0 6148914691236517205))) 3689348814741910323))))) 1085102592571150095) + v4)) + v5)) + v6))) 127))) rfl resN) (fm_cons rfl fm_nil)

-- internal/stringslite.IndexByte
def fn60 (n : Nat) (x0 : ByteArray) (x1 : Int) : Option (Int) := some (ixByte x0 x1)

theorem w60 {call : CallF} (hok : CallOk Mt call) {n : Nat} {H0 : Hp} {x0 : ByteArray} {x1 : Int} {r : Int} {ro : Nat} (hro : ro ≤ H0.length) (hm : fn60 n x0 x1 = some r) :
    Pt Mt ro 60 [(.string x0), (.int .u8 x1)] H0 (.int .i64 (r)) H0 [] := by
  refine pt_new0 okM F60d (by exact Nat.le_of_ble_eq_true rfl) ?_ hro
  intro c hnt hnb hcr
  have hcn : c.ro ≤ c.nb := by omega
  have iv : Iv c.nb [] H0 H0 := by rw [hnb]; exact iv_refl
  rw [show args0 [(.string x0), (.int .u8 x1)] = [(0, (.string x0)), (1, (.int .u8 x1))] from rfl]
  rw [fn60] at hm
  simp only [C.f60]
  refine tk_os okM hok fun J hJ => ?_
  simp only [C.f60r0, R, Nat.reduceEqDiff]
  refine hJ _ ?_
  refine tk_os okM hok fun J hJ => ?_
  simp only [C.f60r1, R, Nat.reduceEqDiff, c_x (show Mt.F 67 = none from rfl), x67]
  refine hJ _ ?_
  refine tk_ret okM ?_
  obtain rfl := Option.some.inj hm
  exact end_flat (.inl rfl) (vs := [(.int .i64 (ixByte x0 x1))]) (resT' (v := (.int .i64 (ixByte x0 x1))) rfl resN) (fm_cons rfl fm_nil)

-- clew/lex.count
def fn61_1 (c52 : T52) (n : Nat) : Nat → ByteArray → Int → Int → Option (Int × Int)
  | 0, _, _, _ => none
  | k + 1, x0_6, x4_7, x5_8 => (bif (decide (x5_8 < ((x0_6.size : Int)))) && (decide (x5_8 < 3)) then ((bt x0_6 x5_8).bind fun v29 => (c52 v29 10).bind fun v31 => some (decide (0 ≤ v31))) else some false).bind fun y32 => bif y32 then ((bt x0_6 x5_8).bind fun v49 => (c52 v49 10).bind fun v51 => fn61_1 c52 n k x0_6 (IntKind.i64.wrap ((IntKind.i64.wrap (x4_7 * 10)) + v51)) (IntKind.i64.wrap (x5_8 + 1))) else (some (x4_7, x5_8))
def fn61 (c52 : T52) (n : Nat) (x0 : ByteArray) : Option (Int × Int) := fn61_1 c52 n n x0 0 0

theorem w61 {call : CallF} (hok : CallOk Mt call) {n : Nat} {c52 : T52} (ha52 : A52 call c52) {H0 : Hp} {x0 : ByteArray} {r : Int × Int} {ro : Nat} (hro : ro ≤ H0.length) (hm : fn61 c52 n x0 = some r) :
    Pt Mt ro 61 [(.string x0)] H0 (.tuple [(.int .i64 (r.1)), (.int .i64 (r.2))].toArray) H0 [] := by
  refine pt_new0 okM F61d (by exact Nat.le_of_ble_eq_true rfl) ?_ hro
  intro c hnt hnb hcr
  have hcn : c.ro ≤ c.nb := by omega
  have iv : Iv c.nb [] H0 H0 := by rw [hnb]; exact iv_refl
  rw [show args0 [(.string x0)] = [(0, (.string x0))] from rfl]
  rw [fn61] at hm
  simp only [C.f61, C.f61b0]
  refine tk_os okM hok fun J hJ => ?_
  simp only [C.f61r0, R, Nat.reduceEqDiff]
  refine hJ _ ?_
  refine tk_os okM hok fun J hJ => ?_
  simp only [C.f61r1, R, Nat.reduceEqDiff]
  refine hJ _ ?_
  refine tk_seq_k fun K n1 x2 => ?_
  refine tk_block_k fun K n3 e4 x5 => ?_
  refine tk_loop_k (n := n) (fun k1 ⟨σ, H, _⟩ => ∃ x0_6 x4_7 x5_8, fn61_1 c52 n k1 x0_6 x4_7 x5_8 = some r ∧ Lk σ 0 (.string x0_6) ∧ Lk σ 4 (.int .i64 x4_7) ∧ Lk σ 5 (.int .i64 x5_8) ∧ Iv c.nb [] H0 H) ?_ ?_ ?_
  · exact ⟨x0, 0, 0, hm, rfl, rfl, rfl, iv⟩
  · rintro ⟨σ, H, d⟩ ⟨_, _, _, hm, _⟩
    cases hm
  · intro k1 K n9 x10
    rintro ⟨σ16, H11, d17⟩ ⟨x0_6, x4_7, x5_8, hm, h12, h13, h14, i15⟩
    rw [fn61_1.eq_2] at hm
    refine tk_seq_k fun K n18 x19 => ?_
    refine tk_os okM hok fun J hJ => ?_
    rw [C.f61r2]
    refine rn_app_k (fun ⟨σ, H, _⟩ => Lk σ 0 (.string (x0_6)) ∧ Lk σ 4 (.int .i64 (x4_7)) ∧ Lk σ 5 (.int .i64 (x5_8)) ∧ Lk σ 13 (.bool ((decide (x5_8 < ((x0_6.size : Int)))) && (decide (x5_8 < 3)))) ∧ Iv c.nb [] H0 H) (fun J hJ => ?_) ?_
    · skip
      cases g26 : decide (x5_8 < ((x0_6.size : Int)))
      · skip
        simp only [C.f61r2p0, R, Nat.reduceEqDiff, h14, h12, len_str (M := Mt) Tryd.underlying9, g26]
        refine hJ _ ?_
        exact ⟨h12, h13, h14, (by first | rfl | (simp only [g26]; rfl) | simp only [g26, Lk, lookS, lookN, Nat.reduceEqDiff, not_false_eq_true, Bool.true_and, Bool.false_and, Bool.true_or, Bool.false_or, cond_true, cond_false]), i15⟩
      · skip
        simp only [C.f61r2p0, R, Nat.reduceEqDiff, h14, h12, len_str (M := Mt) Tryd.underlying9, g26]
        refine hJ _ ?_
        exact ⟨h12, h13, h14, (by first | rfl | (simp only [g26]; rfl) | simp only [g26, Lk, lookS, lookN, Nat.reduceEqDiff, not_false_eq_true, Bool.true_and, Bool.false_and, Bool.true_or, Bool.false_or, cond_true, cond_false]), i15⟩
    rintro ⟨σ27, H20, d28⟩ ⟨h21, h22, h23, h24, i25⟩
    obtain ⟨y32, ey32, hm⟩ := bind_s hm
    refine rn_k (fun ⟨σ, H, _⟩ => Lk σ 0 (.string (x0_6)) ∧ Lk σ 4 (.int .i64 (x4_7)) ∧ Lk σ 5 (.int .i64 (x5_8)) ∧ Lk σ 20 (.bool (y32)) ∧ Iv c.nb [] H0 H) (fun J hJ => ?_) ?_
    · skip
      cases g39 : (decide (x5_8 < ((x0_6.size : Int)))) && (decide (x5_8 < 3))
      · skip
        have ey32 := cond_f ey32 g39
        obtain rfl := Option.some.inj ey32
        simp only [C.f61r2p1, R, Nat.reduceEqDiff, h24, g39]
        refine hJ _ ?_
        exact ⟨h21, h22, h23, (by first | rfl | (simp only [g39]; rfl) | simp only [g39, Lk, lookS, lookN, Nat.reduceEqDiff, not_false_eq_true, Bool.true_and, Bool.false_and, Bool.true_or, Bool.false_or, cond_true, cond_false]), i25⟩
      · skip
        have ey32 := cond_t ey32 g39
        obtain ⟨v40, ev40, ey32⟩ := bind_s ey32
        obtain ⟨v42, ev42, ey32⟩ := bind_s ey32
        have a41 := ha52 c.ro H20 v40 10 v42 ev42
        obtain rfl := Option.some.inj ey32
        simp only [C.f61r2p1, R, Nat.reduceEqDiff, h24, g39, h21, h23, idxP_str (M := Mt) Tryd.underlying9, ev40, c_fn F52, a41]
        refine hJ _ ?_
        exact ⟨h21, h22, h23, (by first | rfl | (simp only [g39]; rfl) | simp only [g39, Lk, lookS, lookN, Nat.reduceEqDiff, not_false_eq_true, Bool.true_and, Bool.false_and, Bool.true_or, Bool.false_or, cond_true, cond_false]), i25⟩
    rintro ⟨σ43, H33, d44⟩ ⟨h34, h35, h36, h37, i38⟩
    refine hJ _ ?_
    refine tk_cond (t := y32) h37 (fun g45 => ?_) (fun g45 => ?_)
    · replace hm := cond_t hm g45
      refine tk_skip okM ?_
      refine n18 _ ?_
      refine tk_block_k fun K n46 e47 x48 => ?_
      refine tk_os okM hok fun J hJ => ?_
      obtain ⟨v49, ev49, hm⟩ := bind_s hm
      obtain ⟨v51, ev51, hm⟩ := bind_s hm
      have a50 := ha52 c.ro H33 v49 10 v51 ev51
      simp only [C.f61r3, R, Nat.reduceEqDiff, h35, h34, h36, idxP_str (M := Mt) Tryd.underlying9, ev49, c_fn F52, a50]
      refine hJ _ ?_
      refine tk_oe okM hok fun J hJ => ?_
      simp only [C.f61r4, R, Nat.reduceEqDiff, h36]
      refine hJ _ ?_
      refine n46 _ ?_
      refine n9 _ ?_
      exact ⟨x0_6, IntKind.i64.wrap ((IntKind.i64.wrap (x4_7 * 10)) + v51), IntKind.i64.wrap (x5_8 + 1), hm, h34, rfl, rfl, i38⟩
    · replace hm := cond_f hm g45
      refine tk_exit okM ?_
      refine x19 _ _ (by simp) ?_
      refine x10 _ _ (by simp) ?_
      refine e4 _ ?_
      refine n1 _ ?_
      refine tk_os okM hok fun J hJ => ?_
      simp only [C.f61r5, R, Nat.reduceEqDiff, h35, h36]
      refine hJ _ ?_
      refine tk_ret okM ?_
      obtain rfl := Option.some.inj hm
      exact end_flat (.inl rfl) (vs := [(.int .i64 (x4_7)), (.int .i64 (x5_8))]) (resT' (v := (.int .i64 (x4_7))) rfl (resT' (v := (.int .i64 (x5_8))) rfl resN)) (fm_cons rfl (fm_cons rfl fm_nil))

-- clew/lex.digits
def fn62 (c20 : T20) (n : Nat) : Option (S35) := (c20 48 57).bind fun v12 => some v12

theorem w62 {call : CallF} (hok : CallOk Mt call) {n : Nat} {c20 : T20} (ha20 : A20 call c20) {H0 : Hp} {r : S35} {ro : Nat} (hro : ro ≤ H0.length) (hm : fn62 c20 n = some r) :
    Pt Mt ro 62 [] H0 (vAgg (S35.c (r))) H0 [] := by
  refine pt_new0 okM F62d (by exact Nat.le_of_ble_eq_true rfl) ?_ hro
  intro c hnt hnb hcr
  have hcn : c.ro ≤ c.nb := by omega
  have iv : Iv c.nb [] H0 H0 := by rw [hnb]; exact iv_refl
  rw [show args0 [] = [] from rfl]
  rw [fn62] at hm
  simp only [C.f62]
  refine tk_os okM hok fun J hJ => ?_
  obtain ⟨b1, H2, a3, f4, q5, r6, x7, i8⟩ := al_ok H0 36 (S35.c S35.zero) iv.le
  have i9 := i8 _ _ iv
  simp only [C.f62r0, R, Nat.reduceEqDiff, zs36, a3]
  refine hJ _ ?_
  refine tk_os okM hok fun J hJ => ?_
  obtain ⟨v12, ev12, hm⟩ := bind_s hm
  have a11 := ha20 c.ro H2 48 57 v12 ev12
  obtain ⟨H13, a14, f15, u16⟩ := st_ok (M := Mt) (t := 36) (v := (vAgg (S35.c (v12)))) (c := S35.c v12) (cs' := S35.c v12) f4 (by rw [S35.enc.len]; exact T.sz36) vAgg_cells (S35.enc.one _) (Nat.le_trans hcn r6) (le0 S35.enc.len) (wrs_all (eqL S35.enc.len))
  have i17 := i9.up u16 r6
  simp only [C.f62r1, R, Nat.reduceEqDiff, c_fn F20, a11, a14]
  refine hJ _ ?_
  refine tk_ret okM ?_
  obtain rfl := Option.some.inj hm
  exact end_flat (.inl rfl) (vs := [(vAgg (S35.c (v12)))]) (resC' (v := (vAgg (S35.c (v12)))) rfl (ldv_of (ld_agg (M := Mt) (t := 36) f15 T.ag36 (by rw [S35.enc.len]; exact T.sz36) Seg.refl)) resN) (fm_cons (flat_agg S35.enc _) fm_nil)

-- clew/lex.words
def fn63 (c17 : T17) (c20 : T20) (c21 : T21) (c62 : T62) (n : Nat) : Option (S35) := (c62).bind fun v12 => (c20 97 122).bind fun v14 => (c21 v12 v14).bind fun v16 => (c20 65 90).bind fun v18 => (c21 v16 v18).bind fun v20 => (c17 95).bind fun v22 => (c21 v20 v22).bind fun v24 => some v24

theorem w63 {call : CallF} (hok : CallOk Mt call) {n : Nat} {c17 : T17} (ha17 : A17 call c17) {c20 : T20} (ha20 : A20 call c20) {c21 : T21} (ha21 : A21 call c21) {c62 : T62} (ha62 : A62 call c62) {H0 : Hp} {r : S35} {ro : Nat} (hro : ro ≤ H0.length) (hm : fn63 c17 c20 c21 c62 n = some r) :
    Pt Mt ro 63 [] H0 (vAgg (S35.c (r))) H0 [] := by
  refine pt_new0 okM F63d (by exact Nat.le_of_ble_eq_true rfl) ?_ hro
  intro c hnt hnb hcr
  have hcn : c.ro ≤ c.nb := by omega
  have iv : Iv c.nb [] H0 H0 := by rw [hnb]; exact iv_refl
  rw [show args0 [] = [] from rfl]
  rw [fn63] at hm
  simp only [C.f63]
  refine tk_os okM hok fun J hJ => ?_
  obtain ⟨b1, H2, a3, f4, q5, r6, x7, i8⟩ := al_ok H0 36 (S35.c S35.zero) iv.le
  have i9 := i8 _ _ iv
  simp only [C.f63r0, R, Nat.reduceEqDiff, zs36, a3]
  refine hJ _ ?_
  refine tk_os okM hok fun J hJ => ?_
  obtain ⟨v12, ev12, hm⟩ := bind_s hm
  have a11 := ha62 c.ro H2  v12 ev12
  obtain ⟨v14, ev14, hm⟩ := bind_s hm
  have a13 := ha20 c.ro H2 97 122 v14 ev14
  obtain ⟨v16, ev16, hm⟩ := bind_s hm
  have a15 := ha21 c.ro H2 v12 v14 v16 ev16
  obtain ⟨v18, ev18, hm⟩ := bind_s hm
  have a17 := ha20 c.ro H2 65 90 v18 ev18
  obtain ⟨v20, ev20, hm⟩ := bind_s hm
  have a19 := ha21 c.ro H2 v16 v18 v20 ev20
  obtain ⟨v22, ev22, hm⟩ := bind_s hm
  have a21 := ha17 c.ro H2 95 v22 ev22
  obtain ⟨v24, ev24, hm⟩ := bind_s hm
  have a23 := ha21 c.ro H2 v20 v22 v24 ev24
  obtain ⟨H25, a26, f27, u28⟩ := st_ok (M := Mt) (t := 36) (v := (vAgg (S35.c (v24)))) (c := S35.c v24) (cs' := S35.c v24) f4 (by rw [S35.enc.len]; exact T.sz36) vAgg_cells (S35.enc.one _) (Nat.le_trans hcn r6) (le0 S35.enc.len) (wrs_all (eqL S35.enc.len))
  have i29 := i9.up u28 r6
  simp only [C.f63r1, R, Nat.reduceEqDiff, c_fn F62, a11, c_fn F20, a13, c_fn F21, a15, a17, a19, c_fn F17, a21, a23, a26]
  refine hJ _ ?_
  refine tk_ret okM ?_
  obtain rfl := Option.some.inj hm
  exact end_flat (.inl rfl) (vs := [(vAgg (S35.c (v24)))]) (resC' (v := (vAgg (S35.c (v24)))) rfl (ldv_of (ld_agg (M := Mt) (t := 36) f27 T.ag36 (by rw [S35.enc.len]; exact T.sz36) Seg.refl)) resN) (fm_cons (flat_agg S35.enc _) fm_nil)

-- clew/lex.spaces
def fn64 (c17 : T17) (c20 : T20) (c21 : T21) (n : Nat) : Option (S35) := (c20 9 13).bind fun v12 => (c17 32).bind fun v14 => (c21 v12 v14).bind fun v16 => some v16

theorem w64 {call : CallF} (hok : CallOk Mt call) {n : Nat} {c17 : T17} (ha17 : A17 call c17) {c20 : T20} (ha20 : A20 call c20) {c21 : T21} (ha21 : A21 call c21) {H0 : Hp} {r : S35} {ro : Nat} (hro : ro ≤ H0.length) (hm : fn64 c17 c20 c21 n = some r) :
    Pt Mt ro 64 [] H0 (vAgg (S35.c (r))) H0 [] := by
  refine pt_new0 okM F64d (by exact Nat.le_of_ble_eq_true rfl) ?_ hro
  intro c hnt hnb hcr
  have hcn : c.ro ≤ c.nb := by omega
  have iv : Iv c.nb [] H0 H0 := by rw [hnb]; exact iv_refl
  rw [show args0 [] = [] from rfl]
  rw [fn64] at hm
  simp only [C.f64]
  refine tk_os okM hok fun J hJ => ?_
  obtain ⟨b1, H2, a3, f4, q5, r6, x7, i8⟩ := al_ok H0 36 (S35.c S35.zero) iv.le
  have i9 := i8 _ _ iv
  simp only [C.f64r0, R, Nat.reduceEqDiff, zs36, a3]
  refine hJ _ ?_
  refine tk_os okM hok fun J hJ => ?_
  obtain ⟨v12, ev12, hm⟩ := bind_s hm
  have a11 := ha20 c.ro H2 9 13 v12 ev12
  obtain ⟨v14, ev14, hm⟩ := bind_s hm
  have a13 := ha17 c.ro H2 32 v14 ev14
  obtain ⟨v16, ev16, hm⟩ := bind_s hm
  have a15 := ha21 c.ro H2 v12 v14 v16 ev16
  obtain ⟨H17, a18, f19, u20⟩ := st_ok (M := Mt) (t := 36) (v := (vAgg (S35.c (v16)))) (c := S35.c v16) (cs' := S35.c v16) f4 (by rw [S35.enc.len]; exact T.sz36) vAgg_cells (S35.enc.one _) (Nat.le_trans hcn r6) (le0 S35.enc.len) (wrs_all (eqL S35.enc.len))
  have i21 := i9.up u20 r6
  simp only [C.f64r1, R, Nat.reduceEqDiff, c_fn F20, a11, c_fn F17, a13, c_fn F21, a15, a18]
  refine hJ _ ?_
  refine tk_ret okM ?_
  obtain rfl := Option.some.inj hm
  exact end_flat (.inl rfl) (vs := [(vAgg (S35.c (v16)))]) (resC' (v := (vAgg (S35.c (v16)))) rfl (ldv_of (ld_agg (M := Mt) (t := 36) f19 T.ag36 (by rw [S35.enc.len]; exact T.sz36) Seg.refl)) resN) (fm_cons (flat_agg S35.enc _) fm_nil)

-- clew/lex.letter
def fn65 (c19 : T19) (c63 : T63) (n : Nat) (x0 : Int) : Option (Bool) := (bif !decide (x0 = 95) then ((c63).bind fun v2 => (c19 v2 x0).bind fun v4 => some v4) else some false).bind fun y5 => some y5

theorem w65 {call : CallF} (hok : CallOk Mt call) {n : Nat} {c19 : T19} (ha19 : A19 call c19) {c63 : T63} (ha63 : A63 call c63) {H0 : Hp} {x0 : Int} {r : Bool} {ro : Nat} (hro : ro ≤ H0.length) (hm : fn65 c19 c63 n x0 = some r) :
    Pt Mt ro 65 [(.int .u8 x0)] H0 (.bool (r)) H0 [] := by
  refine pt_new0 okM F65d (by exact Nat.le_of_ble_eq_true rfl) ?_ hro
  intro c hnt hnb hcr
  have hcn : c.ro ≤ c.nb := by omega
  have iv : Iv c.nb [] H0 H0 := by rw [hnb]; exact iv_refl
  rw [show args0 [(.int .u8 x0)] = [(0, (.int .u8 x0))] from rfl]
  rw [fn65] at hm
  simp only [C.f65]
  refine tk_os okM hok fun J hJ => ?_
  simp only [C.f65r0, R, Nat.reduceEqDiff]
  refine hJ _ ?_
  refine tk_os okM hok fun J hJ => ?_
  rw [C.f65r1]
  obtain ⟨y5, ey5, hm⟩ := bind_s hm
  refine rn_app_k (fun ⟨σ, H, _⟩ => Lk σ 9 (.bool (y5)) ∧ Iv c.nb [] H0 H) (fun J hJ => ?_) ?_
  · skip
    cases g9 : !decide (x0 = 95)
    · skip
      have ey5 := cond_f ey5 g9
      obtain rfl := Option.some.inj ey5
      simp only [C.f65r1p0, R, Nat.reduceEqDiff, g9]
      refine hJ _ ?_
      exact ⟨(by first | rfl | (simp only [g9]; rfl) | simp only [g9, Lk, lookS, lookN, Nat.reduceEqDiff, not_false_eq_true, Bool.true_and, Bool.false_and, Bool.true_or, Bool.false_or, cond_true, cond_false]), iv⟩
    · skip
      have ey5 := cond_t ey5 g9
      obtain ⟨v11, ev11, ey5⟩ := bind_s ey5
      have a10 := ha63 c.ro H0  v11 ev11
      obtain ⟨v13, ev13, ey5⟩ := bind_s ey5
      have a12 := ha19 c.ro H0 v11 x0 v13 ev13
      obtain rfl := Option.some.inj ey5
      simp only [C.f65r1p0, R, Nat.reduceEqDiff, g9, c_fn F63, a10, c_fn F19, a12]
      refine hJ _ ?_
      exact ⟨(by first | rfl | (simp only [g9]; rfl) | simp only [g9, Lk, lookS, lookN, Nat.reduceEqDiff, not_false_eq_true, Bool.true_and, Bool.false_and, Bool.true_or, Bool.false_or, cond_true, cond_false]), iv⟩
  rintro ⟨σ14, H6, d15⟩ ⟨h7, i8⟩
  simp only [C.f65r1p1, R, Nat.reduceEqDiff, h7]
  refine hJ _ ?_
  refine tk_ret okM ?_
  obtain rfl := Option.some.inj hm
  exact end_flat (.inl rfl) (vs := [(.bool (y5))]) (resT' (v := (.bool (y5))) rfl resN) (fm_cons rfl fm_nil)
end Go.Proofs.YtcjnmmeibppblaaDoor
