import Derived.Test.YtcjnmmeibppblaaDoorTeBase
set_option maxRecDepth 100000
set_option linter.unusedVariables false
set_option linter.unusedSimpArgs false
namespace Go.Proofs.YtcjnmmeibppblaaDoor
open Go Go.AM
attribute [local congr] bind_first map_first
def b_lex_item (c_class_One:T_class_One) (c_strings_IndexByte:T_strings_IndexByte) (c_lex_escape:T_lex_escape) (n:Nat) (x0:ByteArray):Option (class_Set × Int):=(bif decide (x0 = ((⟨#[]⟩:ByteArray))) then some true else ((bt x0 0).bind fun v16=>(c_strings_IndexByte ((⟨#[91,93,45]⟩:ByteArray)) v16).bind fun v18=>some (decide (0 ≤ v18)))).bind fun y19=>bif y19 then (some (class_Set.zero,0)) else ((bt x0 0).bind fun v38=>bif decide (v38 = 92) then ((sub x0 1 x0.size).bind fun v40=>(c_lex_escape v40).bind fun v42=>bif decide (v42.2 = 0) then (some (class_Set.zero,0)) else (some (v42.1,IntKind.i64.wrap (v42.2 + 1)))) else ((c_class_One v38).bind fun v77=>some (v77,1)))
theorem w_lex_item {call:CallF} (hok:CallOk Mt call) {n:Nat} {c_class_One:T_class_One} (ha_class_One:A_class_One call c_class_One) {c_strings_IndexByte:T_strings_IndexByte} (ha_strings_IndexByte:A_strings_IndexByte call c_strings_IndexByte) {c_lex_escape:T_lex_escape} (ha_lex_escape:A_lex_escape call c_lex_escape) {H0:Hp} {x0:ByteArray} {r:class_Set × Int} {ro:Nat} (hro:ro ≤ H0.length) (hm:b_lex_item c_class_One c_strings_IndexByte c_lex_escape n x0 = some r) :
  Pt Mt ro 46 [(.string x0)] H0 (.tuple [(vAgg (class_Set.c (r.1))),(.int .i64 (r.2))].toArray) H0 []:=by
 refine pt_new0 okM F46d (by exact Nat.le_of_ble_eq_true rfl) ?_ hro
 intro c hnt hnb hcr
 have hcn:c.ro ≤ c.nb:=by omega
 have iv:Iv c.nb [] H0 H0:=by rw [hnb]; exact iv_refl
 rw [show args0 [(.string x0)] = [(0,(.string x0))] from rfl]
 rw [b_lex_item] at hm
 simp only [C.f46]
 refine tk_os okM hok fun J hJ=>?_
 obtain ⟨b1,H2,a3,f4,q5,r6,x7,i8⟩:=al_ok H0 36 (class_Set.c class_Set.zero) iv.le
 have i9:=i8 _ _ iv
 simp only [C.f46r0,R,Nat.reduceEqDiff,zs36,a3]
 refine hJ _ ?_
 refine tk_seq_k fun K n11 x12=>?_
 refine tk_block_k fun K n13 e14 x15=>?_
 refine tk_os okM hok fun J hJ=>?_
 rw [C.f46r1]
 obtain ⟨y19,ey19,hm⟩:=bind_s hm
 refine rn_app_k (fun ⟨σ,H,_⟩=>Lk σ 0 (.string (x0)) ∧ Lk σ 2 (.pointer (some ⟨b1,0,none⟩)) ∧ Lk σ 14 (.bool (y19)) ∧ H[b1]? = some (.cells (class_Set.c class_Set.zero) 36) ∧ Iv c.nb [] H0 H) (fun J hJ=>?_) ?_
 ·skip
  cases g26:decide (x0 = ((⟨#[]⟩:ByteArray)))
  ·skip
   have ey19:=cond_f ey19 g26
   obtain ⟨v27,ev27,ey19⟩:=bind_s ey19
   obtain ⟨v29,ev29,ey19⟩:=bind_s ey19
   have a28:=ha_strings_IndexByte c.ro H2 ((⟨#[91,93,45]⟩:ByteArray)) v27 v29 ev29
   obtain rfl:=Option.some.inj ey19
   simp only [C.f46r1p0,R,Nat.reduceEqDiff,g26,idxP_str (M:=Mt) Tryd.underlying9,ev27,c_fn F49,a28]
   refine hJ _ ?_
   exact ⟨(by first | rfl | (simp only [g26]; rfl) | simp only [g26,Lk,RB,Nat.reduceEqDiff,not_false_eq_true]),rfl,(by first | rfl | (simp only [g26]; rfl) | simp only [g26,Lk,RB,Nat.reduceEqDiff,not_false_eq_true]),f4,i9⟩
  ·skip
   have ey19:=cond_t ey19 g26
   obtain rfl:=Option.some.inj ey19
   simp only [C.f46r1p0,R,Nat.reduceEqDiff,g26]
   refine hJ _ ?_
   exact ⟨(by first | rfl | (simp only [g26]; rfl) | simp only [g26,Lk,RB,Nat.reduceEqDiff,not_false_eq_true]),rfl,(by first | rfl | (simp only [g26]; rfl) | simp only [g26,Lk,RB,Nat.reduceEqDiff,not_false_eq_true]),f4,i9⟩
 rintro ⟨σ30,H20,d31⟩ ⟨h21,h22,h23,f24,i25⟩
 simp only [C.f46r1p1,R,Nat.reduceEqDiff,h23]
 refine hJ _ ?_
 refine tk_cond (t:=y19) rfl (fun g32=>?_) (fun g32=>?_)
 ·replace hm:=cond_t hm g32
  refine tk_os okM hok fun J hJ=>?_
  obtain ⟨H33,a34,f35,u36⟩:=st_ok (M:=Mt) (t:=36) (v:=(vAgg (class_Set.c (class_Set.zero)))) (c:=class_Set.c class_Set.zero) (cs':=class_Set.c class_Set.zero) f24 (by rw [class_Set.enc.len]; exact T.sz36) vAgg_cells (class_Set.enc.one _) (Nat.le_trans hcn r6) (le0 class_Set.enc.len) (wrs_all (eqL class_Set.enc.len))
  have i37:=i25.up u36 r6
  simp only [C.f46r2,R,Nat.reduceEqDiff,bd36_,a34,h22]
  refine hJ _ ?_
  refine tk_ret okM ?_
  refine x15 _ _ (by simp) (by simp) ?_
  refine x12 _ _ (by simp) ?_
  obtain rfl:=Option.some.inj hm
  exact end_flat (.inl rfl) (vs:=[(vAgg (class_Set.c (class_Set.zero))),(.int .i64 (0))]) (resC' (v:=(vAgg (class_Set.c (class_Set.zero)))) h22 (ldv_of (ld_agg (M:=Mt) (t:=36) f35 T.ag36 (by rw [class_Set.enc.len]; exact T.sz36) Seg.refl)) (resT' (v:=(.int .i64 (0))) rfl resN)) (fm_cons (flat_agg class_Set.enc _) (fm_cons rfl fm_nil))
 ·replace hm:=cond_f hm g32
  refine tk_os okM hok fun J hJ=>?_
  obtain ⟨v38,ev38,hm⟩:=bind_s hm
  simp only [C.f46r3,R,Nat.reduceEqDiff,h21,idxP_str (M:=Mt) Tryd.underlying9,ev38]
  refine hJ _ ?_
  refine tk_cond (t:=decide (v38 = 92)) rfl (fun g39=>?_) (fun g39=>?_)
  ·replace hm:=cond_t hm g39
   refine tk_os okM hok fun J hJ=>?_
   obtain ⟨v40,ev40,hm⟩:=bind_s hm
   obtain ⟨v42,ev42,hm⟩:=bind_s hm
   have a41:=ha_lex_escape c.ro H20 v40 v42 ev42
   obtain ⟨b43,H44,a45,f46,q47,r48,x49,i50⟩:=al_ok H20 36 (class_Set.c class_Set.zero) i25.le
   have i51:=i50 _ _ i25
   have f52:=x49 _ _ f24
   obtain ⟨H54,a55,f56,u57⟩:=st_ok (M:=Mt) (t:=36) (v:=(vAgg (class_Set.c (v42.1)))) (c:=class_Set.c v42.1) (cs':=class_Set.c v42.1) f46 (by rw [class_Set.enc.len]; exact T.sz36) vAgg_cells (class_Set.enc.one _) (Nat.le_trans hcn r48) (le0 class_Set.enc.len) (wrs_all (eqL class_Set.enc.len))
   have i58:=i51.up u57 r48
   have f59:=(u57.get _ (ne_len f24 q47)).trans f52
   simp only [C.f46r4,R,Nat.reduceEqDiff,h21,sl_str (M:=Mt) Tryd.underlying9,ev40,c_fn F53,a41,zs36,a45,a55]
   refine hJ _ ?_
   refine tk_seq_k fun K n60 x61=>?_
   refine tk_os okM hok fun J hJ=>?_
   simp only [C.f46r5,R,Nat.reduceEqDiff]
   refine hJ _ ?_
   refine tk_cond (t:=decide (v42.2 = 0)) rfl (fun g62=>?_) (fun g62=>?_)
   ·replace hm:=cond_t hm g62
    refine tk_os okM hok fun J hJ=>?_
    obtain ⟨H63,a64,f65,u66⟩:=st_ok (M:=Mt) (t:=36) (v:=(vAgg (class_Set.c (class_Set.zero)))) (c:=class_Set.c class_Set.zero) (cs':=class_Set.c class_Set.zero) f59 (by rw [class_Set.enc.len]; exact T.sz36) vAgg_cells (class_Set.enc.one _) (Nat.le_trans hcn r6) (le0 class_Set.enc.len) (wrs_all (eqL class_Set.enc.len))
    have i67:=i58.up u66 r6
    have f68:=(u66.get _ (ne_len f24 q47).symm).trans f56
    simp only [C.f46r6,R,Nat.reduceEqDiff,bd36_,a64,h22]
    refine hJ _ ?_
    refine tk_ret okM ?_
    refine x61 _ _ (by simp) ?_
    refine x15 _ _ (by simp) (by simp) ?_
    refine x12 _ _ (by simp) ?_
    obtain rfl:=Option.some.inj hm
    exact end_flat (.inl rfl) (vs:=[(vAgg (class_Set.c (class_Set.zero))),(.int .i64 (0))]) (resC' (v:=(vAgg (class_Set.c (class_Set.zero)))) h22 (ldv_of (ld_agg (M:=Mt) (t:=36) f65 T.ag36 (by rw [class_Set.enc.len]; exact T.sz36) Seg.refl)) (resT' (v:=(.int .i64 (0))) rfl resN)) (fm_cons (flat_agg class_Set.enc _) (fm_cons rfl fm_nil))
   ·replace hm:=cond_f hm g62
    refine tk_skip okM ?_
    refine n60 _ ?_
    refine tk_os okM hok fun J hJ=>?_
    have a69:=ld_agg (M:=Mt) (t:=36) f56 T.ag36 (by rw [class_Set.enc.len]; exact T.sz36) Seg.refl
    obtain ⟨H70,a71,f72,u73⟩:=st_ok (M:=Mt) (t:=36) (v:=(vAgg (class_Set.c (v42.1)))) (c:=class_Set.c v42.1) (cs':=class_Set.c v42.1) f59 (by rw [class_Set.enc.len]; exact T.sz36) vAgg_cells (class_Set.enc.one _) (Nat.le_trans hcn r6) (le0 class_Set.enc.len) (wrs_all (eqL class_Set.enc.len))
    have i74:=i58.up u73 r6
    have f75:=(u73.get _ (ne_len f24 q47).symm).trans f56
    simp only [C.f46r7,R,Nat.reduceEqDiff,a69,a71,h22]
    refine hJ _ ?_
    refine tk_ret okM ?_
    refine x15 _ _ (by simp) (by simp) ?_
    refine x12 _ _ (by simp) ?_
    obtain rfl:=Option.some.inj hm
    exact end_flat (.inl rfl) (vs:=[(vAgg (class_Set.c (v42.1))),(.int .i64 (IntKind.i64.wrap (v42.2 + 1)))]) (resC' (v:=(vAgg (class_Set.c (v42.1)))) h22 (ldv_of (ld_agg (M:=Mt) (t:=36) f72 T.ag36 (by rw [class_Set.enc.len]; exact T.sz36) Seg.refl)) (resT' (v:=(.int .i64 (IntKind.i64.wrap (v42.2 + 1)))) rfl resN)) (fm_cons (flat_agg class_Set.enc _) (fm_cons rfl fm_nil))
  ·replace hm:=cond_f hm g39
   refine tk_skip okM ?_
   refine n13 _ ?_
   refine n11 _ ?_
   refine tk_os okM hok fun J hJ=>?_
   obtain ⟨v77,ev77,hm⟩:=bind_s hm
   have a76:=ha_class_One c.ro H20 v38 v77 ev77
   obtain ⟨H78,a79,f80,u81⟩:=st_ok (M:=Mt) (t:=36) (v:=(vAgg (class_Set.c (v77)))) (c:=class_Set.c v77) (cs':=class_Set.c v77) f24 (by rw [class_Set.enc.len]; exact T.sz36) vAgg_cells (class_Set.enc.one _) (Nat.le_trans hcn r6) (le0 class_Set.enc.len) (wrs_all (eqL class_Set.enc.len))
   have i82:=i25.up u81 r6
   simp only [C.f46r8,R,Nat.reduceEqDiff,h21,idxP_str (M:=Mt) Tryd.underlying9,ev38,c_fn F17,a76,a79,h22]
   refine hJ _ ?_
   refine tk_ret okM ?_
   obtain rfl:=Option.some.inj hm
   exact end_flat (.inl rfl) (vs:=[(vAgg (class_Set.c (v77))),(.int .i64 (1))]) (resC' (v:=(vAgg (class_Set.c (v77)))) h22 (ldv_of (ld_agg (M:=Mt) (t:=36) f80 T.ag36 (by rw [class_Set.enc.len]; exact T.sz36) Seg.refl)) (resT' (v:=(.int .i64 (1))) rfl resN)) (fm_cons (flat_agg class_Set.enc _) (fm_cons rfl fm_nil))
def b_class_Set_Min_1 (c_bits_TrailingZeros64:T_bits_TrailingZeros64) (n:Nat):Nat → (Arr Int 4) → Int → Option (Int × Bool)
 | 0,_,_=>none
 | k + 1,x7_17,x8_18=>bif decide (x8_18 < 4) then ((ck 4 x8_18).bind fun j35=>bif !decide ((x7_17.nth j35) = 0) then ((c_bits_TrailingZeros64 (x7_17.nth j35)).bind fun v38=>some (IntKind.u8.wrap (IntKind.i64.wrap ((IntKind.i64.wrap (x8_18 * 64)) + v38)),true)) else (b_class_Set_Min_1 c_bits_TrailingZeros64 n k x7_17 (IntKind.i64.wrap (x8_18 + 1)))) else (some (0,false))
def b_class_Set_Min (c_bits_TrailingZeros64:T_bits_TrailingZeros64) (n:Nat) (x0:class_Set):Option (Int × Bool):=b_class_Set_Min_1 c_bits_TrailingZeros64 n n x0.f_W 0
theorem w_class_Set_Min {call:CallF} (hok:CallOk Mt call) {n:Nat} {c_bits_TrailingZeros64:T_bits_TrailingZeros64} (ha_bits_TrailingZeros64:A_bits_TrailingZeros64 call c_bits_TrailingZeros64) {H0:Hp} {x0:class_Set} {r:Int × Bool} {ro:Nat} (hro:ro ≤ H0.length) (hm:b_class_Set_Min c_bits_TrailingZeros64 n x0 = some r) (hG0:TabH0 H0) :
  Pt Mt ro 47 [(vAgg (class_Set.c x0))] H0 (.tuple [(.int .u8 (r.1)),(.bool (r.2))].toArray) H0 []:=by
 refine pt_new0 okM F47d (by exact Nat.le_of_ble_eq_true rfl) ?_ hro
 intro c hnt hnb hcr
 have hcn:c.ro ≤ c.nb:=by omega
 have iv:Iv c.nb [] H0 H0:=by rw [hnb]; exact iv_refl
 rw [show args0 [(vAgg (class_Set.c x0))] = [(0,(vAgg (class_Set.c x0)))] from rfl]
 rw [b_class_Set_Min] at hm
 simp only [C.f47,C.f47b0]
 refine tk_os okM hok fun J hJ=>?_
 obtain ⟨b1,H2,a3,f4,q5,r6,x7,i8⟩:=bx_ok (M:=Mt) (t:=36) (u:=(vAgg (class_Set.c (x0)))) (cs:=class_Set.c x0) H0 iv.le (by rw [class_Set.enc.len]; exact T.sz36) vAgg_cells (class_Set.enc.one _)
 have i9:=i8 _ _ iv
 simp only [C.f47r0,R,Nat.reduceEqDiff,a3]
 refine hJ _ ?_
 refine tk_seq_k fun K n11 x12=>?_
 refine tk_os okM hok fun J hJ=>?_
 have a13:=ld_agg (M:=Mt) (t:=34) f4 T.ag34 (by rw [(enc_arr (n:=4) enc_int).len]; exact T.sz34) (Seg.refl.sub (class_Set.seg0 x0))
 simp only [C.f47r1,R,Nat.reduceEqDiff,fa36_0,a13]
 refine hJ _ ?_
 refine tk_block_k fun K n14 e15 x16=>?_
 refine tk_loop_k (n:=n) (fun k1 ⟨σ,H,_⟩=>∃ x7_17 x8_18,b_class_Set_Min_1 c_bits_TrailingZeros64 n k1 x7_17 x8_18 = some r ∧ Lk σ 7 (vAgg ((cArr (n:=4) (cInt .u64)) x7_17)) ∧ Lk σ 8 (.int .i64 x8_18) ∧ Iv c.nb [] H0 H) ?_ ?_ ?_
 ·exact ⟨x0.f_W,0,hm,rfl,rfl,i9⟩
 ·rintro ⟨σ,H,d⟩ ⟨_,_,hm,_⟩
  cases hm
 ·intro k1 K n19 x20
  rintro ⟨σ25,H21,d26⟩ ⟨x7_17,x8_18,hm,h22,h23,i24⟩
  rw [b_class_Set_Min_1.eq_2] at hm
  refine tk_os okM hok fun J hJ=>?_
  simp only [C.f47r2,R,Nat.reduceEqDiff,h23]
  refine hJ _ ?_
  refine tk_seq_k fun K n27 x28=>?_
  refine tk_cond (t:=decide (x8_18 < 4)) rfl (fun g29=>?_) (fun g29=>?_)
  ·replace hm:=cond_t hm g29
   refine tk_skip okM ?_
   refine n27 _ ?_
   refine tk_seq_k fun K n30 x31=>?_
   refine tk_block_k fun K n32 e33 x34=>?_
   refine tk_os okM hok fun J hJ=>?_
   obtain ⟨j35,ej35,hm⟩:=bind_s hm
   simp only [C.f47r3,R,Nat.reduceEqDiff,h23,ix34,ej35,h22]
   refine hJ _ ?_
   refine tk_os okM hok fun J hJ=>?_
   simp only [C.f47r4,R,Nat.reduceEqDiff]
   refine hJ _ ?_
   refine tk_cond (t:=!decide ((x7_17.nth j35) = 0)) rfl (fun g36=>?_) (fun g36=>?_)
   ·replace hm:=cond_t hm g36
    refine tk_os okM hok fun J hJ=>?_
    obtain ⟨v38,ev38,hm⟩:=bind_s hm
    have a37:=ha_bits_TrailingZeros64 c.ro H21 (x7_17.nth j35) v38 (tabIv0 i24 hnb hG0) ev38
    simp only [C.f47r5,R,Nat.reduceEqDiff,c_fn F58,a37,cv_int (M:=Mt) Tryd.underlying3 Tryd.underlying5]
    refine hJ _ ?_
    refine tk_ret okM ?_
    refine x34 _ _ (by simp) (by simp) ?_
    refine x31 _ _ (by simp) ?_
    refine x20 _ _ (by simp) ?_
    refine x16 _ _ (by simp) (by simp) ?_
    refine x12 _ _ (by simp) ?_
    obtain rfl:=Option.some.inj hm
    exact end_flat (.inl rfl) (vs:=[(.int .u8 (IntKind.u8.wrap (IntKind.i64.wrap ((IntKind.i64.wrap (x8_18 * 64)) + v38)))),(.bool (true))]) (resT' (v:=(.int .u8 (IntKind.u8.wrap (IntKind.i64.wrap ((IntKind.i64.wrap (x8_18 * 64)) + v38))))) rfl (resT' (v:=(.bool (true))) rfl resN)) (fm_cons rfl (fm_cons rfl fm_nil))
   ·replace hm:=cond_f hm g36
    refine tk_skip okM ?_
    refine n32 _ ?_
    refine n30 _ ?_
    refine tk_oe okM hok fun J hJ=>?_
    simp only [C.f47r6,R,Nat.reduceEqDiff,h23]
    refine hJ _ ?_
    refine n19 _ ?_
    exact ⟨x7_17,IntKind.i64.wrap (x8_18 + 1),hm,h22,rfl,i24⟩
  ·replace hm:=cond_f hm g29
   refine tk_exit okM ?_
   refine x28 _ _ (by simp) ?_
   refine x20 _ _ (by simp) ?_
   refine e15 _ ?_
   refine n11 _ ?_
   refine tk_os okM hok fun J hJ=>?_
   simp only [C.f47r7,R,Nat.reduceEqDiff]
   refine hJ _ ?_
   refine tk_ret okM ?_
   obtain rfl:=Option.some.inj hm
   exact end_flat (.inl rfl) (vs:=[(.int .u8 (0)),(.bool (false))]) (resT' (v:=(.int .u8 (0))) rfl (resT' (v:=(.bool (false))) rfl resN)) (fm_cons rfl (fm_cons rfl fm_nil))
def b_class_Set_Len_1 (c_bits_OnesCount64:T_bits_OnesCount64) (n:Nat):Nat → Int → (Arr Int 4) → Int → Option (Int)
 | 0,_,_,_=>none
 | k + 1,x3_17,x7_18,x8_19=>bif decide (x8_19 < 4) then ((ck 4 x8_19).bind fun j37=>(c_bits_OnesCount64 (x7_18.nth j37)).bind fun v39=>b_class_Set_Len_1 c_bits_OnesCount64 n k (IntKind.i64.wrap (x3_17 + v39)) x7_18 (IntKind.i64.wrap (x8_19 + 1))) else (some x3_17)
def b_class_Set_Len (c_bits_OnesCount64:T_bits_OnesCount64) (n:Nat) (x0:class_Set):Option (Int):=b_class_Set_Len_1 c_bits_OnesCount64 n n 0 x0.f_W 0
theorem w_class_Set_Len {call:CallF} (hok:CallOk Mt call) {n:Nat} {c_bits_OnesCount64:T_bits_OnesCount64} (ha_bits_OnesCount64:A_bits_OnesCount64 call c_bits_OnesCount64) {H0:Hp} {x0:class_Set} {r:Int} {ro:Nat} (hro:ro ≤ H0.length) (hm:b_class_Set_Len c_bits_OnesCount64 n x0 = some r) :
  Pt Mt ro 48 [(vAgg (class_Set.c x0))] H0 (.int .i64 (r)) H0 []:=by
 refine pt_new0 okM F48d (by exact Nat.le_of_ble_eq_true rfl) ?_ hro
 intro c hnt hnb hcr
 have hcn:c.ro ≤ c.nb:=by omega
 have iv:Iv c.nb [] H0 H0:=by rw [hnb]; exact iv_refl
 rw [show args0 [(vAgg (class_Set.c x0))] = [(0,(vAgg (class_Set.c x0)))] from rfl]
 rw [b_class_Set_Len] at hm
 simp only [C.f48,C.f48b0]
 refine tk_os okM hok fun J hJ=>?_
 obtain ⟨b1,H2,a3,f4,q5,r6,x7,i8⟩:=bx_ok (M:=Mt) (t:=36) (u:=(vAgg (class_Set.c (x0)))) (cs:=class_Set.c x0) H0 iv.le (by rw [class_Set.enc.len]; exact T.sz36) vAgg_cells (class_Set.enc.one _)
 have i9:=i8 _ _ iv
 simp only [C.f48r0,R,Nat.reduceEqDiff,a3]
 refine hJ _ ?_
 refine tk_os okM hok fun J hJ=>?_
 simp only [C.f48r1,R,Nat.reduceEqDiff]
 refine hJ _ ?_
 refine tk_seq_k fun K n11 x12=>?_
 refine tk_os okM hok fun J hJ=>?_
 have a13:=ld_agg (M:=Mt) (t:=34) f4 T.ag34 (by rw [(enc_arr (n:=4) enc_int).len]; exact T.sz34) (Seg.refl.sub (class_Set.seg0 x0))
 simp only [C.f48r2,R,Nat.reduceEqDiff,fa36_0,a13]
 refine hJ _ ?_
 refine tk_block_k fun K n14 e15 x16=>?_
 refine tk_loop_k (n:=n) (fun k1 ⟨σ,H,_⟩=>∃ x3_17 x7_18 x8_19,b_class_Set_Len_1 c_bits_OnesCount64 n k1 x3_17 x7_18 x8_19 = some r ∧ Lk σ 3 (.int .i64 x3_17) ∧ Lk σ 7 (vAgg ((cArr (n:=4) (cInt .u64)) x7_18)) ∧ Lk σ 8 (.int .i64 x8_19) ∧ Iv c.nb [] H0 H) ?_ ?_ ?_
 ·exact ⟨0,x0.f_W,0,hm,rfl,rfl,rfl,i9⟩
 ·rintro ⟨σ,H,d⟩ ⟨_,_,_,hm,_⟩
  cases hm
 ·intro k1 K n20 x21
  rintro ⟨σ27,H22,d28⟩ ⟨x3_17,x7_18,x8_19,hm,h23,h24,h25,i26⟩
  rw [b_class_Set_Len_1.eq_2] at hm
  refine tk_os okM hok fun J hJ=>?_
  simp only [C.f48r3,R,Nat.reduceEqDiff,h25]
  refine hJ _ ?_
  refine tk_seq_k fun K n29 x30=>?_
  refine tk_cond (t:=decide (x8_19 < 4)) rfl (fun g31=>?_) (fun g31=>?_)
  ·replace hm:=cond_t hm g31
   refine tk_skip okM ?_
   refine n29 _ ?_
   refine tk_seq_k fun K n32 x33=>?_
   refine tk_block_k fun K n34 e35 x36=>?_
   refine tk_os okM hok fun J hJ=>?_
   obtain ⟨j37,ej37,hm⟩:=bind_s hm
   simp only [C.f48r4,R,Nat.reduceEqDiff,ix34,ej37,h24,h25]
   refine hJ _ ?_
   refine tk_oe okM hok fun J hJ=>?_
   obtain ⟨v39,ev39,hm⟩:=bind_s hm
   have a38:=ha_bits_OnesCount64 c.ro H22 (x7_18.nth j37) v39 ev39
   simp only [C.f48r5,R,Nat.reduceEqDiff,h23,c_fn F59,a38]
   refine hJ _ ?_
   refine n34 _ ?_
   refine n32 _ ?_
   refine tk_oe okM hok fun J hJ=>?_
   simp only [C.f48r6,R,Nat.reduceEqDiff,h25]
   refine hJ _ ?_
   refine n20 _ ?_
   exact ⟨IntKind.i64.wrap (x3_17 + v39),x7_18,IntKind.i64.wrap (x8_19 + 1),hm,rfl,h24,rfl,i26⟩
  ·replace hm:=cond_f hm g31
   refine tk_exit okM ?_
   refine x30 _ _ (by simp) ?_
   refine x21 _ _ (by simp) ?_
   refine e15 _ ?_
   refine n11 _ ?_
   refine tk_os okM hok fun J hJ=>?_
   simp only [C.f48r7,R,Nat.reduceEqDiff,h23]
   refine hJ _ ?_
   refine tk_ret okM ?_
   obtain rfl:=Option.some.inj hm
   exact end_flat (.inl rfl) (vs:=[(.int .i64 (x3_17))]) (resT' (v:=(.int .i64 (x3_17))) rfl resN) (fm_cons rfl fm_nil)
def b_strings_IndexByte (c_stringslite_IndexByte:T_stringslite_IndexByte) (n:Nat) (x0:ByteArray) (x1:Int):Option (Int):=(c_stringslite_IndexByte x0 x1).bind fun v2=>some v2
theorem w_strings_IndexByte {call:CallF} (hok:CallOk Mt call) {n:Nat} {c_stringslite_IndexByte:T_stringslite_IndexByte} (ha_stringslite_IndexByte:A_stringslite_IndexByte call c_stringslite_IndexByte) {H0:Hp} {x0:ByteArray} {x1:Int} {r:Int} {ro:Nat} (hro:ro ≤ H0.length) (hm:b_strings_IndexByte c_stringslite_IndexByte n x0 x1 = some r) :
  Pt Mt ro 49 [(.string x0),(.int .u8 x1)] H0 (.int .i64 (r)) H0 []:=by
 refine pt_new0 okM F49d (by exact Nat.le_of_ble_eq_true rfl) ?_ hro
 intro c hnt hnb hcr
 have hcn:c.ro ≤ c.nb:=by omega
 have iv:Iv c.nb [] H0 H0:=by rw [hnb]; exact iv_refl
 rw [show args0 [(.string x0),(.int .u8 x1)] = [(0,(.string x0)),(1,(.int .u8 x1))] from rfl]
 rw [b_strings_IndexByte] at hm
 simp only [C.f49]
 refine tk_os okM hok fun J hJ=>?_
 simp only [C.f49r0,R,Nat.reduceEqDiff]
 refine hJ _ ?_
 refine tk_os okM hok fun J hJ=>?_
 obtain ⟨v2,ev2,hm⟩:=bind_s hm
 have a1:=ha_stringslite_IndexByte c.ro H0 x0 x1 v2 ev2
 simp only [C.f49r1,R,Nat.reduceEqDiff,c_fn F60,a1]
 refine hJ _ ?_
 refine tk_ret okM ?_
 obtain rfl:=Option.some.inj hm
 exact end_flat (.inl rfl) (vs:=[(.int .i64 (v2))]) (resT' (v:=(.int .i64 (v2))) rfl resN) (fm_cons rfl fm_nil)
def b_lex_hasRune_1 (n:Nat):Nat → Int → ByteArray → Nat → Option (Bool)
 | 0,_,_,_=>none
 | k + 1,x1_16,x17,x18=>bif decide (x18 < x17.size) then (bif decide ((((Utf8.decode x17 x18).1:Int)) = x1_16) then (some true) else (b_lex_hasRune_1 n k x1_16 x17 (x18 + (Utf8.decode x17 x18).2))) else (some false)
def b_lex_hasRune (n:Nat) (x0:ByteArray) (x1:Int):Option (Bool):=b_lex_hasRune_1 n n x1 x0 0
theorem w_lex_hasRune {call:CallF} (hok:CallOk Mt call) {n:Nat} {H0:Hp} {x0:ByteArray} {x1:Int} {r:Bool} {ro:Nat} (hro:ro ≤ H0.length) (hm:b_lex_hasRune n x0 x1 = some r) :
  Pt Mt ro 50 [(.string x0),(.int .i32 x1)] H0 (.bool (r)) H0 []:=by
 refine pt_new0 okM F50d (by exact Nat.le_of_ble_eq_true rfl) ?_ hro
 intro c hnt hnb hcr
 have hcn:c.ro ≤ c.nb:=by omega
 have iv:Iv c.nb [] H0 H0:=by rw [hnb]; exact iv_refl
 rw [show args0 [(.string x0),(.int .i32 x1)] = [(0,(.string x0)),(1,(.int .i32 x1))] from rfl]
 rw [b_lex_hasRune] at hm
 simp only [C.f50,C.f50b0]
 refine tk_os okM hok fun J hJ=>?_
 simp only [C.f50r0,R,Nat.reduceEqDiff]
 refine hJ _ ?_
 refine tk_seq_k fun K n1 x2=>?_
 refine tk_os okM hok fun J hJ=>?_
 obtain ⟨b3,H4,a5,f6,q7,r8,x9,i10⟩:=rg_ok (M:=Mt) (t:=9) H0 x0 iv.le Tryd.underlying9
 have i11:=i10 _ _ iv
 simp only [C.f50r1,R,Nat.reduceEqDiff,a5]
 refine hJ _ ?_
 refine tk_block_k fun K n13 e14 x15=>?_
 refine tk_loop_k (n:=n) (fun k1 ⟨σ,H,_⟩=>∃ x1_16 x17 x18,b_lex_hasRune_1 n k1 x1_16 x17 x18 = some r ∧ Lk σ 1 (.int .i32 x1_16) ∧ Lk σ 8 (.pointer (some ⟨b3,0,none⟩)) ∧ H[b3]? = some (.iter x17 x18) ∧ Iv c.nb [] H0 H) ?_ ?_ ?_
 ·exact ⟨x1,x0,0,hm,rfl,rfl,f6,i11⟩
 ·rintro ⟨σ,H,d⟩ ⟨_,_,_,hm,_⟩
  cases hm
 ·intro k1 K n19 x20
  rintro ⟨σ26,H21,d27⟩ ⟨x1_16,x17,x18,hm,h22,h23,f24,i25⟩
  rw [b_lex_hasRune_1.eq_2] at hm
  cases g28:decide (x18 < x17.size)
  ·replace hm:=cond_f hm g28
   refine tk_os okM hok fun J hJ=>?_
   have a29:=nx_f (M:=Mt) f24 (Nat.le_trans hcn r8) g28
   simp only [C.f50r2,R,Nat.reduceEqDiff,a29,h23]
   refine hJ _ ?_
   refine tk_seq_k fun K n30 x31=>?_
   refine tk_cond_f rfl ?_
   refine tk_exit okM ?_
   refine x31 _ _ (by simp) ?_
   refine x20 _ _ (by simp) ?_
   refine e14 _ ?_
   refine n1 _ ?_
   refine tk_os okM hok fun J hJ=>?_
   simp only [C.f50r6,R,Nat.reduceEqDiff]
   refine hJ _ ?_
   refine tk_ret okM ?_
   obtain rfl:=Option.some.inj hm
   exact end_flat (.inl rfl) (vs:=[(.bool (false))]) (resT' (v:=(.bool (false))) rfl resN) (fm_cons rfl fm_nil)
  ·replace hm:=cond_t hm g28
   refine tk_os okM hok fun J hJ=>?_
   obtain ⟨H32,a33,f34,u35⟩:=nx_t (M:=Mt) f24 (Nat.le_trans hcn r8) g28
   have i36:=i25.up u35 r8
   simp only [C.f50r2,R,Nat.reduceEqDiff,a33,h23]
   refine hJ _ ?_
   refine tk_seq_k fun K n37 x38=>?_
   refine tk_cond_t rfl ?_
   refine tk_skip okM ?_
   refine n37 _ ?_
   refine tk_block_k fun K n39 e40 x41=>?_
   refine tk_os okM hok fun J hJ=>?_
   simp only [C.f50r3,R,Nat.reduceEqDiff]
   refine hJ _ ?_
   refine tk_os okM hok fun J hJ=>?_
   simp only [C.f50r4,R,Nat.reduceEqDiff,h22]
   refine hJ _ ?_
   refine tk_cond (t:=decide ((((Utf8.decode x17 x18).1:Int)) = x1_16)) rfl (fun g42=>?_) (fun g42=>?_)
   ·replace hm:=cond_t hm g42
    refine tk_os okM hok fun J hJ=>?_
    simp only [C.f50r5,R,Nat.reduceEqDiff]
    refine hJ _ ?_
    refine tk_ret okM ?_
    refine x41 _ _ (by simp) (by simp) ?_
    refine x20 _ _ (by simp) ?_
    refine x15 _ _ (by simp) (by simp) ?_
    refine x2 _ _ (by simp) ?_
    obtain rfl:=Option.some.inj hm
    exact end_flat (.inl rfl) (vs:=[(.bool (true))]) (resT' (v:=(.bool (true))) rfl resN) (fm_cons rfl fm_nil)
   ·replace hm:=cond_f hm g42
    refine tk_skip okM ?_
    refine n39 _ ?_
    refine n19 _ ?_
    exact ⟨x1_16,x17,x18 + (Utf8.decode x17 x18).2,hm,h22,h23,f34,i36⟩
def b_lex_counted_1 (c_lex_count:T_lex_count) (n:Nat) (x0_4:ByteArray) (x5_5:Int) (x6_6:Int) (x7_7:Int) (x8_8:Int):Option (Int × Int × Int):=(bif (decide (x6_6 = 0)) || (decide (((x0_4.size:Int)) ≤ x7_7)) then some true else ((bt x0_4 x7_7).bind fun v30=>some (!decide (v30 = 125)))).bind fun y31=>bif y31 then (some (0,0,0)) else (some (x5_5,x8_8,IntKind.i64.wrap (x7_7 + 1)))
def b_lex_counted (c_lex_count:T_lex_count) (n:Nat) (x0:ByteArray):Option (Int × Int × Int):=(sub x0 1 x0.size).bind fun v1=>(c_lex_count v1).bind fun v3=>(bif (decide (0 < v3.2)) && (decide ((IntKind.i64.wrap (1 + v3.2)) < ((x0.size:Int)))) then ((bt x0 (IntKind.i64.wrap (1 + v3.2))).bind fun v56=>some (decide (v56 = 44))) else some false).bind fun y57=>bif y57 then ((sub x0 (IntKind.i64.wrap ((IntKind.i64.wrap (1 + v3.2)) + 1)) x0.size).bind fun v71=>(c_lex_count v71).bind fun v73=>bif decide (v73.2 = 0) then (b_lex_counted_1 c_lex_count n x0 v3.1 v3.2 (IntKind.i64.wrap ((IntKind.i64.wrap ((IntKind.i64.wrap (1 + v3.2)) + 1)) + v73.2)) ((-1))) else (b_lex_counted_1 c_lex_count n x0 v3.1 v3.2 (IntKind.i64.wrap ((IntKind.i64.wrap ((IntKind.i64.wrap (1 + v3.2)) + 1)) + v73.2)) v73.1)) else (b_lex_counted_1 c_lex_count n x0 v3.1 v3.2 (IntKind.i64.wrap (1 + v3.2)) v3.1)
theorem w_lex_counted {call:CallF} (hok:CallOk Mt call) {n:Nat} {c_lex_count:T_lex_count} (ha_lex_count:A_lex_count call c_lex_count) {H0:Hp} {x0:ByteArray} {r:Int × Int × Int} {ro:Nat} (hro:ro ≤ H0.length) (hm:b_lex_counted c_lex_count n x0 = some r) :
  Pt Mt ro 51 [(.string x0)] H0 (.tuple [(.int .i64 (r.1)),(.int .i64 (r.2.1)),(.int .i64 (r.2.2))].toArray) H0 []:=by
 refine pt_new0 okM F51d (by exact Nat.le_of_ble_eq_true rfl) ?_ hro
 intro c hnt hnb hcr
 have hcn:c.ro ≤ c.nb:=by omega
 have iv:Iv c.nb [] H0 H0:=by rw [hnb]; exact iv_refl
 rw [show args0 [(.string x0)] = [(0,(.string x0))] from rfl]
 rw [b_lex_counted] at hm
 simp only [C.f51]
 refine tk_os okM hok fun J hJ=>?_
 simp only [C.f51r0,R,Nat.reduceEqDiff]
 refine hJ _ ?_
 refine tk_os okM hok fun J hJ=>?_
 obtain ⟨v1,ev1,hm⟩:=bind_s hm
 obtain ⟨v3,ev3,hm⟩:=bind_s hm
 have a2:=ha_lex_count c.ro H0 v1 v3 ev3
 simp only [C.f51r1,R,Nat.reduceEqDiff,sl_str (M:=Mt) Tryd.underlying9,ev1,c_fn F61,a2]
 refine hJ _ ?_
 refine tk_os okM hok fun J hJ=>?_
 simp only [C.f51r2,R,Nat.reduceEqDiff]
 refine hJ _ ?_
 refine tk_os okM hok fun J hJ=>?_
 simp only [C.f51r3,R,Nat.reduceEqDiff]
 refine hJ _ ?_
 refine tk_seq_j (fun ⟨σ,H,_⟩=>∃ x0_4 x5_5 x6_6 x7_7 x8_8,b_lex_counted_1 c_lex_count n x0_4 x5_5 x6_6 x7_7 x8_8 = some r ∧ Lk σ 0 (.string x0_4) ∧ Lk σ 5 (.int .i64 x5_5) ∧ Lk σ 6 (.int .i64 x6_6) ∧ Lk σ 7 (.int .i64 x7_7) ∧ Lk σ 8 (.int .i64 x8_8) ∧ Iv c.nb [] H0 H) ?_ ?_
 ·skip
  rintro ⟨σ16,H9,d17⟩ ⟨x0_4,x5_5,x6_6,x7_7,x8_8,hm,h10,h11,h12,h13,h14,i15⟩
  rw [b_lex_counted_1] at hm
  refine tk_seq_k fun K n18 x19=>?_
  refine tk_os okM hok fun J hJ=>?_
  rw [C.f51r11]
  refine rn_app_k (fun ⟨σ,H,_⟩=>Lk σ 0 (.string (x0_4)) ∧ Lk σ 5 (.int .i64 (x5_5)) ∧ Lk σ 7 (.int .i64 (x7_7)) ∧ Lk σ 8 (.int .i64 (x8_8)) ∧ Lk σ 54 (.bool ((decide (x6_6 = 0)) || (decide (((x0_4.size:Int)) ≤ x7_7)))) ∧ Iv c.nb [] H0 H) (fun J hJ=>?_) ?_
  ·skip
   cases g27:decide (x6_6 = 0)
   ·skip
    simp only [C.f51r11p0,R,Nat.reduceEqDiff,h12,g27,h13,h10,len_str (M:=Mt) Tryd.underlying9]
    refine hJ _ ?_
    exact ⟨h10,h11,h13,h14,(by first | rfl | (simp only [g27]; rfl) | simp only [g27,Lk,RB,Nat.reduceEqDiff,not_false_eq_true]),i15⟩
   ·skip
    simp only [C.f51r11p0,R,Nat.reduceEqDiff,h12,g27]
    refine hJ _ ?_
    exact ⟨h10,h11,h13,h14,(by first | rfl | (simp only [g27]; rfl) | simp only [g27,Lk,RB,Nat.reduceEqDiff,not_false_eq_true]),i15⟩
  rintro ⟨σ28,H20,d29⟩ ⟨h21,h22,h23,h24,h25,i26⟩
  obtain ⟨y31,ey31,hm⟩:=bind_s hm
  refine rn_k (fun ⟨σ,H,_⟩=>Lk σ 5 (.int .i64 (x5_5)) ∧ Lk σ 7 (.int .i64 (x7_7)) ∧ Lk σ 8 (.int .i64 (x8_8)) ∧ Lk σ 60 (.bool (y31)) ∧ Iv c.nb [] H0 H) (fun J hJ=>?_) ?_
  ·skip
   cases g38:(decide (x6_6 = 0)) || (decide (((x0_4.size:Int)) ≤ x7_7))
   ·skip
    have ey31:=cond_f ey31 g38
    obtain ⟨v39,ev39,ey31⟩:=bind_s ey31
    obtain rfl:=Option.some.inj ey31
    simp only [C.f51r11p1,R,Nat.reduceEqDiff,h25,g38,h21,h23,idxP_str (M:=Mt) Tryd.underlying9,ev39]
    refine hJ _ ?_
    exact ⟨h22,h23,h24,(by first | rfl | (simp only [g38]; rfl) | simp only [g38,Lk,RB,Nat.reduceEqDiff,not_false_eq_true]),i26⟩
   ·skip
    have ey31:=cond_t ey31 g38
    obtain rfl:=Option.some.inj ey31
    simp only [C.f51r11p1,R,Nat.reduceEqDiff,h25,g38]
    refine hJ _ ?_
    exact ⟨h22,h23,h24,(by first | rfl | (simp only [g38]; rfl) | simp only [g38,Lk,RB,Nat.reduceEqDiff,not_false_eq_true]),i26⟩
  rintro ⟨σ40,H32,d41⟩ ⟨h33,h34,h35,h36,i37⟩
  refine hJ _ ?_
  refine tk_cond (t:=y31) h36 (fun g42=>?_) (fun g42=>?_)
  ·replace hm:=cond_t hm g42
   refine tk_os okM hok fun J hJ=>?_
   simp only [C.f51r12,R,Nat.reduceEqDiff]
   refine hJ _ ?_
   refine tk_ret okM ?_
   refine x19 _ _ (by simp) ?_
   obtain rfl:=Option.some.inj hm
   exact end_flat (.inl rfl) (vs:=[(.int .i64 (0)),(.int .i64 (0)),(.int .i64 (0))]) (resT' (v:=(.int .i64 (0))) rfl (resT' (v:=(.int .i64 (0))) rfl (resT' (v:=(.int .i64 (0))) rfl resN))) (fm_cons rfl (fm_cons rfl (fm_cons rfl fm_nil)))
  ·replace hm:=cond_f hm g42
   refine tk_skip okM ?_
   refine n18 _ ?_
   refine tk_os okM hok fun J hJ=>?_
   simp only [C.f51r13,R,Nat.reduceEqDiff,h33,h35,h34]
   refine hJ _ ?_
   refine tk_ret okM ?_
   obtain rfl:=Option.some.inj hm
   exact end_flat (.inl rfl) (vs:=[(.int .i64 (x5_5)),(.int .i64 (x8_8)),(.int .i64 (IntKind.i64.wrap (x7_7 + 1)))]) (resT' (v:=(.int .i64 (x5_5))) rfl (resT' (v:=(.int .i64 (x8_8))) rfl (resT' (v:=(.int .i64 (IntKind.i64.wrap (x7_7 + 1)))) rfl resN))) (fm_cons rfl (fm_cons rfl (fm_cons rfl fm_nil)))
 ·refine fun K n43 x44=>?_
  refine tk_os okM hok fun J hJ=>?_
  rw [C.f51r4]
  refine rn_app_k (fun ⟨σ,H,_⟩=>Lk σ 0 (.string (x0)) ∧ Lk σ 5 (.int .i64 (v3.1)) ∧ Lk σ 6 (.int .i64 (v3.2)) ∧ Lk σ 7 (.int .i64 (IntKind.i64.wrap (1 + v3.2))) ∧ Lk σ 8 (.int .i64 (v3.1)) ∧ Lk σ 26 (.bool ((decide (0 < v3.2)) && (decide ((IntKind.i64.wrap (1 + v3.2)) < ((x0.size:Int)))))) ∧ Iv c.nb [] H0 H) (fun J hJ=>?_) ?_
  ·skip
   cases g53:decide (0 < v3.2)
   ·skip
    simp only [C.f51r4p0,R,Nat.reduceEqDiff,g53]
    refine hJ _ ?_
    exact ⟨(by first | rfl | (simp only [g53]; rfl) | simp only [g53,Lk,RB,Nat.reduceEqDiff,not_false_eq_true]),(by first | rfl | (simp only [g53]; rfl) | simp only [g53,Lk,RB,Nat.reduceEqDiff,not_false_eq_true]),(by first | rfl | (simp only [g53]; rfl) | simp only [g53,Lk,RB,Nat.reduceEqDiff,not_false_eq_true]),(by first | rfl | (simp only [g53]; rfl) | simp only [g53,Lk,RB,Nat.reduceEqDiff,not_false_eq_true]),(by first | rfl | (simp only [g53]; rfl) | simp only [g53,Lk,RB,Nat.reduceEqDiff,not_false_eq_true]),(by first | rfl | (simp only [g53]; rfl) | simp only [g53,Lk,RB,Nat.reduceEqDiff,not_false_eq_true]),iv⟩
   ·skip
    simp only [C.f51r4p0,R,Nat.reduceEqDiff,g53,len_str (M:=Mt) Tryd.underlying9]
    refine hJ _ ?_
    exact ⟨(by first | rfl | (simp only [g53]; rfl) | simp only [g53,Lk,RB,Nat.reduceEqDiff,not_false_eq_true]),(by first | rfl | (simp only [g53]; rfl) | simp only [g53,Lk,RB,Nat.reduceEqDiff,not_false_eq_true]),(by first | rfl | (simp only [g53]; rfl) | simp only [g53,Lk,RB,Nat.reduceEqDiff,not_false_eq_true]),(by first | rfl | (simp only [g53]; rfl) | simp only [g53,Lk,RB,Nat.reduceEqDiff,not_false_eq_true]),(by first | rfl | (simp only [g53]; rfl) | simp only [g53,Lk,RB,Nat.reduceEqDiff,not_false_eq_true]),(by first | rfl | (simp only [g53]; rfl) | simp only [g53,Lk,RB,Nat.reduceEqDiff,not_false_eq_true]),iv⟩
  rintro ⟨σ54,H45,d55⟩ ⟨h46,h47,h48,h49,h50,h51,i52⟩
  obtain ⟨y57,ey57,hm⟩:=bind_s hm
  refine rn_k (fun ⟨σ,H,_⟩=>Lk σ 0 (.string (x0)) ∧ Lk σ 5 (.int .i64 (v3.1)) ∧ Lk σ 6 (.int .i64 (v3.2)) ∧ Lk σ 7 (.int .i64 (IntKind.i64.wrap (1 + v3.2))) ∧ Lk σ 8 (.int .i64 (v3.1)) ∧ Lk σ 32 (.bool (y57)) ∧ Iv c.nb [] H0 H) (fun J hJ=>?_) ?_
  ·skip
   cases g66:(decide (0 < v3.2)) && (decide ((IntKind.i64.wrap (1 + v3.2)) < ((x0.size:Int))))
   ·skip
    have ey57:=cond_f ey57 g66
    obtain rfl:=Option.some.inj ey57
    simp only [C.f51r4p1,R,Nat.reduceEqDiff,h51,g66]
    refine hJ _ ?_
    exact ⟨h46,h47,h48,h49,h50,(by first | rfl | (simp only [g66]; rfl) | simp only [g66,Lk,RB,Nat.reduceEqDiff,not_false_eq_true]),i52⟩
   ·skip
    have ey57:=cond_t ey57 g66
    obtain ⟨v67,ev67,ey57⟩:=bind_s ey57
    obtain rfl:=Option.some.inj ey57
    simp only [C.f51r4p1,R,Nat.reduceEqDiff,h51,g66,h46,h49,idxP_str (M:=Mt) Tryd.underlying9,ev67]
    refine hJ _ ?_
    exact ⟨h46,h47,h48,h49,h50,(by first | rfl | (simp only [g66]; rfl) | simp only [g66,Lk,RB,Nat.reduceEqDiff,not_false_eq_true]),i52⟩
  rintro ⟨σ68,H58,d69⟩ ⟨h59,h60,h61,h62,h63,h64,i65⟩
  refine hJ _ ?_
  refine tk_cond (t:=y57) h64 (fun g70=>?_) (fun g70=>?_)
  ·replace hm:=cond_t hm g70
   refine tk_os okM hok fun J hJ=>?_
   simp only [C.f51r5,R,Nat.reduceEqDiff,h62]
   refine hJ _ ?_
   refine tk_os okM hok fun J hJ=>?_
   simp only [C.f51r6,R,Nat.reduceEqDiff]
   refine hJ _ ?_
   refine tk_os okM hok fun J hJ=>?_
   obtain ⟨v71,ev71,hm⟩:=bind_s hm
   obtain ⟨v73,ev73,hm⟩:=bind_s hm
   have a72:=ha_lex_count c.ro H58 v71 v73 ev73
   simp only [C.f51r7,R,Nat.reduceEqDiff,h59,sl_str (M:=Mt) Tryd.underlying9,ev71,c_fn F61,a72]
   refine hJ _ ?_
   refine tk_os okM hok fun J hJ=>?_
   simp only [C.f51r8,R,Nat.reduceEqDiff]
   refine hJ _ ?_
   refine tk_os okM hok fun J hJ=>?_
   simp only [C.f51r9,R,Nat.reduceEqDiff]
   refine hJ _ ?_
   refine tk_cond (t:=decide (v73.2 = 0)) rfl (fun g74=>?_) (fun g74=>?_)
   ·replace hm:=cond_t hm g74
    refine tk_oe okM hok fun J hJ=>?_
    simp only [C.f51r10,R,Nat.reduceEqDiff]
    refine hJ _ ?_
    refine n43 _ ?_
    exact ⟨x0,v3.1,v3.2,IntKind.i64.wrap ((IntKind.i64.wrap ((IntKind.i64.wrap (1 + v3.2)) + 1)) + v73.2),(-1),hm,h59,h60,h61,rfl,rfl,i65⟩
   ·replace hm:=cond_f hm g74
    refine tk_skip okM ?_
    refine n43 _ ?_
    exact ⟨x0,v3.1,v3.2,IntKind.i64.wrap ((IntKind.i64.wrap ((IntKind.i64.wrap (1 + v3.2)) + 1)) + v73.2),v73.1,hm,h59,h60,h61,rfl,rfl,i65⟩
  ·replace hm:=cond_f hm g70
   refine tk_skip okM ?_
   refine n43 _ ?_
   exact ⟨x0,v3.1,v3.2,IntKind.i64.wrap (1 + v3.2),v3.1,hm,h59,h60,h61,h62,h63,i65⟩
def b_lex_digit_1 (n:Nat) (x1_1:Int) (x5_2:Int):Option (Int):=bif decide (x1_1 ≤ x5_2) then (some ((-1))) else (some x5_2)
def b_lex_digit (n:Nat) (x0:Int) (x1:Int):Option (Int):=bif (decide (48 ≤ x0)) && (decide (x0 ≤ 57)) then (b_lex_digit_1 n x1 (IntKind.i64.wrap (IntKind.u8.wrap (x0 - 48)))) else (bif (decide (97 ≤ x0)) && (decide (x0 ≤ 102)) then (b_lex_digit_1 n x1 (IntKind.i64.wrap ((IntKind.i64.wrap (IntKind.u8.wrap (x0 - 97))) + 10))) else (bif (decide (65 ≤ x0)) && (decide (x0 ≤ 70)) then (b_lex_digit_1 n x1 (IntKind.i64.wrap ((IntKind.i64.wrap (IntKind.u8.wrap (x0 - 65))) + 10))) else (b_lex_digit_1 n x1 ((-1)))))
theorem w_lex_digit {call:CallF} (hok:CallOk Mt call) {n:Nat} {H0:Hp} {x0:Int} {x1:Int} {r:Int} {ro:Nat} (hro:ro ≤ H0.length) (hm:b_lex_digit n x0 x1 = some r) :
  Pt Mt ro 52 [(.int .u8 x0),(.int .i64 x1)] H0 (.int .i64 (r)) H0 []:=by
 refine pt_new0 okM F52d (by exact Nat.le_of_ble_eq_true rfl) ?_ hro
 intro c hnt hnb hcr
 have hcn:c.ro ≤ c.nb:=by omega
 have iv:Iv c.nb [] H0 H0:=by rw [hnb]; exact iv_refl
 rw [show args0 [(.int .u8 x0),(.int .i64 x1)] = [(0,(.int .u8 x0)),(1,(.int .i64 x1))] from rfl]
 rw [b_lex_digit] at hm
 simp only [C.f52]
 refine tk_os okM hok fun J hJ=>?_
 simp only [C.f52r0,R,Nat.reduceEqDiff]
 refine hJ _ ?_
 refine tk_os okM hok fun J hJ=>?_
 simp only [C.f52r1,R,Nat.reduceEqDiff]
 refine hJ _ ?_
 refine tk_seq_j (fun ⟨σ,H,_⟩=>∃ x1_1 x5_2,b_lex_digit_1 n x1_1 x5_2 = some r ∧ Lk σ 1 (.int .i64 x1_1) ∧ Lk σ 5 (.int .i64 x5_2) ∧ Iv c.nb [] H0 H) ?_ ?_
 ·skip
  rintro ⟨σ7,H3,d8⟩ ⟨x1_1,x5_2,hm,h4,h5,i6⟩
  rw [b_lex_digit_1] at hm
  refine tk_seq_k fun K n9 x10=>?_
  refine tk_os okM hok fun J hJ=>?_
  simp only [C.f52r8,R,Nat.reduceEqDiff,h5,h4]
  refine hJ _ ?_
  refine tk_cond (t:=decide (x1_1 ≤ x5_2)) rfl (fun g11=>?_) (fun g11=>?_)
  ·replace hm:=cond_t hm g11
   refine tk_os okM hok fun J hJ=>?_
   simp only [C.f52r9,R,Nat.reduceEqDiff]
   refine hJ _ ?_
   refine tk_ret okM ?_
   refine x10 _ _ (by simp) ?_
   obtain rfl:=Option.some.inj hm
   exact end_flat (.inl rfl) (vs:=[(.int .i64 ((-1)))]) (resT' (v:=(.int .i64 ((-1)))) rfl resN) (fm_cons rfl fm_nil)
  ·replace hm:=cond_f hm g11
   refine tk_skip okM ?_
   refine n9 _ ?_
   refine tk_os okM hok fun J hJ=>?_
   simp only [C.f52r10,R,Nat.reduceEqDiff,h5]
   refine hJ _ ?_
   refine tk_ret okM ?_
   obtain rfl:=Option.some.inj hm
   exact end_flat (.inl rfl) (vs:=[(.int .i64 (x5_2))]) (resT' (v:=(.int .i64 (x5_2))) rfl resN) (fm_cons rfl fm_nil)
 ·refine fun K n12 x13=>?_
  refine tk_block_k fun K n14 e15 x16=>?_
  refine tk_os okM hok fun J hJ=>?_
  rw [C.f52r2]
  refine rn_app_k (fun ⟨σ,H,_⟩=>Lk σ 0 (.int .u8 (x0)) ∧ Lk σ 1 (.int .i64 (x1)) ∧ Lk σ 5 (.int .i64 ((-1))) ∧ Lk σ 12 (.bool ((decide (48 ≤ x0)) && (decide (x0 ≤ 57)))) ∧ Iv c.nb [] H0 H) (fun J hJ=>?_) ?_
  ·skip
   cases g23:decide (48 ≤ x0)
   ·skip
    simp only [C.f52r2p0,R,Nat.reduceEqDiff,g23]
    refine hJ _ ?_
    exact ⟨(by first | rfl | (simp only [g23]; rfl) | simp only [g23,Lk,RB,Nat.reduceEqDiff,not_false_eq_true]),(by first | rfl | (simp only [g23]; rfl) | simp only [g23,Lk,RB,Nat.reduceEqDiff,not_false_eq_true]),(by first | rfl | (simp only [g23]; rfl) | simp only [g23,Lk,RB,Nat.reduceEqDiff,not_false_eq_true]),(by first | rfl | (simp only [g23]; rfl) | simp only [g23,Lk,RB,Nat.reduceEqDiff,not_false_eq_true]),iv⟩
   ·skip
    simp only [C.f52r2p0,R,Nat.reduceEqDiff,g23]
    refine hJ _ ?_
    exact ⟨(by first | rfl | (simp only [g23]; rfl) | simp only [g23,Lk,RB,Nat.reduceEqDiff,not_false_eq_true]),(by first | rfl | (simp only [g23]; rfl) | simp only [g23,Lk,RB,Nat.reduceEqDiff,not_false_eq_true]),(by first | rfl | (simp only [g23]; rfl) | simp only [g23,Lk,RB,Nat.reduceEqDiff,not_false_eq_true]),(by first | rfl | (simp only [g23]; rfl) | simp only [g23,Lk,RB,Nat.reduceEqDiff,not_false_eq_true]),iv⟩
  rintro ⟨σ24,H17,d25⟩ ⟨h18,h19,h20,h21,i22⟩
  simp only [C.f52r2p1,R,Nat.reduceEqDiff,h21]
  refine hJ _ ?_
  refine tk_cond (t:=(decide (48 ≤ x0)) && (decide (x0 ≤ 57))) rfl (fun g26=>?_) (fun g26=>?_)
  ·replace hm:=cond_t hm g26
   refine tk_oe okM hok fun J hJ=>?_
   simp only [C.f52r3,R,Nat.reduceEqDiff,h18,cv_int (M:=Mt) Tryd.underlying5 Tryd.underlying3]
   refine hJ _ ?_
   refine n14 _ ?_
   refine n12 _ ?_
   exact ⟨x1,IntKind.i64.wrap (IntKind.u8.wrap (x0 - 48)),hm,h19,rfl,i22⟩
  ·replace hm:=cond_f hm g26
   refine tk_os okM hok fun J hJ=>?_
   rw [C.f52r4]
   refine rn_app_k (fun ⟨σ,H,_⟩=>Lk σ 0 (.int .u8 (x0)) ∧ Lk σ 1 (.int .i64 (x1)) ∧ Lk σ 5 (.int .i64 ((-1))) ∧ Lk σ 22 (.bool ((decide (97 ≤ x0)) && (decide (x0 ≤ 102)))) ∧ Iv c.nb [] H0 H) (fun J hJ=>?_) ?_
   ·skip
    cases g33:decide (97 ≤ x0)
    ·skip
     simp only [C.f52r4p0,R,Nat.reduceEqDiff,h18,g33]
     refine hJ _ ?_
     exact ⟨h18,h19,h20,(by first | rfl | (simp only [g33]; rfl) | simp only [g33,Lk,RB,Nat.reduceEqDiff,not_false_eq_true]),i22⟩
    ·skip
     simp only [C.f52r4p0,R,Nat.reduceEqDiff,h18,g33]
     refine hJ _ ?_
     exact ⟨h18,h19,h20,(by first | rfl | (simp only [g33]; rfl) | simp only [g33,Lk,RB,Nat.reduceEqDiff,not_false_eq_true]),i22⟩
   rintro ⟨σ34,H27,d35⟩ ⟨h28,h29,h30,h31,i32⟩
   simp only [C.f52r4p1,R,Nat.reduceEqDiff,h31]
   refine hJ _ ?_
   refine tk_cond (t:=(decide (97 ≤ x0)) && (decide (x0 ≤ 102))) rfl (fun g36=>?_) (fun g36=>?_)
   ·replace hm:=cond_t hm g36
    refine tk_oe okM hok fun J hJ=>?_
    simp only [C.f52r5,R,Nat.reduceEqDiff,h28,cv_int (M:=Mt) Tryd.underlying5 Tryd.underlying3]
    refine hJ _ ?_
    refine n14 _ ?_
    refine n12 _ ?_
    exact ⟨x1,IntKind.i64.wrap ((IntKind.i64.wrap (IntKind.u8.wrap (x0 - 97))) + 10),hm,h29,rfl,i32⟩
   ·replace hm:=cond_f hm g36
    refine tk_os okM hok fun J hJ=>?_
    rw [C.f52r6]
    refine rn_app_k (fun ⟨σ,H,_⟩=>Lk σ 0 (.int .u8 (x0)) ∧ Lk σ 1 (.int .i64 (x1)) ∧ Lk σ 5 (.int .i64 ((-1))) ∧ Lk σ 33 (.bool ((decide (65 ≤ x0)) && (decide (x0 ≤ 70)))) ∧ Iv c.nb [] H0 H) (fun J hJ=>?_) ?_
    ·skip
     cases g43:decide (65 ≤ x0)
     ·skip
      simp only [C.f52r6p0,R,Nat.reduceEqDiff,h28,g43]
      refine hJ _ ?_
      exact ⟨h28,h29,h30,(by first | rfl | (simp only [g43]; rfl) | simp only [g43,Lk,RB,Nat.reduceEqDiff,not_false_eq_true]),i32⟩
     ·skip
      simp only [C.f52r6p0,R,Nat.reduceEqDiff,h28,g43]
      refine hJ _ ?_
      exact ⟨h28,h29,h30,(by first | rfl | (simp only [g43]; rfl) | simp only [g43,Lk,RB,Nat.reduceEqDiff,not_false_eq_true]),i32⟩
    rintro ⟨σ44,H37,d45⟩ ⟨h38,h39,h40,h41,i42⟩
    simp only [C.f52r6p1,R,Nat.reduceEqDiff,h41]
    refine hJ _ ?_
    refine tk_cond (t:=(decide (65 ≤ x0)) && (decide (x0 ≤ 70))) rfl (fun g46=>?_) (fun g46=>?_)
    ·replace hm:=cond_t hm g46
     refine tk_oe okM hok fun J hJ=>?_
     simp only [C.f52r7,R,Nat.reduceEqDiff,h38,cv_int (M:=Mt) Tryd.underlying5 Tryd.underlying3]
     refine hJ _ ?_
     refine n14 _ ?_
     refine n12 _ ?_
     exact ⟨x1,IntKind.i64.wrap ((IntKind.i64.wrap (IntKind.u8.wrap (x0 - 65))) + 10),hm,h39,rfl,i42⟩
    ·replace hm:=cond_f hm g46
     refine tk_skip okM ?_
     refine n14 _ ?_
     refine n12 _ ?_
     exact ⟨x1,(-1),hm,h39,h40,i42⟩
def b_lex_escape (c_class_One:T_class_One) (c_class_Set_Not:T_class_Set_Not) (c_strings_IndexByte:T_strings_IndexByte) (c_lex_digit:T_lex_digit) (c_lex_digits:T_lex_digits) (c_lex_words:T_lex_words) (c_lex_spaces:T_lex_spaces) (c_lex_letter:T_lex_letter) (n:Nat) (x0:ByteArray):Option (class_Set × Int):=bif decide (x0 = ((⟨#[]⟩:ByteArray))) then (some (class_Set.zero,0)) else ((bt x0 0).bind fun v19=>bif decide (v19 = 100) then ((c_lex_digits).bind fun v25=>some (v25,1)) else (bif decide (v19 = 68) then ((c_lex_digits).bind fun v33=>(c_class_Set_Not v33).bind fun v35=>some (v35,1)) else (bif decide (v19 = 119) then ((c_lex_words).bind fun v43=>some (v43,1)) else (bif decide (v19 = 87) then ((c_lex_words).bind fun v51=>(c_class_Set_Not v51).bind fun v53=>some (v53,1)) else (bif decide (v19 = 115) then ((c_lex_spaces).bind fun v61=>some (v61,1)) else (bif decide (v19 = 83) then ((c_lex_spaces).bind fun v69=>(c_class_Set_Not v69).bind fun v71=>some (v71,1)) else (bif decide (v19 = 120) then ((bif decide (((x0.size:Int)) < 3) then some true else ((bt x0 1).bind fun v80=>(c_lex_digit v80 16).bind fun v82=>some (decide (v82 < 0)))).bind fun y83=>(bif y83 then some true else ((bt x0 2).bind fun v96=>(c_lex_digit v96 16).bind fun v98=>some (decide (v98 < 0)))).bind fun y99=>bif y99 then (some (class_Set.zero,0)) else ((bt x0 1).bind fun v118=>(c_lex_digit v118 16).bind fun v120=>(bt x0 2).bind fun v121=>(c_lex_digit v121 16).bind fun v123=>(c_class_One (IntKind.u8.wrap (IntKind.i64.wrap ((IntKind.i64.wrap (v120 * 16)) + v123)))).bind fun v125=>some (v125,3))) else ((c_strings_IndexByte ((⟨#[110,116,114,102,118]⟩:ByteArray)) v19).bind fun v134=>bif decide (0 ≤ v134) then ((bt ((⟨#[10,9,13,12,11]⟩:ByteArray)) v134).bind fun v136=>(c_class_One v136).bind fun v138=>some (v138,1)) else ((c_lex_letter v19).bind fun v147=>bif v147 then (some (class_Set.zero,0)) else ((c_class_One v19).bind fun v155=>some (v155,1)))))))))))
theorem w_lex_escape {call:CallF} (hok:CallOk Mt call) {n:Nat} {c_class_One:T_class_One} (ha_class_One:A_class_One call c_class_One) {c_class_Set_Not:T_class_Set_Not} (ha_class_Set_Not:A_class_Set_Not call c_class_Set_Not) {c_strings_IndexByte:T_strings_IndexByte} (ha_strings_IndexByte:A_strings_IndexByte call c_strings_IndexByte) {c_lex_digit:T_lex_digit} (ha_lex_digit:A_lex_digit call c_lex_digit) {c_lex_digits:T_lex_digits} (ha_lex_digits:A_lex_digits call c_lex_digits) {c_lex_words:T_lex_words} (ha_lex_words:A_lex_words call c_lex_words) {c_lex_spaces:T_lex_spaces} (ha_lex_spaces:A_lex_spaces call c_lex_spaces) {c_lex_letter:T_lex_letter} (ha_lex_letter:A_lex_letter call c_lex_letter) {H0:Hp} {x0:ByteArray} {r:class_Set × Int} {ro:Nat} (hro:ro ≤ H0.length) (hm:b_lex_escape c_class_One c_class_Set_Not c_strings_IndexByte c_lex_digit c_lex_digits c_lex_words c_lex_spaces c_lex_letter n x0 = some r) :
  Pt Mt ro 53 [(.string x0)] H0 (.tuple [(vAgg (class_Set.c (r.1))),(.int .i64 (r.2))].toArray) H0 []:=by
 refine pt_new0 okM F53d (by exact Nat.le_of_ble_eq_true rfl) ?_ hro
 intro c hnt hnb hcr
 have hcn:c.ro ≤ c.nb:=by omega
 have iv:Iv c.nb [] H0 H0:=by rw [hnb]; exact iv_refl
 rw [show args0 [(.string x0)] = [(0,(.string x0))] from rfl]
 rw [b_lex_escape] at hm
 simp only [C.f53]
 refine tk_os okM hok fun J hJ=>?_
 obtain ⟨b1,H2,a3,f4,q5,r6,x7,i8⟩:=al_ok H0 36 (class_Set.c class_Set.zero) iv.le
 have i9:=i8 _ _ iv
 simp only [C.f53r0,R,Nat.reduceEqDiff,zs36,a3]
 refine hJ _ ?_
 refine tk_seq_k fun K n11 x12=>?_
 refine tk_os okM hok fun J hJ=>?_
 simp only [C.f53r1,R,Nat.reduceEqDiff]
 refine hJ _ ?_
 refine tk_cond (t:=decide (x0 = ((⟨#[]⟩:ByteArray)))) rfl (fun g13=>?_) (fun g13=>?_)
 ·replace hm:=cond_t hm g13
  refine tk_os okM hok fun J hJ=>?_
  obtain ⟨H14,a15,f16,u17⟩:=st_ok (M:=Mt) (t:=36) (v:=(vAgg (class_Set.c (class_Set.zero)))) (c:=class_Set.c class_Set.zero) (cs':=class_Set.c class_Set.zero) f4 (by rw [class_Set.enc.len]; exact T.sz36) vAgg_cells (class_Set.enc.one _) (Nat.le_trans hcn r6) (le0 class_Set.enc.len) (wrs_all (eqL class_Set.enc.len))
  have i18:=i9.up u17 r6
  simp only [C.f53r2,R,Nat.reduceEqDiff,bd36_,a15]
  refine hJ _ ?_
  refine tk_ret okM ?_
  refine x12 _ _ (by simp) ?_
  obtain rfl:=Option.some.inj hm
  exact end_flat (.inl rfl) (vs:=[(vAgg (class_Set.c (class_Set.zero))),(.int .i64 (0))]) (resC' (v:=(vAgg (class_Set.c (class_Set.zero)))) rfl (ldv_of (ld_agg (M:=Mt) (t:=36) f16 T.ag36 (by rw [class_Set.enc.len]; exact T.sz36) Seg.refl)) (resT' (v:=(.int .i64 (0))) rfl resN)) (fm_cons (flat_agg class_Set.enc _) (fm_cons rfl fm_nil))
 ·replace hm:=cond_f hm g13
  refine tk_skip okM ?_
  refine n11 _ ?_
  refine tk_os okM hok fun J hJ=>?_
  obtain ⟨v19,ev19,hm⟩:=bind_s hm
  simp only [C.f53r3,R,Nat.reduceEqDiff,idxP_str (M:=Mt) Tryd.underlying9,ev19]
  refine hJ _ ?_
  refine tk_os okM hok fun J hJ=>?_
  simp only [C.f53r4,R,Nat.reduceEqDiff]
  refine hJ _ ?_
  refine tk_block_k fun K n20 e21 x22=>?_
  refine tk_os okM hok fun J hJ=>?_
  simp only [C.f53r11,R,Nat.reduceEqDiff]
  refine hJ _ ?_
  refine tk_cond (t:=decide (v19 = 100)) rfl (fun g23=>?_) (fun g23=>?_)
  ·replace hm:=cond_t hm g23
   refine tk_os okM hok fun J hJ=>?_
   obtain ⟨v25,ev25,hm⟩:=bind_s hm
   have a24:=ha_lex_digits c.ro H2  v25 ev25
   obtain ⟨H26,a27,f28,u29⟩:=st_ok (M:=Mt) (t:=36) (v:=(vAgg (class_Set.c (v25)))) (c:=class_Set.c v25) (cs':=class_Set.c v25) f4 (by rw [class_Set.enc.len]; exact T.sz36) vAgg_cells (class_Set.enc.one _) (Nat.le_trans hcn r6) (le0 class_Set.enc.len) (wrs_all (eqL class_Set.enc.len))
   have i30:=i9.up u29 r6
   simp only [C.f53r12,R,Nat.reduceEqDiff,c_fn F62,a24,a27]
   refine hJ _ ?_
   refine tk_ret okM ?_
   refine x22 _ _ (by simp) (by simp) ?_
   obtain rfl:=Option.some.inj hm
   exact end_flat (.inl rfl) (vs:=[(vAgg (class_Set.c (v25))),(.int .i64 (1))]) (resC' (v:=(vAgg (class_Set.c (v25)))) rfl (ldv_of (ld_agg (M:=Mt) (t:=36) f28 T.ag36 (by rw [class_Set.enc.len]; exact T.sz36) Seg.refl)) (resT' (v:=(.int .i64 (1))) rfl resN)) (fm_cons (flat_agg class_Set.enc _) (fm_cons rfl fm_nil))
  ·replace hm:=cond_f hm g23
   refine tk_os okM hok fun J hJ=>?_
   simp only [C.f53r13,R,Nat.reduceEqDiff]
   refine hJ _ ?_
   refine tk_cond (t:=decide (v19 = 68)) rfl (fun g31=>?_) (fun g31=>?_)
   ·replace hm:=cond_t hm g31
    refine tk_os okM hok fun J hJ=>?_
    obtain ⟨v33,ev33,hm⟩:=bind_s hm
    have a32:=ha_lex_digits c.ro H2  v33 ev33
    obtain ⟨v35,ev35,hm⟩:=bind_s hm
    have a34:=ha_class_Set_Not c.ro H2 v33 v35 ev35
    obtain ⟨H36,a37,f38,u39⟩:=st_ok (M:=Mt) (t:=36) (v:=(vAgg (class_Set.c (v35)))) (c:=class_Set.c v35) (cs':=class_Set.c v35) f4 (by rw [class_Set.enc.len]; exact T.sz36) vAgg_cells (class_Set.enc.one _) (Nat.le_trans hcn r6) (le0 class_Set.enc.len) (wrs_all (eqL class_Set.enc.len))
    have i40:=i9.up u39 r6
    simp only [C.f53r14,R,Nat.reduceEqDiff,c_fn F62,a32,c_fn F25,a34,a37]
    refine hJ _ ?_
    refine tk_ret okM ?_
    refine x22 _ _ (by simp) (by simp) ?_
    obtain rfl:=Option.some.inj hm
    exact end_flat (.inl rfl) (vs:=[(vAgg (class_Set.c (v35))),(.int .i64 (1))]) (resC' (v:=(vAgg (class_Set.c (v35)))) rfl (ldv_of (ld_agg (M:=Mt) (t:=36) f38 T.ag36 (by rw [class_Set.enc.len]; exact T.sz36) Seg.refl)) (resT' (v:=(.int .i64 (1))) rfl resN)) (fm_cons (flat_agg class_Set.enc _) (fm_cons rfl fm_nil))
   ·replace hm:=cond_f hm g31
    refine tk_os okM hok fun J hJ=>?_
    simp only [C.f53r15,R,Nat.reduceEqDiff]
    refine hJ _ ?_
    refine tk_cond (t:=decide (v19 = 119)) rfl (fun g41=>?_) (fun g41=>?_)
    ·replace hm:=cond_t hm g41
     refine tk_os okM hok fun J hJ=>?_
     obtain ⟨v43,ev43,hm⟩:=bind_s hm
     have a42:=ha_lex_words c.ro H2  v43 ev43
     obtain ⟨H44,a45,f46,u47⟩:=st_ok (M:=Mt) (t:=36) (v:=(vAgg (class_Set.c (v43)))) (c:=class_Set.c v43) (cs':=class_Set.c v43) f4 (by rw [class_Set.enc.len]; exact T.sz36) vAgg_cells (class_Set.enc.one _) (Nat.le_trans hcn r6) (le0 class_Set.enc.len) (wrs_all (eqL class_Set.enc.len))
     have i48:=i9.up u47 r6
     simp only [C.f53r16,R,Nat.reduceEqDiff,c_fn F63,a42,a45]
     refine hJ _ ?_
     refine tk_ret okM ?_
     refine x22 _ _ (by simp) (by simp) ?_
     obtain rfl:=Option.some.inj hm
     exact end_flat (.inl rfl) (vs:=[(vAgg (class_Set.c (v43))),(.int .i64 (1))]) (resC' (v:=(vAgg (class_Set.c (v43)))) rfl (ldv_of (ld_agg (M:=Mt) (t:=36) f46 T.ag36 (by rw [class_Set.enc.len]; exact T.sz36) Seg.refl)) (resT' (v:=(.int .i64 (1))) rfl resN)) (fm_cons (flat_agg class_Set.enc _) (fm_cons rfl fm_nil))
    ·replace hm:=cond_f hm g41
     refine tk_os okM hok fun J hJ=>?_
     simp only [C.f53r17,R,Nat.reduceEqDiff]
     refine hJ _ ?_
     refine tk_cond (t:=decide (v19 = 87)) rfl (fun g49=>?_) (fun g49=>?_)
     ·replace hm:=cond_t hm g49
      refine tk_os okM hok fun J hJ=>?_
      obtain ⟨v51,ev51,hm⟩:=bind_s hm
      have a50:=ha_lex_words c.ro H2  v51 ev51
      obtain ⟨v53,ev53,hm⟩:=bind_s hm
      have a52:=ha_class_Set_Not c.ro H2 v51 v53 ev53
      obtain ⟨H54,a55,f56,u57⟩:=st_ok (M:=Mt) (t:=36) (v:=(vAgg (class_Set.c (v53)))) (c:=class_Set.c v53) (cs':=class_Set.c v53) f4 (by rw [class_Set.enc.len]; exact T.sz36) vAgg_cells (class_Set.enc.one _) (Nat.le_trans hcn r6) (le0 class_Set.enc.len) (wrs_all (eqL class_Set.enc.len))
      have i58:=i9.up u57 r6
      simp only [C.f53r18,R,Nat.reduceEqDiff,c_fn F63,a50,c_fn F25,a52,a55]
      refine hJ _ ?_
      refine tk_ret okM ?_
      refine x22 _ _ (by simp) (by simp) ?_
      obtain rfl:=Option.some.inj hm
      exact end_flat (.inl rfl) (vs:=[(vAgg (class_Set.c (v53))),(.int .i64 (1))]) (resC' (v:=(vAgg (class_Set.c (v53)))) rfl (ldv_of (ld_agg (M:=Mt) (t:=36) f56 T.ag36 (by rw [class_Set.enc.len]; exact T.sz36) Seg.refl)) (resT' (v:=(.int .i64 (1))) rfl resN)) (fm_cons (flat_agg class_Set.enc _) (fm_cons rfl fm_nil))
     ·replace hm:=cond_f hm g49
      refine tk_os okM hok fun J hJ=>?_
      simp only [C.f53r19,R,Nat.reduceEqDiff]
      refine hJ _ ?_
      refine tk_cond (t:=decide (v19 = 115)) rfl (fun g59=>?_) (fun g59=>?_)
      ·replace hm:=cond_t hm g59
       refine tk_os okM hok fun J hJ=>?_
       obtain ⟨v61,ev61,hm⟩:=bind_s hm
       have a60:=ha_lex_spaces c.ro H2  v61 ev61
       obtain ⟨H62,a63,f64,u65⟩:=st_ok (M:=Mt) (t:=36) (v:=(vAgg (class_Set.c (v61)))) (c:=class_Set.c v61) (cs':=class_Set.c v61) f4 (by rw [class_Set.enc.len]; exact T.sz36) vAgg_cells (class_Set.enc.one _) (Nat.le_trans hcn r6) (le0 class_Set.enc.len) (wrs_all (eqL class_Set.enc.len))
       have i66:=i9.up u65 r6
       simp only [C.f53r20,R,Nat.reduceEqDiff,c_fn F64,a60,a63]
       refine hJ _ ?_
       refine tk_ret okM ?_
       refine x22 _ _ (by simp) (by simp) ?_
       obtain rfl:=Option.some.inj hm
       exact end_flat (.inl rfl) (vs:=[(vAgg (class_Set.c (v61))),(.int .i64 (1))]) (resC' (v:=(vAgg (class_Set.c (v61)))) rfl (ldv_of (ld_agg (M:=Mt) (t:=36) f64 T.ag36 (by rw [class_Set.enc.len]; exact T.sz36) Seg.refl)) (resT' (v:=(.int .i64 (1))) rfl resN)) (fm_cons (flat_agg class_Set.enc _) (fm_cons rfl fm_nil))
      ·replace hm:=cond_f hm g59
       refine tk_os okM hok fun J hJ=>?_
       simp only [C.f53r21,R,Nat.reduceEqDiff]
       refine hJ _ ?_
       refine tk_cond (t:=decide (v19 = 83)) rfl (fun g67=>?_) (fun g67=>?_)
       ·replace hm:=cond_t hm g67
        refine tk_os okM hok fun J hJ=>?_
        obtain ⟨v69,ev69,hm⟩:=bind_s hm
        have a68:=ha_lex_spaces c.ro H2  v69 ev69
        obtain ⟨v71,ev71,hm⟩:=bind_s hm
        have a70:=ha_class_Set_Not c.ro H2 v69 v71 ev71
        obtain ⟨H72,a73,f74,u75⟩:=st_ok (M:=Mt) (t:=36) (v:=(vAgg (class_Set.c (v71)))) (c:=class_Set.c v71) (cs':=class_Set.c v71) f4 (by rw [class_Set.enc.len]; exact T.sz36) vAgg_cells (class_Set.enc.one _) (Nat.le_trans hcn r6) (le0 class_Set.enc.len) (wrs_all (eqL class_Set.enc.len))
        have i76:=i9.up u75 r6
        simp only [C.f53r22,R,Nat.reduceEqDiff,c_fn F64,a68,c_fn F25,a70,a73]
        refine hJ _ ?_
        refine tk_ret okM ?_
        refine x22 _ _ (by simp) (by simp) ?_
        obtain rfl:=Option.some.inj hm
        exact end_flat (.inl rfl) (vs:=[(vAgg (class_Set.c (v71))),(.int .i64 (1))]) (resC' (v:=(vAgg (class_Set.c (v71)))) rfl (ldv_of (ld_agg (M:=Mt) (t:=36) f74 T.ag36 (by rw [class_Set.enc.len]; exact T.sz36) Seg.refl)) (resT' (v:=(.int .i64 (1))) rfl resN)) (fm_cons (flat_agg class_Set.enc _) (fm_cons rfl fm_nil))
       ·replace hm:=cond_f hm g67
        refine tk_os okM hok fun J hJ=>?_
        simp only [C.f53r23,R,Nat.reduceEqDiff]
        refine hJ _ ?_
        refine tk_cond (t:=decide (v19 = 120)) rfl (fun g77=>?_) (fun g77=>?_)
        ·replace hm:=cond_t hm g77
         refine tk_seq_k fun K n78 x79=>?_
         refine tk_os okM hok fun J hJ=>?_
         rw [C.f53r24]
         obtain ⟨y83,ey83,hm⟩:=bind_s hm
         refine rn_app_k (fun ⟨σ,H,_⟩=>Lk σ 0 (.string (x0)) ∧ Lk σ 2 (.pointer (some ⟨b1,0,none⟩)) ∧ Lk σ 55 (.bool (y83)) ∧ H[b1]? = some (.cells (class_Set.c class_Set.zero) 36) ∧ Iv c.nb [] H0 H) (fun J hJ=>?_) ?_
         ·skip
          cases g90:decide (((x0.size:Int)) < 3)
          ·skip
           have ey83:=cond_f ey83 g90
           obtain ⟨v91,ev91,ey83⟩:=bind_s ey83
           obtain ⟨v93,ev93,ey83⟩:=bind_s ey83
           have a92:=ha_lex_digit c.ro H2 v91 16 v93 ev93
           obtain rfl:=Option.some.inj ey83
           simp only [C.f53r24p0,R,Nat.reduceEqDiff,len_str (M:=Mt) Tryd.underlying9,g90,idxP_str (M:=Mt) Tryd.underlying9,ev91,c_fn F52,a92]
           refine hJ _ ?_
           exact ⟨(by first | rfl | (simp only [g90]; rfl) | simp only [g90,Lk,RB,Nat.reduceEqDiff,not_false_eq_true]),rfl,(by first | rfl | (simp only [g90]; rfl) | simp only [g90,Lk,RB,Nat.reduceEqDiff,not_false_eq_true]),f4,i9⟩
          ·skip
           have ey83:=cond_t ey83 g90
           obtain rfl:=Option.some.inj ey83
           simp only [C.f53r24p0,R,Nat.reduceEqDiff,len_str (M:=Mt) Tryd.underlying9,g90]
           refine hJ _ ?_
           exact ⟨(by first | rfl | (simp only [g90]; rfl) | simp only [g90,Lk,RB,Nat.reduceEqDiff,not_false_eq_true]),rfl,(by first | rfl | (simp only [g90]; rfl) | simp only [g90,Lk,RB,Nat.reduceEqDiff,not_false_eq_true]),f4,i9⟩
         rintro ⟨σ94,H84,d95⟩ ⟨h85,h86,h87,f88,i89⟩
         obtain ⟨y99,ey99,hm⟩:=bind_s hm
         refine rn_k (fun ⟨σ,H,_⟩=>Lk σ 0 (.string (x0)) ∧ Lk σ 2 (.pointer (some ⟨b1,0,none⟩)) ∧ Lk σ 61 (.bool (y99)) ∧ H[b1]? = some (.cells (class_Set.c class_Set.zero) 36) ∧ Iv c.nb [] H0 H) (fun J hJ=>?_) ?_
         ·skip
          cases g106:y83
          ·skip
           have ey99:=cond_f ey99 g106
           obtain ⟨v107,ev107,ey99⟩:=bind_s ey99
           obtain ⟨v109,ev109,ey99⟩:=bind_s ey99
           have a108:=ha_lex_digit c.ro H84 v107 16 v109 ev109
           obtain rfl:=Option.some.inj ey99
           simp only [C.f53r24p1,R,Nat.reduceEqDiff,h87,g106,h85,idxP_str (M:=Mt) Tryd.underlying9,ev107,c_fn F52,a108]
           refine hJ _ ?_
           exact ⟨h85,h86,(by first | rfl | (simp only [g106]; rfl) | simp only [g106,Lk,RB,Nat.reduceEqDiff,not_false_eq_true]),f88,i89⟩
          ·skip
           have ey99:=cond_t ey99 g106
           obtain rfl:=Option.some.inj ey99
           simp only [C.f53r24p1,R,Nat.reduceEqDiff,h87,g106]
           refine hJ _ ?_
           exact ⟨h85,h86,(by first | rfl | (simp only [g106]; rfl) | simp only [g106,Lk,RB,Nat.reduceEqDiff,not_false_eq_true]),f88,i89⟩
         rintro ⟨σ110,H100,d111⟩ ⟨h101,h102,h103,f104,i105⟩
         refine hJ _ ?_
         refine tk_cond (t:=y99) h103 (fun g112=>?_) (fun g112=>?_)
         ·replace hm:=cond_t hm g112
          refine tk_os okM hok fun J hJ=>?_
          obtain ⟨H113,a114,f115,u116⟩:=st_ok (M:=Mt) (t:=36) (v:=(vAgg (class_Set.c (class_Set.zero)))) (c:=class_Set.c class_Set.zero) (cs':=class_Set.c class_Set.zero) f104 (by rw [class_Set.enc.len]; exact T.sz36) vAgg_cells (class_Set.enc.one _) (Nat.le_trans hcn r6) (le0 class_Set.enc.len) (wrs_all (eqL class_Set.enc.len))
          have i117:=i105.up u116 r6
          simp only [C.f53r25,R,Nat.reduceEqDiff,bd36_,a114,h102]
          refine hJ _ ?_
          refine tk_ret okM ?_
          refine x79 _ _ (by simp) ?_
          refine x22 _ _ (by simp) (by simp) ?_
          obtain rfl:=Option.some.inj hm
          exact end_flat (.inl rfl) (vs:=[(vAgg (class_Set.c (class_Set.zero))),(.int .i64 (0))]) (resC' (v:=(vAgg (class_Set.c (class_Set.zero)))) h102 (ldv_of (ld_agg (M:=Mt) (t:=36) f115 T.ag36 (by rw [class_Set.enc.len]; exact T.sz36) Seg.refl)) (resT' (v:=(.int .i64 (0))) rfl resN)) (fm_cons (flat_agg class_Set.enc _) (fm_cons rfl fm_nil))
         ·replace hm:=cond_f hm g112
          refine tk_skip okM ?_
          refine n78 _ ?_
          refine tk_os okM hok fun J hJ=>?_
          obtain ⟨v118,ev118,hm⟩:=bind_s hm
          obtain ⟨v120,ev120,hm⟩:=bind_s hm
          have a119:=ha_lex_digit c.ro H100 v118 16 v120 ev120
          obtain ⟨v121,ev121,hm⟩:=bind_s hm
          obtain ⟨v123,ev123,hm⟩:=bind_s hm
          have a122:=ha_lex_digit c.ro H100 v121 16 v123 ev123
          obtain ⟨v125,ev125,hm⟩:=bind_s hm
          have a124:=ha_class_One c.ro H100 (IntKind.u8.wrap (IntKind.i64.wrap ((IntKind.i64.wrap (v120 * 16)) + v123))) v125 ev125
          obtain ⟨H126,a127,f128,u129⟩:=st_ok (M:=Mt) (t:=36) (v:=(vAgg (class_Set.c (v125)))) (c:=class_Set.c v125) (cs':=class_Set.c v125) f104 (by rw [class_Set.enc.len]; exact T.sz36) vAgg_cells (class_Set.enc.one _) (Nat.le_trans hcn r6) (le0 class_Set.enc.len) (wrs_all (eqL class_Set.enc.len))
          have i130:=i105.up u129 r6
          simp only [C.f53r26,R,Nat.reduceEqDiff,h101,idxP_str (M:=Mt) Tryd.underlying9,ev118,c_fn F52,a119,ev121,a122,cv_int (M:=Mt) Tryd.underlying3 Tryd.underlying5,c_fn F17,a124,a127,h102]
          refine hJ _ ?_
          refine tk_ret okM ?_
          refine x22 _ _ (by simp) (by simp) ?_
          obtain rfl:=Option.some.inj hm
          exact end_flat (.inl rfl) (vs:=[(vAgg (class_Set.c (v125))),(.int .i64 (3))]) (resC' (v:=(vAgg (class_Set.c (v125)))) h102 (ldv_of (ld_agg (M:=Mt) (t:=36) f128 T.ag36 (by rw [class_Set.enc.len]; exact T.sz36) Seg.refl)) (resT' (v:=(.int .i64 (3))) rfl resN)) (fm_cons (flat_agg class_Set.enc _) (fm_cons rfl fm_nil))
        ·replace hm:=cond_f hm g77
         refine tk_seq_k fun K n131 x132=>?_
         refine tk_os okM hok fun J hJ=>?_
         obtain ⟨v134,ev134,hm⟩:=bind_s hm
         have a133:=ha_strings_IndexByte c.ro H2 ((⟨#[110,116,114,102,118]⟩:ByteArray)) v19 v134 ev134
         simp only [C.f53r5,R,Nat.reduceEqDiff,c_fn F49,a133]
         refine hJ _ ?_
         refine tk_os okM hok fun J hJ=>?_
         simp only [C.f53r6,R,Nat.reduceEqDiff]
         refine hJ _ ?_
         refine tk_cond (t:=decide (0 ≤ v134)) rfl (fun g135=>?_) (fun g135=>?_)
         ·replace hm:=cond_t hm g135
          refine tk_os okM hok fun J hJ=>?_
          obtain ⟨v136,ev136,hm⟩:=bind_s hm
          obtain ⟨v138,ev138,hm⟩:=bind_s hm
          have a137:=ha_class_One c.ro H2 v136 v138 ev138
          obtain ⟨H139,a140,f141,u142⟩:=st_ok (M:=Mt) (t:=36) (v:=(vAgg (class_Set.c (v138)))) (c:=class_Set.c v138) (cs':=class_Set.c v138) f4 (by rw [class_Set.enc.len]; exact T.sz36) vAgg_cells (class_Set.enc.one _) (Nat.le_trans hcn r6) (le0 class_Set.enc.len) (wrs_all (eqL class_Set.enc.len))
          have i143:=i9.up u142 r6
          simp only [C.f53r7,R,Nat.reduceEqDiff,idxP_str (M:=Mt) Tryd.underlying9,ev136,c_fn F17,a137,a140]
          refine hJ _ ?_
          refine tk_ret okM ?_
          refine x132 _ _ (by simp) ?_
          refine x22 _ _ (by simp) (by simp) ?_
          obtain rfl:=Option.some.inj hm
          exact end_flat (.inl rfl) (vs:=[(vAgg (class_Set.c (v138))),(.int .i64 (1))]) (resC' (v:=(vAgg (class_Set.c (v138)))) rfl (ldv_of (ld_agg (M:=Mt) (t:=36) f141 T.ag36 (by rw [class_Set.enc.len]; exact T.sz36) Seg.refl)) (resT' (v:=(.int .i64 (1))) rfl resN)) (fm_cons (flat_agg class_Set.enc _) (fm_cons rfl fm_nil))
         ·replace hm:=cond_f hm g135
          refine tk_skip okM ?_
          refine n131 _ ?_
          refine tk_seq_k fun K n144 x145=>?_
          refine tk_os okM hok fun J hJ=>?_
          obtain ⟨v147,ev147,hm⟩:=bind_s hm
          have a146:=ha_lex_letter c.ro H2 v19 v147 ev147
          simp only [C.f53r8,R,Nat.reduceEqDiff,c_fn F65,a146]
          refine hJ _ ?_
          refine tk_cond (t:=v147) rfl (fun g148=>?_) (fun g148=>?_)
          ·replace hm:=cond_t hm g148
           refine tk_os okM hok fun J hJ=>?_
           obtain ⟨H149,a150,f151,u152⟩:=st_ok (M:=Mt) (t:=36) (v:=(vAgg (class_Set.c (class_Set.zero)))) (c:=class_Set.c class_Set.zero) (cs':=class_Set.c class_Set.zero) f4 (by rw [class_Set.enc.len]; exact T.sz36) vAgg_cells (class_Set.enc.one _) (Nat.le_trans hcn r6) (le0 class_Set.enc.len) (wrs_all (eqL class_Set.enc.len))
           have i153:=i9.up u152 r6
           simp only [C.f53r9,R,Nat.reduceEqDiff,bd36_,a150]
           refine hJ _ ?_
           refine tk_ret okM ?_
           refine x145 _ _ (by simp) ?_
           refine x22 _ _ (by simp) (by simp) ?_
           obtain rfl:=Option.some.inj hm
           exact end_flat (.inl rfl) (vs:=[(vAgg (class_Set.c (class_Set.zero))),(.int .i64 (0))]) (resC' (v:=(vAgg (class_Set.c (class_Set.zero)))) rfl (ldv_of (ld_agg (M:=Mt) (t:=36) f151 T.ag36 (by rw [class_Set.enc.len]; exact T.sz36) Seg.refl)) (resT' (v:=(.int .i64 (0))) rfl resN)) (fm_cons (flat_agg class_Set.enc _) (fm_cons rfl fm_nil))
          ·replace hm:=cond_f hm g148
           refine tk_skip okM ?_
           refine n144 _ ?_
           refine tk_os okM hok fun J hJ=>?_
           obtain ⟨v155,ev155,hm⟩:=bind_s hm
           have a154:=ha_class_One c.ro H2 v19 v155 ev155
           obtain ⟨H156,a157,f158,u159⟩:=st_ok (M:=Mt) (t:=36) (v:=(vAgg (class_Set.c (v155)))) (c:=class_Set.c v155) (cs':=class_Set.c v155) f4 (by rw [class_Set.enc.len]; exact T.sz36) vAgg_cells (class_Set.enc.one _) (Nat.le_trans hcn r6) (le0 class_Set.enc.len) (wrs_all (eqL class_Set.enc.len))
           have i160:=i9.up u159 r6
           simp only [C.f53r10,R,Nat.reduceEqDiff,c_fn F17,a154,a157]
           refine hJ _ ?_
           refine tk_ret okM ?_
           refine x22 _ _ (by simp) (by simp) ?_
           obtain rfl:=Option.some.inj hm
           exact end_flat (.inl rfl) (vs:=[(vAgg (class_Set.c (v155))),(.int .i64 (1))]) (resC' (v:=(vAgg (class_Set.c (v155)))) rfl (ldv_of (ld_agg (M:=Mt) (t:=36) f158 T.ag36 (by rw [class_Set.enc.len]; exact T.sz36) Seg.refl)) (resT' (v:=(.int .i64 (1))) rfl resN)) (fm_cons (flat_agg class_Set.enc _) (fm_cons rfl fm_nil))
def b_ref06_braces_1 (c_ref06_starts:T_ref06_starts) (c_ref06_count:T_ref06_count) (n:Nat) (x0_21:ByteArray) (x22:ref06_Token) (x7_23:Int) (x8_24:Int) (x9_25:Int):Option (ref06_Token × Int × Int):=(c_ref06_starts x0_21 x8_24 ((⟨#[125]⟩:ByteArray))).bind fun v39=>bif !v39 then (some (ref06_Token.zero,0,3)) else (bif (decide (100 < x7_23)) || (decide (100 < x9_25)) then (some (ref06_Token.zero,0,4)) else (bif (decide (0 ≤ x9_25)) && (decide (x9_25 < x7_23)) then (some (ref06_Token.zero,0,3)) else (some (({ ref06_Token.zero with f_Kind:=16,f_Min:=x7_23,f_Max:=x9_25 }:ref06_Token),IntKind.i64.wrap (x8_24 + 1),0))))
def b_ref06_braces_2 (c_ref06_starts:T_ref06_starts) (c_ref06_count:T_ref06_count) (n:Nat) (x0_96:ByteArray) (x97:ref06_Token) (x7_98:Int) (x9_99:Int) (x11_100:Int):Option (ref06_Token × Int × Int):=b_ref06_braces_1 c_ref06_starts c_ref06_count n x0_96 x97 x7_98 x11_100 x9_99
def b_ref06_braces (c_ref06_starts:T_ref06_starts) (c_ref06_count:T_ref06_count) (n:Nat) (x0:ByteArray) (x1:Int):Option (ref06_Token × Int × Int):=(c_ref06_count x0 (IntKind.i64.wrap (x1 + 1))).bind fun v12=>bif decide (v12.2 = (IntKind.i64.wrap (x1 + 1))) then (some (ref06_Token.zero,0,3)) else ((c_ref06_starts x0 v12.2 ((⟨#[44]⟩:ByteArray))).bind fun v92=>bif v92 then ((c_ref06_count x0 (IntKind.i64.wrap (v12.2 + 1))).bind fun v95=>bif decide (v95.2 = (IntKind.i64.wrap (v12.2 + 1))) then (b_ref06_braces_2 c_ref06_starts c_ref06_count n x0 ref06_Token.zero v12.1 ((-1)) v95.2) else (b_ref06_braces_2 c_ref06_starts c_ref06_count n x0 ref06_Token.zero v12.1 v95.1 v95.2)) else (b_ref06_braces_1 c_ref06_starts c_ref06_count n x0 ref06_Token.zero v12.1 v12.2 v12.1))
theorem w_ref06_braces {call:CallF} (hok:CallOk Mt call) {n:Nat} {c_ref06_starts:T_ref06_starts} (ha_ref06_starts:A_ref06_starts call c_ref06_starts) {c_ref06_count:T_ref06_count} (ha_ref06_count:A_ref06_count call c_ref06_count) {H0:Hp} {x0:ByteArray} {x1:Int} {r:ref06_Token × Int × Int} {ro:Nat} (hro:ro ≤ H0.length) (hm:b_ref06_braces c_ref06_starts c_ref06_count n x0 x1 = some r) :
  Pt Mt ro 54 [(.string x0),(.int .i64 x1)] H0 (.tuple [(vAgg (ref06_Token.c (r.1))),(.int .i64 (r.2.1)),(.int .i64 (r.2.2))].toArray) H0 []:=by
 refine pt_new0 okM F54d (by exact Nat.le_of_ble_eq_true rfl) ?_ hro
 intro c hnt hnb hcr
 have hcn:c.ro ≤ c.nb:=by omega
 have iv:Iv c.nb [] H0 H0:=by rw [hnb]; exact iv_refl
 rw [show args0 [(.string x0),(.int .i64 x1)] = [(0,(.string x0)),(1,(.int .i64 x1))] from rfl]
 rw [b_ref06_braces] at hm
 simp only [C.f54]
 refine tk_os okM hok fun J hJ=>?_
 obtain ⟨b1,H2,a3,f4,q5,r6,x7,i8⟩:=al_ok H0 59 (ref06_Token.c ref06_Token.zero) iv.le
 have i9:=i8 _ _ iv
 simp only [C.f54r0,R,Nat.reduceEqDiff,zs59,a3]
 refine hJ _ ?_
 refine tk_os okM hok fun J hJ=>?_
 obtain ⟨v12,ev12,hm⟩:=bind_s hm
 have a11:=ha_ref06_count c.ro H2 x0 (IntKind.i64.wrap (x1 + 1)) v12 ev12
 simp only [C.f54r1,R,Nat.reduceEqDiff,c_fn F66,a11]
 refine hJ _ ?_
 refine tk_seq_k fun K n13 x14=>?_
 refine tk_os okM hok fun J hJ=>?_
 simp only [C.f54r2,R,Nat.reduceEqDiff]
 refine hJ _ ?_
 refine tk_cond (t:=decide (v12.2 = (IntKind.i64.wrap (x1 + 1)))) rfl (fun g15=>?_) (fun g15=>?_)
 ·replace hm:=cond_t hm g15
  refine tk_os okM hok fun J hJ=>?_
  obtain ⟨H16,a17,f18,u19⟩:=st_ok (M:=Mt) (t:=59) (v:=(vAgg (ref06_Token.c (ref06_Token.zero)))) (c:=ref06_Token.c ref06_Token.zero) (cs':=ref06_Token.c ref06_Token.zero) f4 (by rw [ref06_Token.enc.len]; exact T.sz59) vAgg_cells (ref06_Token.enc.one _) (Nat.le_trans hcn r6) (le0 ref06_Token.enc.len) (wrs_all (eqL ref06_Token.enc.len))
  have i20:=i9.up u19 r6
  simp only [C.f54r3,R,Nat.reduceEqDiff,bd59_,a17]
  refine hJ _ ?_
  refine tk_ret okM ?_
  refine x14 _ _ (by simp) ?_
  obtain rfl:=Option.some.inj hm
  exact end_flat (.inl rfl) (vs:=[(vAgg (ref06_Token.c (ref06_Token.zero))),(.int .i64 (0)),(.int .i64 (3))]) (resC' (v:=(vAgg (ref06_Token.c (ref06_Token.zero)))) rfl (ldv_of (ld_agg (M:=Mt) (t:=59) f18 T.ag59 (by rw [ref06_Token.enc.len]; exact T.sz59) Seg.refl)) (resT' (v:=(.int .i64 (0))) rfl (resT' (v:=(.int .i64 (3))) rfl resN))) (fm_cons (flat_agg ref06_Token.enc _) (fm_cons rfl (fm_cons rfl fm_nil)))
 ·replace hm:=cond_f hm g15
  refine tk_skip okM ?_
  refine n13 _ ?_
  refine tk_os okM hok fun J hJ=>?_
  simp only [C.f54r4,R,Nat.reduceEqDiff]
  refine hJ _ ?_
  refine tk_seq_j (fun ⟨σ,H,_⟩=>∃ x0_21 x22 x7_23 x8_24 x9_25,b_ref06_braces_1 c_ref06_starts c_ref06_count n x0_21 x22 x7_23 x8_24 x9_25 = some r ∧ Lk σ 0 (.string x0_21) ∧ Lk σ 4 (.pointer (some ⟨b1,0,none⟩)) ∧ Lk σ 7 (.int .i64 x7_23) ∧ Lk σ 8 (.int .i64 x8_24) ∧ Lk σ 9 (.int .i64 x9_25) ∧ H[b1]? = some (.cells (ref06_Token.c x22) 59) ∧ Iv c.nb [] H0 H) ?_ ?_
  ·skip
   rintro ⟨σ34,H26,d35⟩ ⟨x0_21,x22,x7_23,x8_24,x9_25,hm,h27,h28,h29,h30,h31,f32,i33⟩
   rw [b_ref06_braces_1] at hm
   refine tk_seq_k fun K n36 x37=>?_
   refine tk_os okM hok fun J hJ=>?_
   obtain ⟨v39,ev39,hm⟩:=bind_s hm
   have a38:=ha_ref06_starts c.ro H26 x0_21 x8_24 ((⟨#[125]⟩:ByteArray)) v39 ev39
   simp only [C.f54r11,R,Nat.reduceEqDiff,h27,h30,c_fn F28,a38]
   refine hJ _ ?_
   refine tk_cond (t:=!v39) rfl (fun g40=>?_) (fun g40=>?_)
   ·replace hm:=cond_t hm g40
    refine tk_os okM hok fun J hJ=>?_
    obtain ⟨H41,a42,f43,u44⟩:=st_ok (M:=Mt) (t:=59) (v:=(vAgg (ref06_Token.c (ref06_Token.zero)))) (c:=ref06_Token.c ref06_Token.zero) (cs':=ref06_Token.c ref06_Token.zero) f32 (by rw [ref06_Token.enc.len]; exact T.sz59) vAgg_cells (ref06_Token.enc.one _) (Nat.le_trans hcn r6) (le0 ref06_Token.enc.len) (wrs_all (eqL ref06_Token.enc.len))
    have i45:=i33.up u44 r6
    simp only [C.f54r12,R,Nat.reduceEqDiff,bd59_,a42,h28]
    refine hJ _ ?_
    refine tk_ret okM ?_
    refine x37 _ _ (by simp) ?_
    obtain rfl:=Option.some.inj hm
    exact end_flat (.inl rfl) (vs:=[(vAgg (ref06_Token.c (ref06_Token.zero))),(.int .i64 (0)),(.int .i64 (3))]) (resC' (v:=(vAgg (ref06_Token.c (ref06_Token.zero)))) h28 (ldv_of (ld_agg (M:=Mt) (t:=59) f43 T.ag59 (by rw [ref06_Token.enc.len]; exact T.sz59) Seg.refl)) (resT' (v:=(.int .i64 (0))) rfl (resT' (v:=(.int .i64 (3))) rfl resN))) (fm_cons (flat_agg ref06_Token.enc _) (fm_cons rfl (fm_cons rfl fm_nil)))
   ·replace hm:=cond_f hm g40
    refine tk_skip okM ?_
    refine n36 _ ?_
    refine tk_seq_k fun K n46 x47=>?_
    refine tk_os okM hok fun J hJ=>?_
    refine rn_k (fun ⟨σ,H,_⟩=>Lk σ 4 (.pointer (some ⟨b1,0,none⟩)) ∧ Lk σ 7 (.int .i64 (x7_23)) ∧ Lk σ 8 (.int .i64 (x8_24)) ∧ Lk σ 9 (.int .i64 (x9_25)) ∧ Lk σ 51 (.bool ((decide (100 < x7_23)) || (decide (100 < x9_25)))) ∧ H[b1]? = some (.cells (ref06_Token.c x22) 59) ∧ Iv c.nb [] H0 H) (fun J hJ=>?_) ?_
    ·skip
     cases g56:decide (100 < x7_23)
     ·skip
      simp only [C.f54r13,R,Nat.reduceEqDiff,h29,g56,h31]
      refine hJ _ ?_
      exact ⟨h28,h29,h30,h31,(by first | rfl | (simp only [g56]; rfl) | simp only [g56,Lk,RB,Nat.reduceEqDiff,not_false_eq_true]),f32,i33⟩
     ·skip
      simp only [C.f54r13,R,Nat.reduceEqDiff,h29,g56]
      refine hJ _ ?_
      exact ⟨h28,h29,h30,h31,(by first | rfl | (simp only [g56]; rfl) | simp only [g56,Lk,RB,Nat.reduceEqDiff,not_false_eq_true]),f32,i33⟩
    rintro ⟨σ57,H48,d58⟩ ⟨h49,h50,h51,h52,h53,f54,i55⟩
    refine hJ _ ?_
    refine tk_cond (t:=(decide (100 < x7_23)) || (decide (100 < x9_25))) h53 (fun g59=>?_) (fun g59=>?_)
    ·replace hm:=cond_t hm g59
     refine tk_os okM hok fun J hJ=>?_
     obtain ⟨H60,a61,f62,u63⟩:=st_ok (M:=Mt) (t:=59) (v:=(vAgg (ref06_Token.c (ref06_Token.zero)))) (c:=ref06_Token.c ref06_Token.zero) (cs':=ref06_Token.c ref06_Token.zero) f54 (by rw [ref06_Token.enc.len]; exact T.sz59) vAgg_cells (ref06_Token.enc.one _) (Nat.le_trans hcn r6) (le0 ref06_Token.enc.len) (wrs_all (eqL ref06_Token.enc.len))
     have i64:=i55.up u63 r6
     simp only [C.f54r14,R,Nat.reduceEqDiff,bd59_,a61,h49]
     refine hJ _ ?_
     refine tk_ret okM ?_
     refine x47 _ _ (by simp) ?_
     obtain rfl:=Option.some.inj hm
     exact end_flat (.inl rfl) (vs:=[(vAgg (ref06_Token.c (ref06_Token.zero))),(.int .i64 (0)),(.int .i64 (4))]) (resC' (v:=(vAgg (ref06_Token.c (ref06_Token.zero)))) h49 (ldv_of (ld_agg (M:=Mt) (t:=59) f62 T.ag59 (by rw [ref06_Token.enc.len]; exact T.sz59) Seg.refl)) (resT' (v:=(.int .i64 (0))) rfl (resT' (v:=(.int .i64 (4))) rfl resN))) (fm_cons (flat_agg ref06_Token.enc _) (fm_cons rfl (fm_cons rfl fm_nil)))
    ·replace hm:=cond_f hm g59
     refine tk_skip okM ?_
     refine n46 _ ?_
     refine tk_seq_k fun K n65 x66=>?_
     refine tk_os okM hok fun J hJ=>?_
     refine rn_k (fun ⟨σ,H,_⟩=>Lk σ 4 (.pointer (some ⟨b1,0,none⟩)) ∧ Lk σ 7 (.int .i64 (x7_23)) ∧ Lk σ 8 (.int .i64 (x8_24)) ∧ Lk σ 9 (.int .i64 (x9_25)) ∧ Lk σ 59 (.bool ((decide (0 ≤ x9_25)) && (decide (x9_25 < x7_23)))) ∧ H[b1]? = some (.cells (ref06_Token.c x22) 59) ∧ Iv c.nb [] H0 H) (fun J hJ=>?_) ?_
     ·skip
      cases g75:decide (0 ≤ x9_25)
      ·skip
       simp only [C.f54r15,R,Nat.reduceEqDiff,h52,g75]
       refine hJ _ ?_
       exact ⟨h49,h50,h51,h52,(by first | rfl | (simp only [g75]; rfl) | simp only [g75,Lk,RB,Nat.reduceEqDiff,not_false_eq_true]),f54,i55⟩
      ·skip
       simp only [C.f54r15,R,Nat.reduceEqDiff,h52,g75,h50]
       refine hJ _ ?_
       exact ⟨h49,h50,h51,h52,(by first | rfl | (simp only [g75]; rfl) | simp only [g75,Lk,RB,Nat.reduceEqDiff,not_false_eq_true]),f54,i55⟩
     rintro ⟨σ76,H67,d77⟩ ⟨h68,h69,h70,h71,h72,f73,i74⟩
     refine hJ _ ?_
     refine tk_cond (t:=(decide (0 ≤ x9_25)) && (decide (x9_25 < x7_23))) h72 (fun g78=>?_) (fun g78=>?_)
     ·replace hm:=cond_t hm g78
      refine tk_os okM hok fun J hJ=>?_
      obtain ⟨H79,a80,f81,u82⟩:=st_ok (M:=Mt) (t:=59) (v:=(vAgg (ref06_Token.c (ref06_Token.zero)))) (c:=ref06_Token.c ref06_Token.zero) (cs':=ref06_Token.c ref06_Token.zero) f73 (by rw [ref06_Token.enc.len]; exact T.sz59) vAgg_cells (ref06_Token.enc.one _) (Nat.le_trans hcn r6) (le0 ref06_Token.enc.len) (wrs_all (eqL ref06_Token.enc.len))
      have i83:=i74.up u82 r6
      simp only [C.f54r16,R,Nat.reduceEqDiff,bd59_,a80,h68]
      refine hJ _ ?_
      refine tk_ret okM ?_
      refine x66 _ _ (by simp) ?_
      obtain rfl:=Option.some.inj hm
      exact end_flat (.inl rfl) (vs:=[(vAgg (ref06_Token.c (ref06_Token.zero))),(.int .i64 (0)),(.int .i64 (3))]) (resC' (v:=(vAgg (ref06_Token.c (ref06_Token.zero)))) h68 (ldv_of (ld_agg (M:=Mt) (t:=59) f81 T.ag59 (by rw [ref06_Token.enc.len]; exact T.sz59) Seg.refl)) (resT' (v:=(.int .i64 (0))) rfl (resT' (v:=(.int .i64 (3))) rfl resN))) (fm_cons (flat_agg ref06_Token.enc _) (fm_cons rfl (fm_cons rfl fm_nil)))
     ·replace hm:=cond_f hm g78
      refine tk_skip okM ?_
      refine n65 _ ?_
      refine tk_os okM hok fun J hJ=>?_
      obtain ⟨H84,a85,f86,u87⟩:=st_ok (M:=Mt) (t:=59) (v:=(vAgg (ref06_Token.c (({ ref06_Token.zero with f_Kind:=16,f_Min:=x7_23,f_Max:=x9_25 }:ref06_Token))))) (c:=ref06_Token.c (({ ref06_Token.zero with f_Kind:=16,f_Min:=x7_23,f_Max:=x9_25 }:ref06_Token))) (cs':=ref06_Token.c (({ ref06_Token.zero with f_Kind:=16,f_Min:=x7_23,f_Max:=x9_25 }:ref06_Token))) f73 (by rw [ref06_Token.enc.len]; exact T.sz59) vAgg_cells (ref06_Token.enc.one _) (Nat.le_trans hcn r6) (le0 ref06_Token.enc.len) (wrs_all (eqL ref06_Token.enc.len))
      have i88:=i74.up u87 r6
      simp only [C.f54r17,R,Nat.reduceEqDiff,h69,h71,bd59_0_2_3,h70,a85,h68]
      refine hJ _ ?_
      refine tk_ret okM ?_
      obtain rfl:=Option.some.inj hm
      exact end_flat (.inl rfl) (vs:=[(vAgg (ref06_Token.c (({ ref06_Token.zero with f_Kind:=16,f_Min:=x7_23,f_Max:=x9_25 }:ref06_Token)))),(.int .i64 (IntKind.i64.wrap (x8_24 + 1))),(.int .i64 (0))]) (resC' (v:=(vAgg (ref06_Token.c (({ ref06_Token.zero with f_Kind:=16,f_Min:=x7_23,f_Max:=x9_25 }:ref06_Token))))) h68 (ldv_of (ld_agg (M:=Mt) (t:=59) f86 T.ag59 (by rw [ref06_Token.enc.len]; exact T.sz59) Seg.refl)) (resT' (v:=(.int .i64 (IntKind.i64.wrap (x8_24 + 1)))) rfl (resT' (v:=(.int .i64 (0))) rfl resN))) (fm_cons (flat_agg ref06_Token.enc _) (fm_cons rfl (fm_cons rfl fm_nil)))
  ·refine fun K n89 x90=>?_
   refine tk_os okM hok fun J hJ=>?_
   obtain ⟨v92,ev92,hm⟩:=bind_s hm
   have a91:=ha_ref06_starts c.ro H2 x0 v12.2 ((⟨#[44]⟩:ByteArray)) v92 ev92
   simp only [C.f54r5,R,Nat.reduceEqDiff,c_fn F28,a91]
   refine hJ _ ?_
   refine tk_cond (t:=v92) rfl (fun g93=>?_) (fun g93=>?_)
   ·replace hm:=cond_t hm g93
    refine tk_os okM hok fun J hJ=>?_
    obtain ⟨v95,ev95,hm⟩:=bind_s hm
    have a94:=ha_ref06_count c.ro H2 x0 (IntKind.i64.wrap (v12.2 + 1)) v95 ev95
    simp only [C.f54r6,R,Nat.reduceEqDiff,c_fn F66,a94]
    refine hJ _ ?_
    refine tk_os okM hok fun J hJ=>?_
    simp only [C.f54r7,R,Nat.reduceEqDiff]
    refine hJ _ ?_
    refine tk_seq_j (fun ⟨σ,H,_⟩=>∃ x0_96 x97 x7_98 x9_99 x11_100,b_ref06_braces_2 c_ref06_starts c_ref06_count n x0_96 x97 x7_98 x9_99 x11_100 = some r ∧ Lk σ 0 (.string x0_96) ∧ Lk σ 4 (.pointer (some ⟨b1,0,none⟩)) ∧ Lk σ 7 (.int .i64 x7_98) ∧ Lk σ 9 (.int .i64 x9_99) ∧ Lk σ 11 (.int .i64 x11_100) ∧ H[b1]? = some (.cells (ref06_Token.c x97) 59) ∧ Iv c.nb [] H0 H) ?_ ?_
    ·skip
     rintro ⟨σ109,H101,d110⟩ ⟨x0_96,x97,x7_98,x9_99,x11_100,hm,h102,h103,h104,h105,h106,f107,i108⟩
     rw [b_ref06_braces_2] at hm
     refine tk_oe okM hok fun J hJ=>?_
     simp only [C.f54r10,R,Nat.reduceEqDiff,h106]
     refine hJ _ ?_
     refine n89 _ ?_
     exact ⟨x0_96,x97,x7_98,x11_100,x9_99,hm,h102,h103,h104,rfl,h105,f107,i108⟩
    ·refine fun K n111 x112=>?_
     refine tk_os okM hok fun J hJ=>?_
     simp only [C.f54r8,R,Nat.reduceEqDiff]
     refine hJ _ ?_
     refine tk_cond (t:=decide (v95.2 = (IntKind.i64.wrap (v12.2 + 1)))) rfl (fun g113=>?_) (fun g113=>?_)
     ·replace hm:=cond_t hm g113
      refine tk_oe okM hok fun J hJ=>?_
      simp only [C.f54r9,R,Nat.reduceEqDiff]
      refine hJ _ ?_
      refine n111 _ ?_
      exact ⟨x0,ref06_Token.zero,v12.1,(-1),v95.2,hm,rfl,rfl,rfl,rfl,rfl,f4,i9⟩
     ·replace hm:=cond_f hm g113
      refine tk_skip okM ?_
      refine n111 _ ?_
      exact ⟨x0,ref06_Token.zero,v12.1,v95.1,v95.2,hm,rfl,rfl,rfl,rfl,rfl,f4,i9⟩
   ·replace hm:=cond_f hm g93
    refine tk_skip okM ?_
    refine n89 _ ?_
    exact ⟨x0,ref06_Token.zero,v12.1,v12.2,v12.1,hm,rfl,rfl,rfl,rfl,rfl,f4,i9⟩
def b_ref06_word (c_ref01_Range:T_ref01_Range) (c_ref01_Or:T_ref01_Or) (c_ref06_one:T_ref06_one) (n:Nat):Option (ref01_Set):=(c_ref01_Range 48 57).bind fun v12=>(c_ref01_Range 97 122).bind fun v14=>(c_ref01_Or v12 v14).bind fun v16=>(c_ref01_Range 65 90).bind fun v18=>(c_ref06_one 95).bind fun v20=>(c_ref01_Or v18 v20).bind fun v22=>(c_ref01_Or v16 v22).bind fun v24=>some v24
theorem w_ref06_word {call:CallF} (hok:CallOk Mt call) {n:Nat} {c_ref01_Range:T_ref01_Range} (ha_ref01_Range:A_ref01_Range call c_ref01_Range) {c_ref01_Or:T_ref01_Or} (ha_ref01_Or:A_ref01_Or call c_ref01_Or) {c_ref06_one:T_ref06_one} (ha_ref06_one:A_ref06_one call c_ref06_one) {H0:Hp} {r:ref01_Set} {ro:Nat} (hro:ro ≤ H0.length) (hm:b_ref06_word c_ref01_Range c_ref01_Or c_ref06_one n = some r) :
  Pt Mt ro 55 [] H0 (vAgg (ref01_Set.c (r))) H0 []:=by
 refine pt_new0 okM F55d (by exact Nat.le_of_ble_eq_true rfl) ?_ hro
 intro c hnt hnb hcr
 have hcn:c.ro ≤ c.nb:=by omega
 have iv:Iv c.nb [] H0 H0:=by rw [hnb]; exact iv_refl
 rw [show args0 [] = [] from rfl]
 rw [b_ref06_word] at hm
 simp only [C.f55]
 refine tk_os okM hok fun J hJ=>?_
 obtain ⟨b1,H2,a3,f4,q5,r6,x7,i8⟩:=al_ok H0 68 (ref01_Set.c ref01_Set.zero) iv.le
 have i9:=i8 _ _ iv
 simp only [C.f55r0,R,Nat.reduceEqDiff,zs68,a3]
 refine hJ _ ?_
 refine tk_os okM hok fun J hJ=>?_
 obtain ⟨v12,ev12,hm⟩:=bind_s hm
 have a11:=ha_ref01_Range c.ro H2 48 57 v12 ev12
 obtain ⟨v14,ev14,hm⟩:=bind_s hm
 have a13:=ha_ref01_Range c.ro H2 97 122 v14 ev14
 obtain ⟨v16,ev16,hm⟩:=bind_s hm
 have a15:=ha_ref01_Or c.ro H2 v12 v14 v16 ev16
 obtain ⟨v18,ev18,hm⟩:=bind_s hm
 have a17:=ha_ref01_Range c.ro H2 65 90 v18 ev18
 obtain ⟨v20,ev20,hm⟩:=bind_s hm
 have a19:=ha_ref06_one c.ro H2 95 v20 ev20
 obtain ⟨v22,ev22,hm⟩:=bind_s hm
 have a21:=ha_ref01_Or c.ro H2 v18 v20 v22 ev22
 obtain ⟨v24,ev24,hm⟩:=bind_s hm
 have a23:=ha_ref01_Or c.ro H2 v16 v22 v24 ev24
 obtain ⟨H25,a26,f27,u28⟩:=st_ok (M:=Mt) (t:=68) (v:=(vAgg (ref01_Set.c (v24)))) (c:=ref01_Set.c v24) (cs':=ref01_Set.c v24) f4 (by rw [ref01_Set.enc.len]; exact T.sz68) vAgg_cells (ref01_Set.enc.one _) (Nat.le_trans hcn r6) (le0 ref01_Set.enc.len) (wrs_all (eqL ref01_Set.enc.len))
 have i29:=i9.up u28 r6
 simp only [C.f55r1,R,Nat.reduceEqDiff,c_fn F32,a11,a13,c_fn F33,a15,a17,c_fn F43,a19,a21,a23,a26]
 refine hJ _ ?_
 refine tk_ret okM ?_
 obtain rfl:=Option.some.inj hm
 exact end_flat (.inl rfl) (vs:=[(vAgg (ref01_Set.c (v24)))]) (resC' (v:=(vAgg (ref01_Set.c (v24)))) rfl (ldv_of (ld_agg (M:=Mt) (t:=68) f27 T.ag68 (by rw [ref01_Set.enc.len]; exact T.sz68) Seg.refl)) resN) (fm_cons (flat_agg ref01_Set.enc _) fm_nil)
def b_ref06_space (c_ref01_Range:T_ref01_Range) (c_ref01_Or:T_ref01_Or) (c_ref06_one:T_ref06_one) (n:Nat):Option (ref01_Set):=(c_ref01_Range 9 13).bind fun v12=>(c_ref06_one 32).bind fun v14=>(c_ref01_Or v12 v14).bind fun v16=>some v16
theorem w_ref06_space {call:CallF} (hok:CallOk Mt call) {n:Nat} {c_ref01_Range:T_ref01_Range} (ha_ref01_Range:A_ref01_Range call c_ref01_Range) {c_ref01_Or:T_ref01_Or} (ha_ref01_Or:A_ref01_Or call c_ref01_Or) {c_ref06_one:T_ref06_one} (ha_ref06_one:A_ref06_one call c_ref06_one) {H0:Hp} {r:ref01_Set} {ro:Nat} (hro:ro ≤ H0.length) (hm:b_ref06_space c_ref01_Range c_ref01_Or c_ref06_one n = some r) :
  Pt Mt ro 56 [] H0 (vAgg (ref01_Set.c (r))) H0 []:=by
 refine pt_new0 okM F56d (by exact Nat.le_of_ble_eq_true rfl) ?_ hro
 intro c hnt hnb hcr
 have hcn:c.ro ≤ c.nb:=by omega
 have iv:Iv c.nb [] H0 H0:=by rw [hnb]; exact iv_refl
 rw [show args0 [] = [] from rfl]
 rw [b_ref06_space] at hm
 simp only [C.f56]
 refine tk_os okM hok fun J hJ=>?_
 obtain ⟨b1,H2,a3,f4,q5,r6,x7,i8⟩:=al_ok H0 68 (ref01_Set.c ref01_Set.zero) iv.le
 have i9:=i8 _ _ iv
 simp only [C.f56r0,R,Nat.reduceEqDiff,zs68,a3]
 refine hJ _ ?_
 refine tk_os okM hok fun J hJ=>?_
 obtain ⟨v12,ev12,hm⟩:=bind_s hm
 have a11:=ha_ref01_Range c.ro H2 9 13 v12 ev12
 obtain ⟨v14,ev14,hm⟩:=bind_s hm
 have a13:=ha_ref06_one c.ro H2 32 v14 ev14
 obtain ⟨v16,ev16,hm⟩:=bind_s hm
 have a15:=ha_ref01_Or c.ro H2 v12 v14 v16 ev16
 obtain ⟨H17,a18,f19,u20⟩:=st_ok (M:=Mt) (t:=68) (v:=(vAgg (ref01_Set.c (v16)))) (c:=ref01_Set.c v16) (cs':=ref01_Set.c v16) f4 (by rw [ref01_Set.enc.len]; exact T.sz68) vAgg_cells (ref01_Set.enc.one _) (Nat.le_trans hcn r6) (le0 ref01_Set.enc.len) (wrs_all (eqL ref01_Set.enc.len))
 have i21:=i9.up u20 r6
 simp only [C.f56r1,R,Nat.reduceEqDiff,c_fn F32,a11,c_fn F43,a13,c_fn F33,a15,a18]
 refine hJ _ ?_
 refine tk_ret okM ?_
 obtain rfl:=Option.some.inj hm
 exact end_flat (.inl rfl) (vs:=[(vAgg (ref01_Set.c (v16)))]) (resC' (v:=(vAgg (ref01_Set.c (v16)))) rfl (ldv_of (ld_agg (M:=Mt) (t:=68) f19 T.ag68 (by rw [ref01_Set.enc.len]; exact T.sz68) Seg.refl)) resN) (fm_cons (flat_agg ref01_Set.enc _) fm_nil)
def b_ref06_Digit_1 (n:Nat):Nat → Int → Int → Option (Int)
 | 0,_,_=>none
 | k + 1,x0_6,x3_7=>bif decide (x3_7 < 16) then ((bt ((⟨#[48,49,50,51,52,53,54,55,56,57,97,98,99,100,101,102]⟩:ByteArray)) x3_7).bind fun v24=>(bif decide (x0_6 = v24) then some true else ((bt ((⟨#[48,49,50,51,52,53,54,55,56,57,65,66,67,68,69,70]⟩:ByteArray)) x3_7).bind fun v25=>some (decide (x0_6 = v25)))).bind fun y26=>bif y26 then (some x3_7) else (b_ref06_Digit_1 n k x0_6 (IntKind.i64.wrap (x3_7 + 1)))) else (some ((-1)))
def b_ref06_Digit (n:Nat) (x0:Int):Option (Int):=b_ref06_Digit_1 n n x0 0
theorem w_ref06_Digit {call:CallF} (hok:CallOk Mt call) {n:Nat} {H0:Hp} {x0:Int} {r:Int} {ro:Nat} (hro:ro ≤ H0.length) (hm:b_ref06_Digit n x0 = some r) :
  Pt Mt ro 57 [(.int .u8 x0)] H0 (.int .i64 (r)) H0 []:=by
 refine pt_new0 okM F57d (by exact Nat.le_of_ble_eq_true rfl) ?_ hro
 intro c hnt hnb hcr
 have hcn:c.ro ≤ c.nb:=by omega
 have iv:Iv c.nb [] H0 H0:=by rw [hnb]; exact iv_refl
 rw [show args0 [(.int .u8 x0)] = [(0,(.int .u8 x0))] from rfl]
 rw [b_ref06_Digit] at hm
 simp only [C.f57,C.f57b0]
 refine tk_os okM hok fun J hJ=>?_
 simp only [C.f57r0,R,Nat.reduceEqDiff]
 refine hJ _ ?_
 refine tk_seq_k fun K n1 x2=>?_
 refine tk_os okM hok fun J hJ=>?_
 simp only [C.f57r1,R,Nat.reduceEqDiff]
 refine hJ _ ?_
 refine tk_block_k fun K n3 e4 x5=>?_
 refine tk_loop_k (n:=n) (fun k1 ⟨σ,H,_⟩=>∃ x0_6 x3_7,b_ref06_Digit_1 n k1 x0_6 x3_7 = some r ∧ Lk σ 0 (.int .u8 x0_6) ∧ Lk σ 3 (.int .i64 x3_7) ∧ Iv c.nb [] H0 H) ?_ ?_ ?_
 ·exact ⟨x0,0,hm,rfl,rfl,iv⟩
 ·rintro ⟨σ,H,d⟩ ⟨_,_,hm,_⟩
  cases hm
 ·intro k1 K n8 x9
  rintro ⟨σ14,H10,d15⟩ ⟨x0_6,x3_7,hm,h11,h12,i13⟩
  rw [b_ref06_Digit_1.eq_2] at hm
  refine tk_seq_k fun K n16 x17=>?_
  refine tk_os okM hok fun J hJ=>?_
  simp only [C.f57r2,R,Nat.reduceEqDiff,h12]
  refine hJ _ ?_
  refine tk_cond (t:=decide (x3_7 < 16)) rfl (fun g18=>?_) (fun g18=>?_)
  ·replace hm:=cond_t hm g18
   refine tk_skip okM ?_
   refine n16 _ ?_
   refine tk_seq_k fun K n19 x20=>?_
   refine tk_block_k fun K n21 e22 x23=>?_
   refine tk_os okM hok fun J hJ=>?_
   obtain ⟨v24,ev24,hm⟩:=bind_s hm
   obtain ⟨y26,ey26,hm⟩:=bind_s hm
   refine rn_k (fun ⟨σ,H,_⟩=>Lk σ 0 (.int .u8 (x0_6)) ∧ Lk σ 3 (.int .i64 (x3_7)) ∧ Lk σ 17 (.bool (y26)) ∧ Iv c.nb [] H0 H) (fun J hJ=>?_) ?_
   ·skip
    cases g32:decide (x0_6 = v24)
    ·skip
     have ey26:=cond_f ey26 g32
     obtain ⟨v33,ev33,ey26⟩:=bind_s ey26
     obtain rfl:=Option.some.inj ey26
     simp only [C.f57r4,R,Nat.reduceEqDiff,h11,h12,idxP_str (M:=Mt) Tryd.underlying9,ev24,g32,ev33]
     refine hJ _ ?_
     exact ⟨h11,h12,(by first | rfl | (simp only [g32]; rfl) | simp only [g32,Lk,RB,Nat.reduceEqDiff,not_false_eq_true]),i13⟩
    ·skip
     have ey26:=cond_t ey26 g32
     obtain rfl:=Option.some.inj ey26
     simp only [C.f57r4,R,Nat.reduceEqDiff,h11,h12,idxP_str (M:=Mt) Tryd.underlying9,ev24,g32]
     refine hJ _ ?_
     exact ⟨h11,h12,(by first | rfl | (simp only [g32]; rfl) | simp only [g32,Lk,RB,Nat.reduceEqDiff,not_false_eq_true]),i13⟩
   rintro ⟨σ34,H27,d35⟩ ⟨h28,h29,h30,i31⟩
   refine hJ _ ?_
   refine tk_cond (t:=y26) h30 (fun g36=>?_) (fun g36=>?_)
   ·replace hm:=cond_t hm g36
    refine tk_os okM hok fun J hJ=>?_
    simp only [C.f57r5,R,Nat.reduceEqDiff,h29]
    refine hJ _ ?_
    refine tk_ret okM ?_
    refine x23 _ _ (by simp) (by simp) ?_
    refine x20 _ _ (by simp) ?_
    refine x9 _ _ (by simp) ?_
    refine x5 _ _ (by simp) (by simp) ?_
    refine x2 _ _ (by simp) ?_
    obtain rfl:=Option.some.inj hm
    exact end_flat (.inl rfl) (vs:=[(.int .i64 (x3_7))]) (resT' (v:=(.int .i64 (x3_7))) rfl resN) (fm_cons rfl fm_nil)
   ·replace hm:=cond_f hm g36
    refine tk_skip okM ?_
    refine n21 _ ?_
    refine n19 _ ?_
    refine tk_oe okM hok fun J hJ=>?_
    simp only [C.f57r3,R,Nat.reduceEqDiff,h29]
    refine hJ _ ?_
    refine n8 _ ?_
    exact ⟨x0_6,IntKind.i64.wrap (x3_7 + 1),hm,h28,rfl,i31⟩
  ·replace hm:=cond_f hm g18
   refine tk_exit okM ?_
   refine x17 _ _ (by simp) ?_
   refine x9 _ _ (by simp) ?_
   refine e4 _ ?_
   refine n1 _ ?_
   refine tk_os okM hok fun J hJ=>?_
   simp only [C.f57r6,R,Nat.reduceEqDiff]
   refine hJ _ ?_
   refine tk_ret okM ?_
   obtain rfl:=Option.some.inj hm
   exact end_flat (.inl rfl) (vs:=[(.int .i64 ((-1)))]) (resT' (v:=(.int .i64 ((-1)))) rfl resN) (fm_cons rfl fm_nil)
def b_bits_TrailingZeros64 (n:Nat) (x0:Int):Option (Int):=bif decide (x0 = 0) then (some 64) else ((shrO .u64 (IntKind.u64.wrap ((andI .u64 x0 (IntKind.u64.wrap (0 - x0))) * 285870213051353865)) 58).bind fun v4=>(ck 64 v4).bind fun j5=>some (IntKind.i64.wrap (tabN0 j5)))
theorem w_bits_TrailingZeros64 {call:CallF} (hok:CallOk Mt call) {n:Nat} {H0:Hp} {x0:Int} {r:Int} {ro:Nat} (hro:ro ≤ H0.length) (hm:b_bits_TrailingZeros64 n x0 = some r) (hG0:TabH0 H0) :
  Pt Mt ro 58 [(.int .u64 x0)] H0 (.int .i64 (r)) H0 []:=by
 refine pt_new0 okM F58d (by exact Nat.le_of_ble_eq_true rfl) ?_ hro
 intro c hnt hnb hcr
 have hcn:c.ro ≤ c.nb:=by omega
 have iv:Iv c.nb [] H0 H0:=by rw [hnb]; exact iv_refl
 rw [show args0 [(.int .u64 x0)] = [(0,(.int .u64 x0))] from rfl]
 rw [b_bits_TrailingZeros64] at hm
 simp only [C.f58]
 refine tk_os okM hok fun J hJ=>?_
 simp only [C.f58r0,R,Nat.reduceEqDiff]
 refine hJ _ ?_
 refine tk_seq_k fun K n1 x2=>?_
 refine tk_os okM hok fun J hJ=>?_
 simp only [C.f58r1,R,Nat.reduceEqDiff]
 refine hJ _ ?_
 refine tk_cond (t:=decide (x0 = 0)) rfl (fun g3=>?_) (fun g3=>?_)
 ·replace hm:=cond_t hm g3
  refine tk_os okM hok fun J hJ=>?_
  simp only [C.f58r2,R,Nat.reduceEqDiff]
  refine hJ _ ?_
  refine tk_ret okM ?_
  refine x2 _ _ (by simp) ?_
  obtain rfl:=Option.some.inj hm
  exact end_flat (.inl rfl) (vs:=[(.int .i64 (64))]) (resT' (v:=(.int .i64 (64))) rfl resN) (fm_cons rfl fm_nil)
 ·replace hm:=cond_f hm g3
  refine tk_skip okM ?_
  refine n1 _ ?_
  refine tk_os okM hok fun J hJ=>?_
  obtain ⟨v4,ev4,hm⟩:=bind_s hm
  obtain ⟨j5,ej5,hm⟩:=bind_s hm
  have a6:=ld_tab (M:=Mt) (t:=5) (tabIv0 iv hnb hG0) T.ag5 (tabG0 (ck_lt ej5).1)
  simp only [C.f58r3,R,Nat.reduceEqDiff,ev4,ia100,ej5,a6,cv_int (M:=Mt) Tryd.underlying5 Tryd.underlying3]
  refine hJ _ ?_
  refine tk_ret okM ?_
  obtain rfl:=Option.some.inj hm
  exact end_flat (.inl rfl) (vs:=[(.int .i64 (IntKind.i64.wrap (tabN0 j5)))]) (resT' (v:=(.int .i64 (IntKind.i64.wrap (tabN0 j5)))) rfl resN) (fm_cons rfl fm_nil)
def b_bits_OnesCount64 (n:Nat) (x0:Int):Option (Int):=(shrO .u64 x0 1).bind fun v1=>(shrO .u64 (IntKind.u64.wrap ((andI .u64 v1 6148914691236517205) + (andI .u64 x0 6148914691236517205))) 2).bind fun v2=>(shrO .u64 (IntKind.u64.wrap ((andI .u64 v2 3689348814741910323) + (andI .u64 (IntKind.u64.wrap ((andI .u64 v1 6148914691236517205) + (andI .u64 x0 6148914691236517205))) 3689348814741910323))) 4).bind fun v3=>(shrO .u64 (andI .u64 (IntKind.u64.wrap (v3 + (IntKind.u64.wrap ((andI .u64 v2 3689348814741910323) + (andI .u64 (IntKind.u64.wrap ((andI .u64 v1 6148914691236517205) + (andI .u64 x0 6148914691236517205))) 3689348814741910323))))) 1085102592571150095) 8).bind fun v4=>(shrO .u64 (IntKind.u64.wrap ((andI .u64 (IntKind.u64.wrap (v3 + (IntKind.u64.wrap ((andI .u64 v2 3689348814741910323) + (andI .u64 (IntKind.u64.wrap ((andI .u64 v1 6148914691236517205) + (andI .u64 x0 6148914691236517205))) 3689348814741910323))))) 1085102592571150095) + v4)) 16).bind fun v5=>(shrO .u64 (IntKind.u64.wrap ((IntKind.u64.wrap ((andI .u64 (IntKind.u64.wrap (v3 + (IntKind.u64.wrap ((andI .u64 v2 3689348814741910323) + (andI .u64 (IntKind.u64.wrap ((andI .u64 v1 6148914691236517205) + (andI .u64 x0 6148914691236517205))) 3689348814741910323))))) 1085102592571150095) + v4)) + v5)) 32).bind fun v6=>some (andI .i64 (IntKind.i64.wrap (IntKind.u64.wrap ((IntKind.u64.wrap ((IntKind.u64.wrap ((andI .u64 (IntKind.u64.wrap (v3 + (IntKind.u64.wrap ((andI .u64 v2 3689348814741910323) + (andI .u64 (IntKind.u64.wrap ((andI .u64 v1 6148914691236517205) + (andI .u64 x0 6148914691236517205))) 3689348814741910323))))) 1085102592571150095) + v4)) + v5)) + v6))) 127)
theorem w_bits_OnesCount64 {call:CallF} (hok:CallOk Mt call) {n:Nat} {H0:Hp} {x0:Int} {r:Int} {ro:Nat} (hro:ro ≤ H0.length) (hm:b_bits_OnesCount64 n x0 = some r) :
  Pt Mt ro 59 [(.int .u64 x0)] H0 (.int .i64 (r)) H0 []:=by
 refine pt_new0 okM F59d (by exact Nat.le_of_ble_eq_true rfl) ?_ hro
 intro c hnt hnb hcr
 have hcn:c.ro ≤ c.nb:=by omega
 have iv:Iv c.nb [] H0 H0:=by rw [hnb]; exact iv_refl
 rw [show args0 [(.int .u64 x0)] = [(0,(.int .u64 x0))] from rfl]
 rw [b_bits_OnesCount64] at hm
 simp only [C.f59]
 refine tk_os okM hok fun J hJ=>?_
 simp only [C.f59r0,R,Nat.reduceEqDiff]
 refine hJ _ ?_
 refine tk_os okM hok fun J hJ=>?_
 obtain ⟨v1,ev1,hm⟩:=bind_s hm
 simp only [C.f59r1,R,Nat.reduceEqDiff,ev1]
 refine hJ _ ?_
 refine tk_os okM hok fun J hJ=>?_
 obtain ⟨v2,ev2,hm⟩:=bind_s hm
 simp only [C.f59r2,R,Nat.reduceEqDiff,ev2]
 refine hJ _ ?_
 refine tk_os okM hok fun J hJ=>?_
 obtain ⟨v3,ev3,hm⟩:=bind_s hm
 simp only [C.f59r3,R,Nat.reduceEqDiff,ev3]
 refine hJ _ ?_
 refine tk_os okM hok fun J hJ=>?_
 obtain ⟨v4,ev4,hm⟩:=bind_s hm
 simp only [C.f59r4,R,Nat.reduceEqDiff,ev4]
 refine hJ _ ?_
 refine tk_os okM hok fun J hJ=>?_
 obtain ⟨v5,ev5,hm⟩:=bind_s hm
 simp only [C.f59r5,R,Nat.reduceEqDiff,ev5]
 refine hJ _ ?_
 refine tk_os okM hok fun J hJ=>?_
 obtain ⟨v6,ev6,hm⟩:=bind_s hm
 simp only [C.f59r6,R,Nat.reduceEqDiff,ev6]
 refine hJ _ ?_
 refine tk_os okM hok fun J hJ=>?_
 simp only [C.f59r7,R,Nat.reduceEqDiff,cv_int (M:=Mt) Tryd.underlying33 Tryd.underlying3]
 refine hJ _ ?_
 refine tk_ret okM ?_
 obtain rfl:=Option.some.inj hm
 exact end_flat (.inl rfl) (vs:=[(.int .i64 (andI .i64 (IntKind.i64.wrap (IntKind.u64.wrap ((IntKind.u64.wrap ((IntKind.u64.wrap ((andI .u64 (IntKind.u64.wrap (v3 + (IntKind.u64.wrap ((andI .u64 v2 3689348814741910323) + (andI .u64 (IntKind.u64.wrap ((andI .u64 v1 6148914691236517205) + (andI .u64 x0 6148914691236517205))) 3689348814741910323))))) 1085102592571150095) + v4)) + v5)) + v6))) 127))]) (resT' (v:=(.int .i64 (andI .i64 (IntKind.i64.wrap (IntKind.u64.wrap ((IntKind.u64.wrap ((IntKind.u64.wrap ((andI .u64 (IntKind.u64.wrap (v3 + (IntKind.u64.wrap ((andI .u64 v2 3689348814741910323) + (andI .u64 (IntKind.u64.wrap ((andI .u64 v1 6148914691236517205) + (andI .u64 x0 6148914691236517205))) 3689348814741910323))))) 1085102592571150095) + v4)) + v5)) + v6))) 127))) rfl resN) (fm_cons rfl fm_nil)
def b_stringslite_IndexByte (n:Nat) (x0:ByteArray) (x1:Int):Option (Int):=some (ixByte x0 x1)
theorem w_stringslite_IndexByte {call:CallF} (hok:CallOk Mt call) {n:Nat} {H0:Hp} {x0:ByteArray} {x1:Int} {r:Int} {ro:Nat} (hro:ro ≤ H0.length) (hm:b_stringslite_IndexByte n x0 x1 = some r) :
  Pt Mt ro 60 [(.string x0),(.int .u8 x1)] H0 (.int .i64 (r)) H0 []:=by
 refine pt_new0 okM F60d (by exact Nat.le_of_ble_eq_true rfl) ?_ hro
 intro c hnt hnb hcr
 have hcn:c.ro ≤ c.nb:=by omega
 have iv:Iv c.nb [] H0 H0:=by rw [hnb]; exact iv_refl
 rw [show args0 [(.string x0),(.int .u8 x1)] = [(0,(.string x0)),(1,(.int .u8 x1))] from rfl]
 rw [b_stringslite_IndexByte] at hm
 simp only [C.f60]
 refine tk_os okM hok fun J hJ=>?_
 simp only [C.f60r0,R,Nat.reduceEqDiff]
 refine hJ _ ?_
 refine tk_os okM hok fun J hJ=>?_
 simp only [C.f60r1,R,Nat.reduceEqDiff,c_x (show Mt.F 67 = none from rfl),x67]
 refine hJ _ ?_
 refine tk_ret okM ?_
 obtain rfl:=Option.some.inj hm
 exact end_flat (.inl rfl) (vs:=[(.int .i64 (ixByte x0 x1))]) (resT' (v:=(.int .i64 (ixByte x0 x1))) rfl resN) (fm_cons rfl fm_nil)
def b_lex_count_1 (c_lex_digit:T_lex_digit) (n:Nat):Nat → ByteArray → Int → Int → Option (Int × Int)
 | 0,_,_,_=>none
 | k + 1,x0_6,x4_7,x5_8=>(bif (decide (x5_8 < ((x0_6.size:Int)))) && (decide (x5_8 < 3)) then ((bt x0_6 x5_8).bind fun v29=>(c_lex_digit v29 10).bind fun v31=>some (decide (0 ≤ v31))) else some false).bind fun y32=>bif y32 then ((bt x0_6 x5_8).bind fun v49=>(c_lex_digit v49 10).bind fun v51=>b_lex_count_1 c_lex_digit n k x0_6 (IntKind.i64.wrap ((IntKind.i64.wrap (x4_7 * 10)) + v51)) (IntKind.i64.wrap (x5_8 + 1))) else (some (x4_7,x5_8))
def b_lex_count (c_lex_digit:T_lex_digit) (n:Nat) (x0:ByteArray):Option (Int × Int):=b_lex_count_1 c_lex_digit n n x0 0 0
theorem w_lex_count {call:CallF} (hok:CallOk Mt call) {n:Nat} {c_lex_digit:T_lex_digit} (ha_lex_digit:A_lex_digit call c_lex_digit) {H0:Hp} {x0:ByteArray} {r:Int × Int} {ro:Nat} (hro:ro ≤ H0.length) (hm:b_lex_count c_lex_digit n x0 = some r) :
  Pt Mt ro 61 [(.string x0)] H0 (.tuple [(.int .i64 (r.1)),(.int .i64 (r.2))].toArray) H0 []:=by
 refine pt_new0 okM F61d (by exact Nat.le_of_ble_eq_true rfl) ?_ hro
 intro c hnt hnb hcr
 have hcn:c.ro ≤ c.nb:=by omega
 have iv:Iv c.nb [] H0 H0:=by rw [hnb]; exact iv_refl
 rw [show args0 [(.string x0)] = [(0,(.string x0))] from rfl]
 rw [b_lex_count] at hm
 simp only [C.f61,C.f61b0]
 refine tk_os okM hok fun J hJ=>?_
 simp only [C.f61r0,R,Nat.reduceEqDiff]
 refine hJ _ ?_
 refine tk_os okM hok fun J hJ=>?_
 simp only [C.f61r1,R,Nat.reduceEqDiff]
 refine hJ _ ?_
 refine tk_seq_k fun K n1 x2=>?_
 refine tk_block_k fun K n3 e4 x5=>?_
 refine tk_loop_k (n:=n) (fun k1 ⟨σ,H,_⟩=>∃ x0_6 x4_7 x5_8,b_lex_count_1 c_lex_digit n k1 x0_6 x4_7 x5_8 = some r ∧ Lk σ 0 (.string x0_6) ∧ Lk σ 4 (.int .i64 x4_7) ∧ Lk σ 5 (.int .i64 x5_8) ∧ Iv c.nb [] H0 H) ?_ ?_ ?_
 ·exact ⟨x0,0,0,hm,rfl,rfl,rfl,iv⟩
 ·rintro ⟨σ,H,d⟩ ⟨_,_,_,hm,_⟩
  cases hm
 ·intro k1 K n9 x10
  rintro ⟨σ16,H11,d17⟩ ⟨x0_6,x4_7,x5_8,hm,h12,h13,h14,i15⟩
  rw [b_lex_count_1.eq_2] at hm
  refine tk_seq_k fun K n18 x19=>?_
  refine tk_os okM hok fun J hJ=>?_
  rw [C.f61r2]
  refine rn_app_k (fun ⟨σ,H,_⟩=>Lk σ 0 (.string (x0_6)) ∧ Lk σ 4 (.int .i64 (x4_7)) ∧ Lk σ 5 (.int .i64 (x5_8)) ∧ Lk σ 13 (.bool ((decide (x5_8 < ((x0_6.size:Int)))) && (decide (x5_8 < 3)))) ∧ Iv c.nb [] H0 H) (fun J hJ=>?_) ?_
  ·skip
   cases g26:decide (x5_8 < ((x0_6.size:Int)))
   ·skip
    simp only [C.f61r2p0,R,Nat.reduceEqDiff,h14,h12,len_str (M:=Mt) Tryd.underlying9,g26]
    refine hJ _ ?_
    exact ⟨h12,h13,h14,(by first | rfl | (simp only [g26]; rfl) | simp only [g26,Lk,RB,Nat.reduceEqDiff,not_false_eq_true]),i15⟩
   ·skip
    simp only [C.f61r2p0,R,Nat.reduceEqDiff,h14,h12,len_str (M:=Mt) Tryd.underlying9,g26]
    refine hJ _ ?_
    exact ⟨h12,h13,h14,(by first | rfl | (simp only [g26]; rfl) | simp only [g26,Lk,RB,Nat.reduceEqDiff,not_false_eq_true]),i15⟩
  rintro ⟨σ27,H20,d28⟩ ⟨h21,h22,h23,h24,i25⟩
  obtain ⟨y32,ey32,hm⟩:=bind_s hm
  refine rn_k (fun ⟨σ,H,_⟩=>Lk σ 0 (.string (x0_6)) ∧ Lk σ 4 (.int .i64 (x4_7)) ∧ Lk σ 5 (.int .i64 (x5_8)) ∧ Lk σ 20 (.bool (y32)) ∧ Iv c.nb [] H0 H) (fun J hJ=>?_) ?_
  ·skip
   cases g39:(decide (x5_8 < ((x0_6.size:Int)))) && (decide (x5_8 < 3))
   ·skip
    have ey32:=cond_f ey32 g39
    obtain rfl:=Option.some.inj ey32
    simp only [C.f61r2p1,R,Nat.reduceEqDiff,h24,g39]
    refine hJ _ ?_
    exact ⟨h21,h22,h23,(by first | rfl | (simp only [g39]; rfl) | simp only [g39,Lk,RB,Nat.reduceEqDiff,not_false_eq_true]),i25⟩
   ·skip
    have ey32:=cond_t ey32 g39
    obtain ⟨v40,ev40,ey32⟩:=bind_s ey32
    obtain ⟨v42,ev42,ey32⟩:=bind_s ey32
    have a41:=ha_lex_digit c.ro H20 v40 10 v42 ev42
    obtain rfl:=Option.some.inj ey32
    simp only [C.f61r2p1,R,Nat.reduceEqDiff,h24,g39,h21,h23,idxP_str (M:=Mt) Tryd.underlying9,ev40,c_fn F52,a41]
    refine hJ _ ?_
    exact ⟨h21,h22,h23,(by first | rfl | (simp only [g39]; rfl) | simp only [g39,Lk,RB,Nat.reduceEqDiff,not_false_eq_true]),i25⟩
  rintro ⟨σ43,H33,d44⟩ ⟨h34,h35,h36,h37,i38⟩
  refine hJ _ ?_
  refine tk_cond (t:=y32) h37 (fun g45=>?_) (fun g45=>?_)
  ·replace hm:=cond_t hm g45
   refine tk_skip okM ?_
   refine n18 _ ?_
   refine tk_block_k fun K n46 e47 x48=>?_
   refine tk_os okM hok fun J hJ=>?_
   obtain ⟨v49,ev49,hm⟩:=bind_s hm
   obtain ⟨v51,ev51,hm⟩:=bind_s hm
   have a50:=ha_lex_digit c.ro H33 v49 10 v51 ev51
   simp only [C.f61r3,R,Nat.reduceEqDiff,h35,h34,h36,idxP_str (M:=Mt) Tryd.underlying9,ev49,c_fn F52,a50]
   refine hJ _ ?_
   refine tk_oe okM hok fun J hJ=>?_
   simp only [C.f61r4,R,Nat.reduceEqDiff,h36]
   refine hJ _ ?_
   refine n46 _ ?_
   refine n9 _ ?_
   exact ⟨x0_6,IntKind.i64.wrap ((IntKind.i64.wrap (x4_7 * 10)) + v51),IntKind.i64.wrap (x5_8 + 1),hm,h34,rfl,rfl,i38⟩
  ·replace hm:=cond_f hm g45
   refine tk_exit okM ?_
   refine x19 _ _ (by simp) ?_
   refine x10 _ _ (by simp) ?_
   refine e4 _ ?_
   refine n1 _ ?_
   refine tk_os okM hok fun J hJ=>?_
   simp only [C.f61r5,R,Nat.reduceEqDiff,h35,h36]
   refine hJ _ ?_
   refine tk_ret okM ?_
   obtain rfl:=Option.some.inj hm
   exact end_flat (.inl rfl) (vs:=[(.int .i64 (x4_7)),(.int .i64 (x5_8))]) (resT' (v:=(.int .i64 (x4_7))) rfl (resT' (v:=(.int .i64 (x5_8))) rfl resN)) (fm_cons rfl (fm_cons rfl fm_nil))
def b_lex_digits (c_class_Range:T_class_Range) (n:Nat):Option (class_Set):=(c_class_Range 48 57).bind fun v12=>some v12
theorem w_lex_digits {call:CallF} (hok:CallOk Mt call) {n:Nat} {c_class_Range:T_class_Range} (ha_class_Range:A_class_Range call c_class_Range) {H0:Hp} {r:class_Set} {ro:Nat} (hro:ro ≤ H0.length) (hm:b_lex_digits c_class_Range n = some r) :
  Pt Mt ro 62 [] H0 (vAgg (class_Set.c (r))) H0 []:=by
 refine pt_new0 okM F62d (by exact Nat.le_of_ble_eq_true rfl) ?_ hro
 intro c hnt hnb hcr
 have hcn:c.ro ≤ c.nb:=by omega
 have iv:Iv c.nb [] H0 H0:=by rw [hnb]; exact iv_refl
 rw [show args0 [] = [] from rfl]
 rw [b_lex_digits] at hm
 simp only [C.f62]
 refine tk_os okM hok fun J hJ=>?_
 obtain ⟨b1,H2,a3,f4,q5,r6,x7,i8⟩:=al_ok H0 36 (class_Set.c class_Set.zero) iv.le
 have i9:=i8 _ _ iv
 simp only [C.f62r0,R,Nat.reduceEqDiff,zs36,a3]
 refine hJ _ ?_
 refine tk_os okM hok fun J hJ=>?_
 obtain ⟨v12,ev12,hm⟩:=bind_s hm
 have a11:=ha_class_Range c.ro H2 48 57 v12 ev12
 obtain ⟨H13,a14,f15,u16⟩:=st_ok (M:=Mt) (t:=36) (v:=(vAgg (class_Set.c (v12)))) (c:=class_Set.c v12) (cs':=class_Set.c v12) f4 (by rw [class_Set.enc.len]; exact T.sz36) vAgg_cells (class_Set.enc.one _) (Nat.le_trans hcn r6) (le0 class_Set.enc.len) (wrs_all (eqL class_Set.enc.len))
 have i17:=i9.up u16 r6
 simp only [C.f62r1,R,Nat.reduceEqDiff,c_fn F20,a11,a14]
 refine hJ _ ?_
 refine tk_ret okM ?_
 obtain rfl:=Option.some.inj hm
 exact end_flat (.inl rfl) (vs:=[(vAgg (class_Set.c (v12)))]) (resC' (v:=(vAgg (class_Set.c (v12)))) rfl (ldv_of (ld_agg (M:=Mt) (t:=36) f15 T.ag36 (by rw [class_Set.enc.len]; exact T.sz36) Seg.refl)) resN) (fm_cons (flat_agg class_Set.enc _) fm_nil)
def b_lex_words (c_class_One:T_class_One) (c_class_Range:T_class_Range) (c_class_Set_Or:T_class_Set_Or) (c_lex_digits:T_lex_digits) (n:Nat):Option (class_Set):=(c_lex_digits).bind fun v12=>(c_class_Range 97 122).bind fun v14=>(c_class_Set_Or v12 v14).bind fun v16=>(c_class_Range 65 90).bind fun v18=>(c_class_Set_Or v16 v18).bind fun v20=>(c_class_One 95).bind fun v22=>(c_class_Set_Or v20 v22).bind fun v24=>some v24
theorem w_lex_words {call:CallF} (hok:CallOk Mt call) {n:Nat} {c_class_One:T_class_One} (ha_class_One:A_class_One call c_class_One) {c_class_Range:T_class_Range} (ha_class_Range:A_class_Range call c_class_Range) {c_class_Set_Or:T_class_Set_Or} (ha_class_Set_Or:A_class_Set_Or call c_class_Set_Or) {c_lex_digits:T_lex_digits} (ha_lex_digits:A_lex_digits call c_lex_digits) {H0:Hp} {r:class_Set} {ro:Nat} (hro:ro ≤ H0.length) (hm:b_lex_words c_class_One c_class_Range c_class_Set_Or c_lex_digits n = some r) :
  Pt Mt ro 63 [] H0 (vAgg (class_Set.c (r))) H0 []:=by
 refine pt_new0 okM F63d (by exact Nat.le_of_ble_eq_true rfl) ?_ hro
 intro c hnt hnb hcr
 have hcn:c.ro ≤ c.nb:=by omega
 have iv:Iv c.nb [] H0 H0:=by rw [hnb]; exact iv_refl
 rw [show args0 [] = [] from rfl]
 rw [b_lex_words] at hm
 simp only [C.f63]
 refine tk_os okM hok fun J hJ=>?_
 obtain ⟨b1,H2,a3,f4,q5,r6,x7,i8⟩:=al_ok H0 36 (class_Set.c class_Set.zero) iv.le
 have i9:=i8 _ _ iv
 simp only [C.f63r0,R,Nat.reduceEqDiff,zs36,a3]
 refine hJ _ ?_
 refine tk_os okM hok fun J hJ=>?_
 obtain ⟨v12,ev12,hm⟩:=bind_s hm
 have a11:=ha_lex_digits c.ro H2  v12 ev12
 obtain ⟨v14,ev14,hm⟩:=bind_s hm
 have a13:=ha_class_Range c.ro H2 97 122 v14 ev14
 obtain ⟨v16,ev16,hm⟩:=bind_s hm
 have a15:=ha_class_Set_Or c.ro H2 v12 v14 v16 ev16
 obtain ⟨v18,ev18,hm⟩:=bind_s hm
 have a17:=ha_class_Range c.ro H2 65 90 v18 ev18
 obtain ⟨v20,ev20,hm⟩:=bind_s hm
 have a19:=ha_class_Set_Or c.ro H2 v16 v18 v20 ev20
 obtain ⟨v22,ev22,hm⟩:=bind_s hm
 have a21:=ha_class_One c.ro H2 95 v22 ev22
 obtain ⟨v24,ev24,hm⟩:=bind_s hm
 have a23:=ha_class_Set_Or c.ro H2 v20 v22 v24 ev24
 obtain ⟨H25,a26,f27,u28⟩:=st_ok (M:=Mt) (t:=36) (v:=(vAgg (class_Set.c (v24)))) (c:=class_Set.c v24) (cs':=class_Set.c v24) f4 (by rw [class_Set.enc.len]; exact T.sz36) vAgg_cells (class_Set.enc.one _) (Nat.le_trans hcn r6) (le0 class_Set.enc.len) (wrs_all (eqL class_Set.enc.len))
 have i29:=i9.up u28 r6
 simp only [C.f63r1,R,Nat.reduceEqDiff,c_fn F62,a11,c_fn F20,a13,c_fn F21,a15,a17,a19,c_fn F17,a21,a23,a26]
 refine hJ _ ?_
 refine tk_ret okM ?_
 obtain rfl:=Option.some.inj hm
 exact end_flat (.inl rfl) (vs:=[(vAgg (class_Set.c (v24)))]) (resC' (v:=(vAgg (class_Set.c (v24)))) rfl (ldv_of (ld_agg (M:=Mt) (t:=36) f27 T.ag36 (by rw [class_Set.enc.len]; exact T.sz36) Seg.refl)) resN) (fm_cons (flat_agg class_Set.enc _) fm_nil)
def b_lex_spaces (c_class_One:T_class_One) (c_class_Range:T_class_Range) (c_class_Set_Or:T_class_Set_Or) (n:Nat):Option (class_Set):=(c_class_Range 9 13).bind fun v12=>(c_class_One 32).bind fun v14=>(c_class_Set_Or v12 v14).bind fun v16=>some v16
theorem w_lex_spaces {call:CallF} (hok:CallOk Mt call) {n:Nat} {c_class_One:T_class_One} (ha_class_One:A_class_One call c_class_One) {c_class_Range:T_class_Range} (ha_class_Range:A_class_Range call c_class_Range) {c_class_Set_Or:T_class_Set_Or} (ha_class_Set_Or:A_class_Set_Or call c_class_Set_Or) {H0:Hp} {r:class_Set} {ro:Nat} (hro:ro ≤ H0.length) (hm:b_lex_spaces c_class_One c_class_Range c_class_Set_Or n = some r) :
  Pt Mt ro 64 [] H0 (vAgg (class_Set.c (r))) H0 []:=by
 refine pt_new0 okM F64d (by exact Nat.le_of_ble_eq_true rfl) ?_ hro
 intro c hnt hnb hcr
 have hcn:c.ro ≤ c.nb:=by omega
 have iv:Iv c.nb [] H0 H0:=by rw [hnb]; exact iv_refl
 rw [show args0 [] = [] from rfl]
 rw [b_lex_spaces] at hm
 simp only [C.f64]
 refine tk_os okM hok fun J hJ=>?_
 obtain ⟨b1,H2,a3,f4,q5,r6,x7,i8⟩:=al_ok H0 36 (class_Set.c class_Set.zero) iv.le
 have i9:=i8 _ _ iv
 simp only [C.f64r0,R,Nat.reduceEqDiff,zs36,a3]
 refine hJ _ ?_
 refine tk_os okM hok fun J hJ=>?_
 obtain ⟨v12,ev12,hm⟩:=bind_s hm
 have a11:=ha_class_Range c.ro H2 9 13 v12 ev12
 obtain ⟨v14,ev14,hm⟩:=bind_s hm
 have a13:=ha_class_One c.ro H2 32 v14 ev14
 obtain ⟨v16,ev16,hm⟩:=bind_s hm
 have a15:=ha_class_Set_Or c.ro H2 v12 v14 v16 ev16
 obtain ⟨H17,a18,f19,u20⟩:=st_ok (M:=Mt) (t:=36) (v:=(vAgg (class_Set.c (v16)))) (c:=class_Set.c v16) (cs':=class_Set.c v16) f4 (by rw [class_Set.enc.len]; exact T.sz36) vAgg_cells (class_Set.enc.one _) (Nat.le_trans hcn r6) (le0 class_Set.enc.len) (wrs_all (eqL class_Set.enc.len))
 have i21:=i9.up u20 r6
 simp only [C.f64r1,R,Nat.reduceEqDiff,c_fn F20,a11,c_fn F17,a13,c_fn F21,a15,a18]
 refine hJ _ ?_
 refine tk_ret okM ?_
 obtain rfl:=Option.some.inj hm
 exact end_flat (.inl rfl) (vs:=[(vAgg (class_Set.c (v16)))]) (resC' (v:=(vAgg (class_Set.c (v16)))) rfl (ldv_of (ld_agg (M:=Mt) (t:=36) f19 T.ag36 (by rw [class_Set.enc.len]; exact T.sz36) Seg.refl)) resN) (fm_cons (flat_agg class_Set.enc _) fm_nil)
def b_lex_letter (c_class_Set_Has:T_class_Set_Has) (c_lex_words:T_lex_words) (n:Nat) (x0:Int):Option (Bool):=(bif !decide (x0 = 95) then ((c_lex_words).bind fun v2=>(c_class_Set_Has v2 x0).bind fun v4=>some v4) else some false).bind fun y5=>some y5
theorem w_lex_letter {call:CallF} (hok:CallOk Mt call) {n:Nat} {c_class_Set_Has:T_class_Set_Has} (ha_class_Set_Has:A_class_Set_Has call c_class_Set_Has) {c_lex_words:T_lex_words} (ha_lex_words:A_lex_words call c_lex_words) {H0:Hp} {x0:Int} {r:Bool} {ro:Nat} (hro:ro ≤ H0.length) (hm:b_lex_letter c_class_Set_Has c_lex_words n x0 = some r) :
  Pt Mt ro 65 [(.int .u8 x0)] H0 (.bool (r)) H0 []:=by
 refine pt_new0 okM F65d (by exact Nat.le_of_ble_eq_true rfl) ?_ hro
 intro c hnt hnb hcr
 have hcn:c.ro ≤ c.nb:=by omega
 have iv:Iv c.nb [] H0 H0:=by rw [hnb]; exact iv_refl
 rw [show args0 [(.int .u8 x0)] = [(0,(.int .u8 x0))] from rfl]
 rw [b_lex_letter] at hm
 simp only [C.f65]
 refine tk_os okM hok fun J hJ=>?_
 simp only [C.f65r0,R,Nat.reduceEqDiff]
 refine hJ _ ?_
 refine tk_os okM hok fun J hJ=>?_
 rw [C.f65r1]
 obtain ⟨y5,ey5,hm⟩:=bind_s hm
 refine rn_app_k (fun ⟨σ,H,_⟩=>Lk σ 9 (.bool (y5)) ∧ Iv c.nb [] H0 H) (fun J hJ=>?_) ?_
 ·skip
  cases g9:!decide (x0 = 95)
  ·skip
   have ey5:=cond_f ey5 g9
   obtain rfl:=Option.some.inj ey5
   simp only [C.f65r1p0,R,Nat.reduceEqDiff,g9]
   refine hJ _ ?_
   exact ⟨(by first | rfl | (simp only [g9]; rfl) | simp only [g9,Lk,RB,Nat.reduceEqDiff,not_false_eq_true]),iv⟩
  ·skip
   have ey5:=cond_t ey5 g9
   obtain ⟨v11,ev11,ey5⟩:=bind_s ey5
   have a10:=ha_lex_words c.ro H0  v11 ev11
   obtain ⟨v13,ev13,ey5⟩:=bind_s ey5
   have a12:=ha_class_Set_Has c.ro H0 v11 x0 v13 ev13
   obtain rfl:=Option.some.inj ey5
   simp only [C.f65r1p0,R,Nat.reduceEqDiff,g9,c_fn F63,a10,c_fn F19,a12]
   refine hJ _ ?_
   exact ⟨(by first | rfl | (simp only [g9]; rfl) | simp only [g9,Lk,RB,Nat.reduceEqDiff,not_false_eq_true]),iv⟩
 rintro ⟨σ14,H6,d15⟩ ⟨h7,i8⟩
 simp only [C.f65r1p1,R,Nat.reduceEqDiff,h7]
 refine hJ _ ?_
 refine tk_ret okM ?_
 obtain rfl:=Option.some.inj hm
 exact end_flat (.inl rfl) (vs:=[(.bool (y5))]) (resT' (v:=(.bool (y5))) rfl resN) (fm_cons rfl fm_nil)
def b_ref06_count_1 (n:Nat):Nat → ByteArray → Int → Int → Int → Option (Int × Int)
 | 0,_,_,_,_=>none
 | k + 1,x0_6,x1_7,x6_8,x7_9=>(bif (decide (x7_9 < ((x0_6.size:Int)))) && (decide (x7_9 < (IntKind.i64.wrap (x1_7 + 3)))) then ((bt x0_6 x7_9).bind fun v32=>some (decide (48 ≤ v32))) else some false).bind fun y33=>(bif y33 then ((bt x0_6 x7_9).bind fun v45=>some (decide (v45 ≤ 57))) else some false).bind fun y46=>bif y46 then ((bt x0_6 x7_9).bind fun v62=>b_ref06_count_1 n k x0_6 x1_7 (IntKind.i64.wrap ((IntKind.i64.wrap ((IntKind.i64.wrap (10 * x6_8)) + (IntKind.i64.wrap v62))) - 48)) (IntKind.i64.wrap (x7_9 + 1))) else (some (x6_8,x7_9))
def b_ref06_count (n:Nat) (x0:ByteArray) (x1:Int):Option (Int × Int):=b_ref06_count_1 n n x0 x1 0 x1
theorem w_ref06_count {call:CallF} (hok:CallOk Mt call) {n:Nat} {H0:Hp} {x0:ByteArray} {x1:Int} {r:Int × Int} {ro:Nat} (hro:ro ≤ H0.length) (hm:b_ref06_count n x0 x1 = some r) :
  Pt Mt ro 66 [(.string x0),(.int .i64 x1)] H0 (.tuple [(.int .i64 (r.1)),(.int .i64 (r.2))].toArray) H0 []:=by
 refine pt_new0 okM F66d (by exact Nat.le_of_ble_eq_true rfl) ?_ hro
 intro c hnt hnb hcr
 have hcn:c.ro ≤ c.nb:=by omega
 have iv:Iv c.nb [] H0 H0:=by rw [hnb]; exact iv_refl
 rw [show args0 [(.string x0),(.int .i64 x1)] = [(0,(.string x0)),(1,(.int .i64 x1))] from rfl]
 rw [b_ref06_count] at hm
 simp only [C.f66,C.f66b0]
 refine tk_os okM hok fun J hJ=>?_
 simp only [C.f66r0,R,Nat.reduceEqDiff]
 refine hJ _ ?_
 refine tk_os okM hok fun J hJ=>?_
 simp only [C.f66r1,R,Nat.reduceEqDiff]
 refine hJ _ ?_
 refine tk_seq_k fun K n1 x2=>?_
 refine tk_block_k fun K n3 e4 x5=>?_
 refine tk_loop_k (n:=n) (fun k1 ⟨σ,H,_⟩=>∃ x0_6 x1_7 x6_8 x7_9,b_ref06_count_1 n k1 x0_6 x1_7 x6_8 x7_9 = some r ∧ Lk σ 0 (.string x0_6) ∧ Lk σ 1 (.int .i64 x1_7) ∧ Lk σ 6 (.int .i64 x6_8) ∧ Lk σ 7 (.int .i64 x7_9) ∧ Iv c.nb [] H0 H) ?_ ?_ ?_
 ·exact ⟨x0,x1,0,x1,hm,rfl,rfl,rfl,rfl,iv⟩
 ·rintro ⟨σ,H,d⟩ ⟨_,_,_,_,hm,_⟩
  cases hm
 ·intro k1 K n10 x11
  rintro ⟨σ18,H12,d19⟩ ⟨x0_6,x1_7,x6_8,x7_9,hm,h13,h14,h15,h16,i17⟩
  rw [b_ref06_count_1.eq_2] at hm
  refine tk_seq_k fun K n20 x21=>?_
  refine tk_os okM hok fun J hJ=>?_
  rw [C.f66r2]
  refine rn_app_k (fun ⟨σ,H,_⟩=>Lk σ 0 (.string (x0_6)) ∧ Lk σ 1 (.int .i64 (x1_7)) ∧ Lk σ 6 (.int .i64 (x6_8)) ∧ Lk σ 7 (.int .i64 (x7_9)) ∧ Lk σ 18 (.bool ((decide (x7_9 < ((x0_6.size:Int)))) && (decide (x7_9 < (IntKind.i64.wrap (x1_7 + 3)))))) ∧ Iv c.nb [] H0 H) (fun J hJ=>?_) ?_
  ·skip
   cases g29:decide (x7_9 < ((x0_6.size:Int)))
   ·skip
    simp only [C.f66r2p0,R,Nat.reduceEqDiff,h16,h13,len_str (M:=Mt) Tryd.underlying9,g29]
    refine hJ _ ?_
    exact ⟨h13,h14,h15,h16,(by first | rfl | (simp only [g29]; rfl) | simp only [g29,Lk,RB,Nat.reduceEqDiff,not_false_eq_true]),i17⟩
   ·skip
    simp only [C.f66r2p0,R,Nat.reduceEqDiff,h16,h13,len_str (M:=Mt) Tryd.underlying9,g29,h14]
    refine hJ _ ?_
    exact ⟨h13,h14,h15,h16,(by first | rfl | (simp only [g29]; rfl) | simp only [g29,Lk,RB,Nat.reduceEqDiff,not_false_eq_true]),i17⟩
  rintro ⟨σ30,H22,d31⟩ ⟨h23,h24,h25,h26,h27,i28⟩
  obtain ⟨y33,ey33,hm⟩:=bind_s hm
  refine rn_app_k (fun ⟨σ,H,_⟩=>Lk σ 0 (.string (x0_6)) ∧ Lk σ 1 (.int .i64 (x1_7)) ∧ Lk σ 6 (.int .i64 (x6_8)) ∧ Lk σ 7 (.int .i64 (x7_9)) ∧ Lk σ 24 (.bool (y33)) ∧ Iv c.nb [] H0 H) (fun J hJ=>?_) ?_
  ·skip
   cases g41:(decide (x7_9 < ((x0_6.size:Int)))) && (decide (x7_9 < (IntKind.i64.wrap (x1_7 + 3))))
   ·skip
    have ey33:=cond_f ey33 g41
    obtain rfl:=Option.some.inj ey33
    simp only [C.f66r2p1,R,Nat.reduceEqDiff,h27,g41]
    refine hJ _ ?_
    exact ⟨h23,h24,h25,h26,(by first | rfl | (simp only [g41]; rfl) | simp only [g41,Lk,RB,Nat.reduceEqDiff,not_false_eq_true]),i28⟩
   ·skip
    have ey33:=cond_t ey33 g41
    obtain ⟨v42,ev42,ey33⟩:=bind_s ey33
    obtain rfl:=Option.some.inj ey33
    simp only [C.f66r2p1,R,Nat.reduceEqDiff,h27,g41,h23,h26,idxP_str (M:=Mt) Tryd.underlying9,ev42]
    refine hJ _ ?_
    exact ⟨h23,h24,h25,h26,(by first | rfl | (simp only [g41]; rfl) | simp only [g41,Lk,RB,Nat.reduceEqDiff,not_false_eq_true]),i28⟩
  rintro ⟨σ43,H34,d44⟩ ⟨h35,h36,h37,h38,h39,i40⟩
  obtain ⟨y46,ey46,hm⟩:=bind_s hm
  refine rn_k (fun ⟨σ,H,_⟩=>Lk σ 0 (.string (x0_6)) ∧ Lk σ 1 (.int .i64 (x1_7)) ∧ Lk σ 6 (.int .i64 (x6_8)) ∧ Lk σ 7 (.int .i64 (x7_9)) ∧ Lk σ 30 (.bool (y46)) ∧ Iv c.nb [] H0 H) (fun J hJ=>?_) ?_
  ·skip
   cases g54:y33
   ·skip
    have ey46:=cond_f ey46 g54
    obtain rfl:=Option.some.inj ey46
    simp only [C.f66r2p2,R,Nat.reduceEqDiff,h39,g54]
    refine hJ _ ?_
    exact ⟨h35,h36,h37,h38,(by first | rfl | (simp only [g54]; rfl) | simp only [g54,Lk,RB,Nat.reduceEqDiff,not_false_eq_true]),i40⟩
   ·skip
    have ey46:=cond_t ey46 g54
    obtain ⟨v55,ev55,ey46⟩:=bind_s ey46
    obtain rfl:=Option.some.inj ey46
    simp only [C.f66r2p2,R,Nat.reduceEqDiff,h39,g54,h35,h38,idxP_str (M:=Mt) Tryd.underlying9,ev55]
    refine hJ _ ?_
    exact ⟨h35,h36,h37,h38,(by first | rfl | (simp only [g54]; rfl) | simp only [g54,Lk,RB,Nat.reduceEqDiff,not_false_eq_true]),i40⟩
  rintro ⟨σ56,H47,d57⟩ ⟨h48,h49,h50,h51,h52,i53⟩
  refine hJ _ ?_
  refine tk_cond (t:=y46) h52 (fun g58=>?_) (fun g58=>?_)
  ·replace hm:=cond_t hm g58
   refine tk_skip okM ?_
   refine n20 _ ?_
   refine tk_block_k fun K n59 e60 x61=>?_
   refine tk_os okM hok fun J hJ=>?_
   obtain ⟨v62,ev62,hm⟩:=bind_s hm
   simp only [C.f66r3,R,Nat.reduceEqDiff,h50,h48,h51,idxP_str (M:=Mt) Tryd.underlying9,ev62,cv_int (M:=Mt) Tryd.underlying5 Tryd.underlying3]
   refine hJ _ ?_
   refine tk_oe okM hok fun J hJ=>?_
   simp only [C.f66r4,R,Nat.reduceEqDiff,h51]
   refine hJ _ ?_
   refine n59 _ ?_
   refine n10 _ ?_
   exact ⟨x0_6,x1_7,IntKind.i64.wrap ((IntKind.i64.wrap ((IntKind.i64.wrap (10 * x6_8)) + (IntKind.i64.wrap v62))) - 48),IntKind.i64.wrap (x7_9 + 1),hm,h48,h49,rfl,rfl,i53⟩
  ·replace hm:=cond_f hm g58
   refine tk_exit okM ?_
   refine x21 _ _ (by simp) ?_
   refine x11 _ _ (by simp) ?_
   refine e4 _ ?_
   refine n1 _ ?_
   refine tk_os okM hok fun J hJ=>?_
   simp only [C.f66r5,R,Nat.reduceEqDiff,h50,h51]
   refine hJ _ ?_
   refine tk_ret okM ?_
   obtain rfl:=Option.some.inj hm
   exact end_flat (.inl rfl) (vs:=[(.int .i64 (x6_8)),(.int .i64 (x7_9))]) (resT' (v:=(.int .i64 (x6_8))) rfl (resT' (v:=(.int .i64 (x7_9))) rfl resN)) (fm_cons rfl (fm_cons rfl fm_nil))
end Go.Proofs.YtcjnmmeibppblaaDoor
