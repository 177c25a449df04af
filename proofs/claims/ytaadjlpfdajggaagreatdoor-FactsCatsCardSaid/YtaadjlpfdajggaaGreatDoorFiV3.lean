import Derived.Test.YtaadjlpfdajggaaGreatDoorFiBase
set_option maxRecDepth 100000
set_option linter.unusedVariables false
set_option linter.unusedSimpArgs false
namespace Go.Proofs.YtaadjlpfdajggaaGreatDoor
open Go Go.AM
attribute [local congr] bind_first map_first
def b_ch (c_bR:T_c8) (n:Nat) (x0:Int) (x1:Int) (x2:(Sl Int)) (x3:(Sl Int)):Option (Int):=(c_bR x0 x2).bind fun v10=>(c_bR x1 x2).bind fun v13=>bif !decide ((IntKind.i64.wrap (v10 - v13)) = 0) then (some (IntKind.i64.wrap (v10 - v13))) else ((ck (Sl.l x3).length x1).bind fun j16=>(ck (Sl.l x3).length x0).bind fun j21=>some (IntKind.i64.wrap ((Sl.nth x3 j16) - (Sl.nth x3 j21))))
theorem w_fF {call:CallF} (hok:CallOk Mt call) {n:Nat} {c_bR:T_c8} (z_dT:A_ef call c_bR) {H0:Hp} {x0:Int} {x1:Int} {x2:(Sl Int)} {d2:Nat} {b2:Nat} {s2:Nat} {x3:(Sl Int)} {b3:Nat} {s3:Nat} {r:Int} {ro:Nat} (hro:ro ≤ H0.length) (hd2:H0[d2]? = some (.cells [.func (.func 102) [].toArray [(.pointer (some ⟨b2,0,none⟩))].toArray] 99)) (hb2:H0[b2]? = some (.cells [slV x2 s2] 100)) (h2:SlH H0 (cInt .i64) 3 x2 s2) (hb3:H0[b3]? = some (.cells [slV x3 s3] 100)) (h3:SlH H0 (cInt .i64) 3 x3 s3) (hm:b_ch c_bR n x0 x1 x2 x3 = some r) :
  Pt Mt ro 104 [(.int .i64 x0),(.int .i64 x1),(.pointer (some ⟨d2,0,none⟩)),(.pointer (some ⟨b3,0,none⟩))] H0 (.int .i64 (r)) H0 []:=by
 refine pt_new0 okM F104d (by exact Nat.le_of_ble_eq_true rfl) ?_ hro
 intro c hnt hnb hcr
 have hcn:c.ro ≤ c.nb:=by omega
 have lb2:b2 < c.nb:=by rw [hnb]; exact get_lt hb2
 have l2:x2 ≠ none → s2 < c.nb:=fun h=>by rw [hnb]; exact h2.lt h
 have ld2:d2 < c.nb:=by rw [hnb]; exact get_lt hd2
 have lb3:b3 < c.nb:=by rw [hnb]; exact get_lt hb3
 have l3:x3 ≠ none → s3 < c.nb:=fun h=>by rw [hnb]; exact h3.lt h
 have iv:Iv c.nb [] H0 H0:=by rw [hnb]; exact iv_refl
 rw [show args0 [(.int .i64 x0),(.int .i64 x1),(.pointer (some ⟨d2,0,none⟩)),(.pointer (some ⟨b3,0,none⟩))] = [(0,(.int .i64 x0)),(1,(.int .i64 x1)),(2,(.pointer (some ⟨d2,0,none⟩))),(3,(.pointer (some ⟨b3,0,none⟩)))] from rfl]
 rw [b_ch] at hm
 simp only [C.f104]
 refine tk_os okM hok fun J hJ=>?_
 simp only [C.f104r0,R,Nat.reduceEqDiff]
 refine hJ _ ?_
 refine tk_seq_k fun K n6 x7=>?_
 refine tk_os okM hok fun J hJ=>?_
 have a8:=ld_one (M:=Mt) (t:=99) ((iv.old d2 ld2 (by simp)).trans hd2) T.ag99 Seg.refl
 obtain ⟨v10,ev10,hm⟩:=bind_s hm
 have a9:=z_dT H0.length H0 x0 x2 b2 s2 v10 ((iv.old b2 lb2 (by simp)).trans hb2) (h2.iv l2 (fun _=>by simp) iv) ev10
 have a11:=ld_one (M:=Mt) (t:=99) ((iv.old d2 ld2 (by simp)).trans hd2) T.ag99 Seg.refl
 obtain ⟨v13,ev13,hm⟩:=bind_s hm
 have a12:=z_dT H0.length H0 x1 x2 b2 s2 v13 ((iv.old b2 lb2 (by simp)).trans hb2) (h2.iv l2 (fun _=>by simp) iv) ev13
 simp only [C.f104r1,R,Nat.reduceEqDiff,s_pt,s_gt,isW,Bool.false_eq_true,if_false,if_true,reduceIte,a8,c_cl,cl_fn F102,List.toList_toArray,List.nil_append,List.append_nil,List.cons_append,a9,a11,a12]
 refine hJ _ ?_
 refine tk_os okM hok fun J hJ=>?_
 simp only [C.f104r2,R,Nat.reduceEqDiff]
 refine hJ _ ?_
 refine tk_cond (t:=!decide ((IntKind.i64.wrap (v10 - v13)) = 0)) rfl (fun g14=>?_) (fun g14=>?_)
 ·replace hm:=cond_t hm g14
  refine tk_os okM hok fun J hJ=>?_
  simp only [C.f104r3,R,Nat.reduceEqDiff]
  refine hJ _ ?_
  refine tk_ret okM ?_
  refine x7 _ _ (by simp) ?_
  obtain rfl:=Option.some.inj hm
  exact end_flat (.inl rfl) (vs:=[(.int .i64 (IntKind.i64.wrap (v10 - v13)))]) (resT' (v:=(.int .i64 (IntKind.i64.wrap (v10 - v13)))) rfl resN) (fm_cons rfl fm_nil)
 ·replace hm:=cond_f hm g14
  refine tk_skip okM ?_
  refine n6 _ ?_
  refine tk_os okM hok fun J hJ=>?_
  have a15:=ld_one (M:=Mt) (t:=100) ((iv.old b3 lb3 (by simp)).trans hb3) T.ag100 Seg.refl
  obtain ⟨j16,ej16,hm⟩:=bind_s hm
  obtain ⟨mm17,k18⟩:=(h3.iv l3 (fun _=>by simp) iv).blk (ck_lt ej16).1
  have a19:=lds_one (M:=Mt) (t:=3) k18 T.ag3 (seg_sl enc_int.len mm17 (ck_lt ej16).1)
  have a20:=ld_one (M:=Mt) (t:=100) ((iv.old b3 lb3 (by simp)).trans hb3) T.ag100 Seg.refl
  obtain ⟨j21,ej21,hm⟩:=bind_s hm
  obtain ⟨mm22,k23⟩:=(h3.iv l3 (fun _=>by simp) iv).blk (ck_lt ej21).1
  have a24:=lds_one (M:=Mt) (t:=3) k23 T.ag3 (seg_sl enc_int.len mm22 (ck_lt ej21).1)
  simp only [C.f104r4,R,Nat.reduceEqDiff,s_pt,s_gt,isW,Bool.false_eq_true,if_false,if_true,reduceIte,a15,ia100,ej16,a19,a20,ej21,a24]
  refine hJ _ ?_
  refine tk_ret okM ?_
  obtain rfl:=Option.some.inj hm
  exact end_flat (.inl rfl) (vs:=[(.int .i64 (IntKind.i64.wrap ((Sl.nth x3 j16) - (Sl.nth x3 j21))))]) (resT' (v:=(.int .i64 (IntKind.i64.wrap ((Sl.nth x3 j16) - (Sl.nth x3 j21))))) rfl resN) (fm_cons rfl fm_nil)
def b_ck (n:Nat) (x0:S_b) (x1:(Sl Int)):Option (Bool):=some ((decide (x0.f_Kind = 12)) && ((decide (x0.f_N < 1)) || (decide ((Sl.len x1) < x0.f_N))))
theorem w_fI {call:CallF} (hok:CallOk Mt call) {n:Nat} {H0:Hp} {x0:S_b} {x1:(Sl Int)} {b1:Nat} {s1:Nat} {r:Bool} {ro:Nat} (hro:ro ≤ H0.length) (hb1:H0[b1]? = some (.cells [slV x1 s1] 100)) (h1:SlH H0 (cInt .i64) 3 x1 s1) (hm:b_ck n x0 x1 = some r) :
  Pt Mt ro 105 [(vAgg (S_b.c x0)),(.pointer (some ⟨b1,0,none⟩))] H0 (.bool (r)) H0 []:=by
 refine pt_new0 okM F105d (by exact Nat.le_of_ble_eq_true rfl) ?_ hro
 intro c hnt hnb hcr
 have hcn:c.ro ≤ c.nb:=by omega
 have lb1:b1 < c.nb:=by rw [hnb]; exact get_lt hb1
 have l1:x1 ≠ none → s1 < c.nb:=fun h=>by rw [hnb]; exact h1.lt h
 have iv:Iv c.nb [] H0 H0:=by rw [hnb]; exact iv_refl
 rw [show args0 [(vAgg (S_b.c x0)),(.pointer (some ⟨b1,0,none⟩))] = [(0,(vAgg (S_b.c x0))),(1,(.pointer (some ⟨b1,0,none⟩)))] from rfl]
 rw [b_ck] at hm
 simp only [C.f105]
 refine tk_os okM hok fun J hJ=>?_
 obtain ⟨b3,H4,a5,f6,q7,r8,x9,i10⟩:=bx_ok (M:=Mt) (t:=72) (u:=(vAgg (S_b.c (x0)))) (cs:=S_b.c x0) H0 iv.le (by rw [S_b.enc.len]; exact T.sz72) vAgg_cells (S_b.enc.one _)
 have i11:=i10 _ _ iv
 simp only [C.f105r0,R,Nat.reduceEqDiff,a5]
 refine hJ _ ?_
 refine tk_os okM hok fun J hJ=>?_
 rw [C.f105r1]
 have a13:=ld_one (M:=Mt) (t:=3) f6 T.ag3 (Seg.refl.sub (S_b.seg0 x0))
 refine rn_app_k (fun ⟨σ,H,_⟩=>Lk σ 18 (.bool ((decide (x0.f_Kind = 12)) && ((decide (x0.f_N < 1)) || (decide ((Sl.len x1) < x0.f_N))))) ∧ Iv c.nb [] H0 H) (fun J hJ=>?_) ?_
 ·skip
  cases g20:decide (x0.f_Kind = 12)
  ·skip
   simp only [C.f105r1p0,R,Nat.reduceEqDiff,fa72_0,a13,g20]
   refine hJ _ ?_
   exact ⟨(by first | rfl | (simp only [g20]; rfl) | simp only [g20,Lk,RB,Nat.reduceEqDiff,not_false_eq_true]),i11⟩
  ·skip
   have a21:=ld_one (M:=Mt) (t:=3) f6 T.ag3 (Seg.refl.sub (S_b.seg7 x0))
   cases g24:decide (x0.f_N < 1)
   ·skip
    have a25:=ld_one (M:=Mt) (t:=3) f6 T.ag3 (Seg.refl.sub (S_b.seg7 x0))
    have a26:=ld_one (M:=Mt) (t:=100) ((i11.old b1 lb1 (by simp)).trans hb1) T.ag100 Seg.refl
    simp only [C.f105r1p0,R,Nat.reduceEqDiff,fa72_0,a13,g20,fa72_7,a21,g24,a25,a26,ln100]
    refine hJ _ ?_
    exact ⟨(by first | rfl | (simp only [g20,g24]; rfl) | simp only [g20,g24,Lk,RB,Nat.reduceEqDiff,not_false_eq_true]),i11⟩
   ·skip
    simp only [C.f105r1p0,R,Nat.reduceEqDiff,fa72_0,a13,g20,fa72_7,a21,g24]
    refine hJ _ ?_
    exact ⟨(by first | rfl | (simp only [g20,g24]; rfl) | simp only [g20,g24,Lk,RB,Nat.reduceEqDiff,not_false_eq_true]),i11⟩
 rintro ⟨σ27,H17,d28⟩ ⟨h18,i19⟩
 simp only [C.f105r1p1,R,Nat.reduceEqDiff,h18]
 refine hJ _ ?_
 refine tk_ret okM ?_
 obtain rfl:=Option.some.inj hm
 exact end_flat (.inl rfl) (vs:=[(.bool ((decide (x0.f_Kind = 12)) && ((decide (x0.f_N < 1)) || (decide ((Sl.len x1) < x0.f_N)))))]) (resT' (v:=(.bool ((decide (x0.f_Kind = 12)) && ((decide (x0.f_N < 1)) || (decide ((Sl.len x1) < x0.f_N)))))) rfl resN) (fm_cons rfl fm_nil)
def b_bn (c_bo:T_bV) (n:Nat) (x0:(Sl S_b)) (x1:(Sl Int)):Option (Bool):=(c_bo x0 x1).bind fun v5=>some (decide (0 ≤ v5))
theorem w_em {call:CallF} (hok:CallOk Mt call) {n:Nat} {c_bo:T_bV} (z_d6:A_cV call c_bo) {H0:Hp} {x0:(Sl S_b)} {b0:Nat} {x1:(Sl Int)} {b1:Nat} {s1:Nat} {r:Bool} {ro:Nat} (hro:ro ≤ H0.length) (h0:SlH H0 S_b.c 72 x0 b0) (hb1:H0[b1]? = some (.cells [slV x1 s1] 100)) (h1:SlH H0 (cInt .i64) 3 x1 s1) (hm:b_bn c_bo n x0 x1 = some r) :
  Pt Mt ro 106 [(slV x0 b0),(.func (.func 105) [].toArray [(.pointer (some ⟨b1,0,none⟩))].toArray)] H0 (.bool (r)) H0 []:=by
 refine pt_new0 okM F106d (by exact Nat.le_of_ble_eq_true rfl) ?_ hro
 intro c hnt hnb hcr
 have hcn:c.ro ≤ c.nb:=by omega
 have l0:x0 ≠ none → b0 < c.nb:=fun h=>by rw [hnb]; exact h0.lt h
 have lb1:b1 < c.nb:=by rw [hnb]; exact get_lt hb1
 have l1:x1 ≠ none → s1 < c.nb:=fun h=>by rw [hnb]; exact h1.lt h
 have iv:Iv c.nb [] H0 H0:=by rw [hnb]; exact iv_refl
 rw [show args0 [(slV x0 b0),(.func (.func 105) [].toArray [(.pointer (some ⟨b1,0,none⟩))].toArray)] = [(0,(slV x0 b0)),(1,(.func (.func 105) [].toArray [(.pointer (some ⟨b1,0,none⟩))].toArray))] from rfl]
 rw [b_bn] at hm
 simp only [C.f106]
 refine tk_os okM hok fun J hJ=>?_
 simp only [C.f106r0,R,Nat.reduceEqDiff]
 refine hJ _ ?_
 refine tk_os okM hok fun J hJ=>?_
 obtain ⟨v5,ev5,hm⟩:=bind_s hm
 have a4:=z_d6 c.ro H0 x0 b0 x1 b1 s1 v5 (h0.iv l0 (fun _=>by simp) iv) ((iv.old b1 lb1 (by simp)).trans hb1) (h1.iv l1 (fun _=>by simp) iv) ev5
 simp only [C.f106r1,R,Nat.reduceEqDiff,c_fn F138,a4]
 refine hJ _ ?_
 refine tk_ret okM ?_
 obtain rfl:=Option.some.inj hm
 exact end_flat (.inl rfl) (vs:=[(.bool (decide (0 ≤ v5)))]) (resT' (v:=(.bool (decide (0 ≤ v5)))) rfl resN) (fm_cons rfl fm_nil)
def b_cb (n:Nat):Nat → S_d → S_d → Int → Option (S_d)
 | 0,_,_,_=>none
 | k + 1,x27,x28,x4_29=>bif decide (x4_29 < 4) then ((ck 4 x4_29).bind fun j49=>b_cb n k ({ x27 with f_W:=x27.f_W.put j49 (comI .u64 (x27.f_W.nth j49)) }) x28 (IntKind.i64.wrap (x4_29 + 1))) else (some x27)
def b_dh (n:Nat) (x0:S_d):Option (S_d):=b_cb n n x0 S_d.zero 0
theorem w_f3 {call:CallF} (hok:CallOk Mt call) {n:Nat} {H0:Hp} {x0:S_d} {r:S_d} {ro:Nat} (hro:ro ≤ H0.length) (hm:b_dh n x0 = some r) :
  Pt Mt ro 113 [(vAgg (S_d.c x0))] H0 (vAgg (S_d.c (r))) H0 []:=by
 refine pt_new0 okM F113d (by exact Nat.le_of_ble_eq_true rfl) ?_ hro
 intro c hnt hnb hcr
 have hcn:c.ro ≤ c.nb:=by omega
 have iv:Iv c.nb [] H0 H0:=by rw [hnb]; exact iv_refl
 rw [show args0 [(vAgg (S_d.c x0))] = [(0,(vAgg (S_d.c x0)))] from rfl]
 rw [b_dh] at hm
 simp only [C.f113,C.f113b0]
 refine tk_os okM hok fun J hJ=>?_
 obtain ⟨b1,H2,a3,f4,q5,r6,x7,i8⟩:=bx_ok (M:=Mt) (t:=25) (u:=(vAgg (S_d.c (x0)))) (cs:=S_d.c x0) H0 iv.le (by rw [S_d.enc.len]; exact T.sz25) vAgg_cells (S_d.enc.one _)
 have i9:=i8 _ _ iv
 obtain ⟨b11,H12,a13,f14,q15,r16,x17,i18⟩:=al_ok H2 25 (S_d.c S_d.zero) i9.le
 have i19:=i18 _ _ i9
 have f20:=x17 _ _ f4
 simp only [C.f113r0,R,Nat.reduceEqDiff,a3,zs25,a13]
 refine hJ _ ?_
 refine tk_seq_k fun K n22 x23=>?_
 refine tk_os okM hok fun J hJ=>?_
 simp only [C.f113r1,R,Nat.reduceEqDiff]
 refine hJ _ ?_
 refine tk_block_k fun K n24 e25 x26=>?_
 refine tk_loop_k (n:=n) (fun k1 ⟨σ,H,_⟩=>∃ x27 x28 x4_29,b_cb n k1 x27 x28 x4_29 = some r ∧ Lk σ 1 (.pointer (some ⟨b1,0,none⟩)) ∧ Lk σ 2 (.pointer (some ⟨b11,0,none⟩)) ∧ Lk σ 4 (.int .i64 x4_29) ∧ H[b1]? = some (.cells (S_d.c x27) 25) ∧ H[b11]? = some (.cells (S_d.c x28) 25) ∧ Iv c.nb [] H0 H) ?_ ?_ ?_
 ·exact ⟨x0,S_d.zero,0,hm,rfl,rfl,rfl,f20,f14,i19⟩
 ·rintro ⟨σ,H,d⟩ ⟨_,_,_,hm,_⟩
  cases hm
 ·intro k1 K n30 x31
  rintro ⟨σ39,H32,d40⟩ ⟨x27,x28,x4_29,hm,h33,h34,h35,f36,f37,i38⟩
  rw [b_cb.eq_2] at hm
  refine tk_os okM hok fun J hJ=>?_
  simp only [C.f113r2,R,Nat.reduceEqDiff,h35]
  refine hJ _ ?_
  refine tk_seq_k fun K n41 x42=>?_
  refine tk_cond (t:=decide (x4_29 < 4)) rfl (fun g43=>?_) (fun g43=>?_)
  ·replace hm:=cond_t hm g43
   refine tk_skip okM ?_
   refine n41 _ ?_
   refine tk_seq_k fun K n44 x45=>?_
   refine tk_block_k fun K n46 e47 x48=>?_
   refine tk_os okM hok fun J hJ=>?_
   simp only [C.f113r3,R,Nat.reduceEqDiff,h35]
   refine hJ _ ?_
   refine tk_oe okM hok fun J hJ=>?_
   obtain ⟨j49,ej49,hm⟩:=bind_s hm
   have a50:=ld_one (M:=Mt) (t:=22) f36 T.ag22 ((Seg.refl.sub (S_d.seg0 x27)).sub (sgA enc_int.len (a:=x27.f_W) (ck_lt ej49).1))
   obtain ⟨H51,a52,f53,u54⟩:=st_ok (M:=Mt) (t:=22) (v:=(.int .u64 (comI .u64 (x27.f_W.nth j49)))) (c:=(cInt .u64) (comI .u64 (x27.f_W.nth j49))) (cs':=S_d.c ({ x27 with f_W:=x27.f_W.put j49 (comI .u64 (x27.f_W.nth j49)) })) f36 (by rw [enc_int.len]; exact T.sz22) rfl (enc_int.one _) (Nat.le_trans hcn r6) (Nat.le_trans (Nat.le_of_eq (congrArg _ (eqL enc_int.len))) ((Seg.refl.sub (S_d.seg0 x27)).sub (sgA enc_int.len (a:=x27.f_W) (ck_lt ej49).1)).2) (by rw [wrs_in (Seg.refl.sub (S_d.seg0 x27)) (by have:=(ck_lt ej49).1; simp only [enc_int.len,(enc_arr (n:=4) enc_int).len]; omega),wrA enc_int.len (a:=x27.f_W) (v:=comI .u64 (x27.f_W.nth j49)) (ck_lt ej49).1,Nat.zero_add,S_d.wr0 x27 (x27.f_W.put j49 (comI .u64 (x27.f_W.nth j49)))])
   have i55:=i38.up u54 r6
   have f56:=(u54.get _ (ne_len f4 q15).symm).trans f37
   simp only [C.f113r4,R,Nat.reduceEqDiff,fa25_0,h33,ia23,ej49,a50,a52]
   refine hJ _ ?_
   refine n46 _ ?_
   refine n44 _ ?_
   refine tk_oe okM hok fun J hJ=>?_
   simp only [C.f113r5,R,Nat.reduceEqDiff,h35]
   refine hJ _ ?_
   refine n30 _ ?_
   exact ⟨{ x27 with f_W:=x27.f_W.put j49 (comI .u64 (x27.f_W.nth j49)) },x28,IntKind.i64.wrap (x4_29 + 1),hm,h33,h34,rfl,f53,f56,i55⟩
  ·replace hm:=cond_f hm g43
   refine tk_exit okM ?_
   refine x42 _ _ (by simp) ?_
   refine x31 _ _ (by simp) ?_
   refine e25 _ ?_
   refine n22 _ ?_
   refine tk_os okM hok fun J hJ=>?_
   have a57:=ld_agg (M:=Mt) (t:=25) f36 T.ag25 (by rw [S_d.enc.len]; exact T.sz25) Seg.refl
   obtain ⟨H58,a59,f60,u61⟩:=st_ok (M:=Mt) (t:=25) (v:=(vAgg (S_d.c (x27)))) (c:=S_d.c x27) (cs':=S_d.c x27) f37 (by rw [S_d.enc.len]; exact T.sz25) vAgg_cells (S_d.enc.one _) (Nat.le_trans hcn r16) (le0 S_d.enc.len) (wrs_all (eqL S_d.enc.len))
   have i62:=i38.up u61 r16
   have f63:=(u61.get _ (ne_len f4 q15)).trans f36
   simp only [C.f113r6,R,Nat.reduceEqDiff,a57,h33,a59,h34]
   refine hJ _ ?_
   refine tk_ret okM ?_
   obtain rfl:=Option.some.inj hm
   exact end_flat (.inl rfl) (vs:=[(vAgg (S_d.c (x27)))]) (resC' (v:=(vAgg (S_d.c (x27)))) h34 (ldv_of (ld_agg (M:=Mt) (t:=25) f60 T.ag25 (by rw [S_d.enc.len]; exact T.sz25) Seg.refl)) resN) (fm_cons (flat_agg S_d.enc _) fm_nil)
def b_L (c_F:T_bw) (n:Nat):Nat → (Arr Int 4) → Int → Option (Int × Bool)
 | 0,_,_=>none
 | k + 1,x7_17,x8_18=>bif decide (x8_18 < 4) then ((ck 4 x8_18).bind fun j35=>bif !decide ((x7_17.nth j35) = 0) then ((c_F (x7_17.nth j35)).bind fun v38=>some (IntKind.u8.wrap (IntKind.i64.wrap ((IntKind.i64.wrap (x8_18 * 64)) + v38)),true)) else (b_L c_F n k x7_17 (IntKind.i64.wrap (x8_18 + 1)))) else (some (0,false))
def b_5 (c_F:T_bw) (n:Nat) (x0:S_d):Option (Int × Bool):=b_L c_F n n x0.f_W 0
theorem w_f5 {call:CallF} (hok:CallOk Mt call) {n:Nat} {c_F:T_bw} (z_ek:A_cZ call c_F) {H0:Hp} {x0:S_d} {r:Int × Bool} {ro:Nat} (hro:ro ≤ H0.length) (hm:b_5 c_F n x0 = some r) (hG1:TabH1 H0) :
  Pt Mt ro 120 [(vAgg (S_d.c x0))] H0 (.tuple [(.int .u8 (r.1)),(.bool (r.2))].toArray) H0 []:=by
 refine pt_new0 okM F120d (by exact Nat.le_of_ble_eq_true rfl) ?_ hro
 intro c hnt hnb hcr
 have hcn:c.ro ≤ c.nb:=by omega
 have iv:Iv c.nb [] H0 H0:=by rw [hnb]; exact iv_refl
 rw [show args0 [(vAgg (S_d.c x0))] = [(0,(vAgg (S_d.c x0)))] from rfl]
 rw [b_5] at hm
 simp only [C.f120,C.f120b0]
 refine tk_os okM hok fun J hJ=>?_
 obtain ⟨b1,H2,a3,f4,q5,r6,x7,i8⟩:=bx_ok (M:=Mt) (t:=25) (u:=(vAgg (S_d.c (x0)))) (cs:=S_d.c x0) H0 iv.le (by rw [S_d.enc.len]; exact T.sz25) vAgg_cells (S_d.enc.one _)
 have i9:=i8 _ _ iv
 simp only [C.f120r0,R,Nat.reduceEqDiff,a3]
 refine hJ _ ?_
 refine tk_seq_k fun K n11 x12=>?_
 refine tk_os okM hok fun J hJ=>?_
 have a13:=ld_agg (M:=Mt) (t:=23) f4 T.ag23 (by rw [(enc_arr (n:=4) enc_int).len]; exact T.sz23) (Seg.refl.sub (S_d.seg0 x0))
 simp only [C.f120r1,R,Nat.reduceEqDiff,fa25_0,a13]
 refine hJ _ ?_
 refine tk_block_k fun K n14 e15 x16=>?_
 refine tk_loop_k (n:=n) (fun k1 ⟨σ,H,_⟩=>∃ x7_17 x8_18,b_L c_F n k1 x7_17 x8_18 = some r ∧ Lk σ 7 (vAgg ((cArr (n:=4) (cInt .u64)) x7_17)) ∧ Lk σ 8 (.int .i64 x8_18) ∧ Iv c.nb [] H0 H) ?_ ?_ ?_
 ·exact ⟨x0.f_W,0,hm,rfl,rfl,i9⟩
 ·rintro ⟨σ,H,d⟩ ⟨_,_,hm,_⟩
  cases hm
 ·intro k1 K n19 x20
  rintro ⟨σ25,H21,d26⟩ ⟨x7_17,x8_18,hm,h22,h23,i24⟩
  rw [b_L.eq_2] at hm
  refine tk_os okM hok fun J hJ=>?_
  simp only [C.f120r2,R,Nat.reduceEqDiff,h23]
  refine hJ _ ?_
  refine tk_seq_k fun K n27 x28=>?_
  refine tk_cond (t:=decide (x8_18 < 4)) rfl (fun g29=>?_) (fun g29=>?_)
  ·replace hm:=cond_t hm g29
   refine tk_skip okM ?_
   refine n27 _ ?_
   refine tk_seq_k fun K n30 x31=>?_
   refine tk_block_k fun K n32 e33 x34=>?_
   refine tk_os okM hok fun J hJ=>?_
   obtain ⟨j35,ej35,hm⟩:=bind_s hm
   simp only [C.f120r3,R,Nat.reduceEqDiff,h23,ix23,ej35,h22]
   refine hJ _ ?_
   refine tk_os okM hok fun J hJ=>?_
   simp only [C.f120r4,R,Nat.reduceEqDiff]
   refine hJ _ ?_
   refine tk_cond (t:=!decide ((x7_17.nth j35) = 0)) rfl (fun g36=>?_) (fun g36=>?_)
   ·replace hm:=cond_t hm g36
    refine tk_os okM hok fun J hJ=>?_
    obtain ⟨v38,ev38,hm⟩:=bind_s hm
    have a37:=z_ek c.ro H21 (x7_17.nth j35) v38 (tabIv1 i24 hnb hG1) ev38
    simp only [C.f120r5,R,Nat.reduceEqDiff,c_fn F152,a37,cv_int (M:=Mt) Tryz.underlying3 Tryz.underlying5]
    refine hJ _ ?_
    refine tk_ret okM ?_
    refine x34 _ _ (by simp) (by simp) ?_
    refine x31 _ _ (by simp) ?_
    refine x20 _ _ (by simp) ?_
    refine x16 _ _ (by simp) (by simp) ?_
    refine x12 _ _ (by simp) ?_
    obtain rfl:=Option.some.inj hm
    exact end_flat (.inl rfl) (vs:=[(.int .u8 (IntKind.u8.wrap (IntKind.i64.wrap ((IntKind.i64.wrap (x8_18 * 64)) + v38)))),(.bool (true))]) (resT' (v:=(.int .u8 (IntKind.u8.wrap (IntKind.i64.wrap ((IntKind.i64.wrap (x8_18 * 64)) + v38))))) rfl (resT' (v:=(.bool (true))) rfl resN)) (fm_cons rfl (fm_cons rfl fm_nil))
   ·replace hm:=cond_f hm g36
    refine tk_skip okM ?_
    refine n32 _ ?_
    refine n30 _ ?_
    refine tk_oe okM hok fun J hJ=>?_
    simp only [C.f120r6,R,Nat.reduceEqDiff,h23]
    refine hJ _ ?_
    refine n19 _ ?_
    exact ⟨x7_17,IntKind.i64.wrap (x8_18 + 1),hm,h22,rfl,i24⟩
  ·replace hm:=cond_f hm g29
   refine tk_exit okM ?_
   refine x28 _ _ (by simp) ?_
   refine x20 _ _ (by simp) ?_
   refine e15 _ ?_
   refine n11 _ ?_
   refine tk_os okM hok fun J hJ=>?_
   simp only [C.f120r7,R,Nat.reduceEqDiff]
   refine hJ _ ?_
   refine tk_ret okM ?_
   obtain rfl:=Option.some.inj hm
   exact end_flat (.inl rfl) (vs:=[(.int .u8 (0)),(.bool (false))]) (resT' (v:=(.int .u8 (0))) rfl (resT' (v:=(.bool (false))) rfl resN)) (fm_cons rfl (fm_cons rfl fm_nil))
def b_bp (n:Nat) (x22:S_a) (x23:S_a):Option (S_a):=some x22
def b_ca (n:Nat) (x0:S_a):Option (S_a):=bif decide (100 < ((x0.f_Facts.f_Prefix.size:Int))) then ((sub x0.f_Facts.f_Prefix 0 100).bind fun v44=>b_bp n (S_a.w1 ({ x0 with f_Facts:={ x0.f_Facts with f_Prefix:=v44 } }) false) S_a.zero) else (b_bp n x0 S_a.zero)
theorem w_fi {call:CallF} (hok:CallOk Mt call) {n:Nat} {H0:Hp} {x0:S_a} {r:S_a} {ro:Nat} (hro:ro ≤ H0.length) (hm:b_ca n x0 = some r) :
  Pt Mt ro 121 [(vAgg (S_a.c x0))] H0 (vAgg (S_a.c (r))) H0 []:=by
 refine pt_new0 okM F121d (by exact Nat.le_of_ble_eq_true rfl) ?_ hro
 intro c hnt hnb hcr
 have hcn:c.ro ≤ c.nb:=by omega
 have iv:Iv c.nb [] H0 H0:=by rw [hnb]; exact iv_refl
 rw [show args0 [(vAgg (S_a.c x0))] = [(0,(vAgg (S_a.c x0)))] from rfl]
 rw [b_ca] at hm
 simp only [C.f121]
 refine tk_os okM hok fun J hJ=>?_
 obtain ⟨b1,H2,a3,f4,q5,r6,x7,i8⟩:=bx_ok (M:=Mt) (t:=107) (u:=(vAgg (S_a.c (x0)))) (cs:=S_a.c x0) H0 iv.le (by rw [S_a.enc.len]; exact T.sz107) vAgg_cells (S_a.enc.one _)
 have i9:=i8 _ _ iv
 obtain ⟨b11,H12,a13,f14,q15,r16,x17,i18⟩:=al_ok H2 107 (S_a.c S_a.zero) i9.le
 have i19:=i18 _ _ i9
 have f20:=x17 _ _ f4
 simp only [C.f121r0,R,Nat.reduceEqDiff,a3,zs107,a13]
 refine hJ _ ?_
 refine tk_seq_j (fun ⟨σ,H,_⟩=>∃ x22 x23,b_bp n x22 x23 = some r ∧ Lk σ 1 (.pointer (some ⟨b1,0,none⟩)) ∧ Lk σ 2 (.pointer (some ⟨b11,0,none⟩)) ∧ H[b1]? = some (.cells (S_a.c x22) 107) ∧ H[b11]? = some (.cells (S_a.c x23) 107) ∧ Iv c.nb [] H0 H) ?_ ?_
 ·skip
  rintro ⟨σ30,H24,d31⟩ ⟨x22,x23,hm,h25,h26,f27,f28,i29⟩
  rw [b_bp] at hm
  refine tk_os okM hok fun J hJ=>?_
  have a32:=ld_agg (M:=Mt) (t:=107) f27 T.ag107 (by rw [S_a.enc.len]; exact T.sz107) Seg.refl
  obtain ⟨H33,a34,f35,u36⟩:=st_ok (M:=Mt) (t:=107) (v:=(vAgg (S_a.c (x22)))) (c:=S_a.c x22) (cs':=S_a.c x22) f28 (by rw [S_a.enc.len]; exact T.sz107) vAgg_cells (S_a.enc.one _) (Nat.le_trans hcn r16) (le0 S_a.enc.len) (wrs_all (eqL S_a.enc.len))
  have i37:=i29.up u36 r16
  have f38:=(u36.get _ (ne_len f4 q15)).trans f27
  simp only [C.f121r3,R,Nat.reduceEqDiff,a32,h25,a34,h26]
  refine hJ _ ?_
  refine tk_ret okM ?_
  obtain rfl:=Option.some.inj hm
  exact end_flat (.inl rfl) (vs:=[(vAgg (S_a.c (x22)))]) (resC' (v:=(vAgg (S_a.c (x22)))) h26 (ldv_of (ld_agg (M:=Mt) (t:=107) f35 T.ag107 (by rw [S_a.enc.len]; exact T.sz107) Seg.refl)) resN) (fm_cons (flat_agg S_a.enc _) fm_nil)
 ·refine fun K n39 x40=>?_
  refine tk_os okM hok fun J hJ=>?_
  have a41:=ld_one (M:=Mt) (t:=9) f20 T.ag9 ((Seg.refl.sub (S_a.seg0 x0)).sub (S_c.seg3 x0.f_Facts))
  simp only [C.f121r1,R,Nat.reduceEqDiff,fa107_0,fa54_3,a41,len_str (M:=Mt) Tryz.underlying9]
  refine hJ _ ?_
  refine tk_cond (t:=decide (100 < ((x0.f_Facts.f_Prefix.size:Int)))) rfl (fun g42=>?_) (fun g42=>?_)
  ·replace hm:=cond_t hm g42
   refine tk_oe okM hok fun J hJ=>?_
   have a43:=ld_one (M:=Mt) (t:=9) f20 T.ag9 ((Seg.refl.sub (S_a.seg0 x0)).sub (S_c.seg3 x0.f_Facts))
   obtain ⟨v44,ev44,hm⟩:=bind_s hm
   obtain ⟨H45,a46,f47,u48⟩:=st_ok (M:=Mt) (t:=9) (v:=(.string (v44))) (c:=cStr v44) (cs':=S_a.c ({ x0 with f_Facts:={ x0.f_Facts with f_Prefix:=v44 } })) f20 (by rw [enc_str.len]; exact T.sz9) rfl (enc_str.one _) (Nat.le_trans hcn r6) (Nat.le_trans (Nat.le_of_eq (congrArg _ (eqL enc_str.len))) ((Seg.refl.sub (S_a.seg0 x0)).sub (S_c.seg3 x0.f_Facts)).2) (by rw [wrs_in (Seg.refl.sub (S_a.seg0 x0)) (by have:=trivial; simp only [enc_str.len,S_c.enc.len]; omega),S_c.wr3 x0.f_Facts v44,Nat.zero_add,S_a.wr0 x0 ({ x0.f_Facts with f_Prefix:=v44 })])
   have i49:=i19.up u48 r6
   have f50:=(u48.get _ (ne_len f4 q15).symm).trans f14
   obtain ⟨H51,a52,f53,u54⟩:=st_ok (M:=Mt) (t:=4) (v:=(.bool (false))) (c:=cBool false) (cs':=S_a.c (S_a.w1 ({ x0 with f_Facts:={ x0.f_Facts with f_Prefix:=v44 } }) false)) f47 (by rw [enc_bool.len]; exact T.sz4) rfl (enc_bool.one _) (Nat.le_trans hcn r6) (Nat.le_trans (Nat.le_of_eq (congrArg _ (eqL enc_bool.len))) (Seg.refl.sub (S_a.seg1 ({ x0 with f_Facts:={ x0.f_Facts with f_Prefix:=v44 } }))).2) (by rw [Nat.zero_add,S_a.wr1 ({ x0 with f_Facts:={ x0.f_Facts with f_Prefix:=v44 } }) false])
   have i55:=i49.up u54 r6
   have f56:=(u54.get _ (ne_len f4 q15).symm).trans f50
   simp only [C.f121r2,R,Nat.reduceEqDiff,fa107_0,fa54_3,a43,sl_str3 (M:=Mt) Tryz.underlying9,ev44,a46,fa107_1,a52]
   refine hJ _ ?_
   refine n39 _ ?_
   exact ⟨S_a.w1 ({ x0 with f_Facts:={ x0.f_Facts with f_Prefix:=v44 } }) false,S_a.zero,hm,rfl,rfl,f53,f56,i55⟩
  ·replace hm:=cond_f hm g42
   refine tk_skip okM ?_
   refine n39 _ ?_
   exact ⟨x0,S_a.zero,hm,rfl,rfl,f20,f14,i19⟩
def b_cE (n:Nat) (x0:S_b):Option (S_b):=some (S_b.w2 (S_b.w1 ({ x0 with f_Kind:=0 }) 0) 0)
theorem w_f6 {call:CallF} (hok:CallOk Mt call) {n:Nat} {H0:Hp} {x0:S_b} {r:S_b} {ro:Nat} (hro:ro ≤ H0.length) (hm:b_cE n x0 = some r) :
  Pt Mt ro 124 [(vAgg (S_b.c x0))] H0 (vAgg (S_b.c (r))) H0 []:=by
 refine pt_new0 okM F124d (by exact Nat.le_of_ble_eq_true rfl) ?_ hro
 intro c hnt hnb hcr
 have hcn:c.ro ≤ c.nb:=by omega
 have iv:Iv c.nb [] H0 H0:=by rw [hnb]; exact iv_refl
 rw [show args0 [(vAgg (S_b.c x0))] = [(0,(vAgg (S_b.c x0)))] from rfl]
 rw [b_cE] at hm
 simp only [C.f124]
 refine tk_os okM hok fun J hJ=>?_
 obtain ⟨b1,H2,a3,f4,q5,r6,x7,i8⟩:=bx_ok (M:=Mt) (t:=72) (u:=(vAgg (S_b.c (x0)))) (cs:=S_b.c x0) H0 iv.le (by rw [S_b.enc.len]; exact T.sz72) vAgg_cells (S_b.enc.one _)
 have i9:=i8 _ _ iv
 obtain ⟨b11,H12,a13,f14,q15,r16,x17,i18⟩:=al_ok H2 72 (S_b.c S_b.zero) i9.le
 have i19:=i18 _ _ i9
 have f20:=x17 _ _ f4
 simp only [C.f124r0,R,Nat.reduceEqDiff,a3,zs72,a13]
 refine hJ _ ?_
 refine tk_os okM hok fun J hJ=>?_
 obtain ⟨H22,a23,f24,u25⟩:=st_ok (M:=Mt) (t:=3) (v:=(.int .i64 (0))) (c:=(cInt .i64) 0) (cs':=S_b.c ({ x0 with f_Kind:=0 })) f20 (by rw [enc_int.len]; exact T.sz3) rfl (enc_int.one _) (Nat.le_trans hcn r6) (Nat.le_trans (Nat.le_of_eq (congrArg _ (eqL enc_int.len))) (Seg.refl.sub (S_b.seg0 x0)).2) (by rw [Nat.zero_add,S_b.wr0 x0 0])
 have i26:=i19.up u25 r6
 have f27:=(u25.get _ (ne_len f4 q15).symm).trans f14
 obtain ⟨H28,a29,f30,u31⟩:=st_ok (M:=Mt) (t:=3) (v:=(.int .i64 (0))) (c:=(cInt .i64) 0) (cs':=S_b.c (S_b.w1 ({ x0 with f_Kind:=0 }) 0)) f24 (by rw [enc_int.len]; exact T.sz3) rfl (enc_int.one _) (Nat.le_trans hcn r6) (Nat.le_trans (Nat.le_of_eq (congrArg _ (eqL enc_int.len))) (Seg.refl.sub (S_b.seg1 ({ x0 with f_Kind:=0 }))).2) (by rw [Nat.zero_add,S_b.wr1 ({ x0 with f_Kind:=0 }) 0])
 have i32:=i26.up u31 r6
 have f33:=(u31.get _ (ne_len f4 q15).symm).trans f27
 obtain ⟨H34,a35,f36,u37⟩:=st_ok (M:=Mt) (t:=3) (v:=(.int .i64 (0))) (c:=(cInt .i64) 0) (cs':=S_b.c (S_b.w2 (S_b.w1 ({ x0 with f_Kind:=0 }) 0) 0)) f30 (by rw [enc_int.len]; exact T.sz3) rfl (enc_int.one _) (Nat.le_trans hcn r6) (Nat.le_trans (Nat.le_of_eq (congrArg _ (eqL enc_int.len))) (Seg.refl.sub (S_b.seg2 (S_b.w1 ({ x0 with f_Kind:=0 }) 0))).2) (by rw [Nat.zero_add,S_b.wr2 (S_b.w1 ({ x0 with f_Kind:=0 }) 0) 0])
 have i38:=i32.up u37 r6
 have f39:=(u37.get _ (ne_len f4 q15).symm).trans f33
 simp only [C.f124r1,R,Nat.reduceEqDiff,fa72_0,a23,fa72_1,a29,fa72_2,a35]
 refine hJ _ ?_
 refine tk_os okM hok fun J hJ=>?_
 have a40:=ld_agg (M:=Mt) (t:=72) f36 T.ag72 (by rw [S_b.enc.len]; exact T.sz72) Seg.refl
 obtain ⟨H41,a42,f43,u44⟩:=st_ok (M:=Mt) (t:=72) (v:=(vAgg (S_b.c (S_b.w2 (S_b.w1 ({ x0 with f_Kind:=0 }) 0) 0)))) (c:=S_b.c (S_b.w2 (S_b.w1 ({ x0 with f_Kind:=0 }) 0) 0)) (cs':=S_b.c (S_b.w2 (S_b.w1 ({ x0 with f_Kind:=0 }) 0) 0)) f39 (by rw [S_b.enc.len]; exact T.sz72) vAgg_cells (S_b.enc.one _) (Nat.le_trans hcn r16) (le0 S_b.enc.len) (wrs_all (eqL S_b.enc.len))
 have i45:=i38.up u44 r16
 have f46:=(u44.get _ (ne_len f4 q15)).trans f36
 simp only [C.f124r2,R,Nat.reduceEqDiff,a40,a42]
 refine hJ _ ?_
 refine tk_ret okM ?_
 obtain rfl:=Option.some.inj hm
 exact end_flat (.inl rfl) (vs:=[(vAgg (S_b.c (S_b.w2 (S_b.w1 ({ x0 with f_Kind:=0 }) 0) 0)))]) (resC' (v:=(vAgg (S_b.c (S_b.w2 (S_b.w1 ({ x0 with f_Kind:=0 }) 0) 0)))) rfl (ldv_of (ld_agg (M:=Mt) (t:=72) f43 T.ag72 (by rw [S_b.enc.len]; exact T.sz72) Seg.refl)) resN) (fm_cons (flat_agg S_b.enc _) fm_nil)
def b_E (c_Y:T_cn) (n:Nat) (x0:(Sl S_b)) (x1:(Sl Int)):Nat → Int → Int → Option (Int)
 | 0,_,_=>none
 | k + 1,x7_9,x8_10=>bif decide (x8_10 < x7_9) then ((ck (Sl.l x0).length x8_10).bind fun j29=>(c_Y (Sl.nth x0 j29) x1).bind fun v34=>bif v34 then (some x8_10) else (b_E c_Y n x0 x1 k x7_9 (IntKind.i64.wrap (x8_10 + 1)))) else (some ((-1)))
def b_bm (c_Y:T_cn) (n:Nat) (x0:(Sl S_b)) (x1:(Sl Int)):Option (Int):=b_E c_Y n x0 x1 n (Sl.len x0) 0
theorem w_el {call:CallF} (hok:CallOk Mt call) {n:Nat} {c_Y:T_cn} (z_fn:A_d9 call c_Y) {H0:Hp} {x0:(Sl S_b)} {b0:Nat} {x1:(Sl Int)} {b1:Nat} {s1:Nat} {r:Int} {ro:Nat} (hro:ro ≤ H0.length) (h0:SlH H0 S_b.c 72 x0 b0) (hb1:H0[b1]? = some (.cells [slV x1 s1] 100)) (h1:SlH H0 (cInt .i64) 3 x1 s1) (hm:b_bm c_Y n x0 x1 = some r) :
  Pt Mt ro 138 [(slV x0 b0),(.func (.func 105) [].toArray [(.pointer (some ⟨b1,0,none⟩))].toArray)] H0 (.int .i64 (r)) H0 []:=by
 refine pt_new0 okM F138d (by exact Nat.le_of_ble_eq_true rfl) ?_ hro
 intro c hnt hnb hcr
 have hcn:c.ro ≤ c.nb:=by omega
 have l0:x0 ≠ none → b0 < c.nb:=fun h=>by rw [hnb]; exact h0.lt h
 have lb1:b1 < c.nb:=by rw [hnb]; exact get_lt hb1
 have l1:x1 ≠ none → s1 < c.nb:=fun h=>by rw [hnb]; exact h1.lt h
 have iv:Iv c.nb [] H0 H0:=by rw [hnb]; exact iv_refl
 rw [show args0 [(slV x0 b0),(.func (.func 105) [].toArray [(.pointer (some ⟨b1,0,none⟩))].toArray)] = [(0,(slV x0 b0)),(1,(.func (.func 105) [].toArray [(.pointer (some ⟨b1,0,none⟩))].toArray))] from rfl]
 rw [b_bm] at hm
 simp only [C.f138,C.f138b0]
 refine tk_os okM hok fun J hJ=>?_
 simp only [C.f138r0,R,Nat.reduceEqDiff]
 refine hJ _ ?_
 refine tk_seq_k fun K n4 x5=>?_
 refine tk_os okM hok fun J hJ=>?_
 simp only [C.f138r1,R,Nat.reduceEqDiff,ln35]
 refine hJ _ ?_
 refine tk_block_k fun K n6 e7 x8=>?_
 refine tk_loop_k (n:=n) (fun k1 ⟨σ,H,_⟩=>∃ x7_9 x8_10,b_E c_Y n x0 x1 k1 x7_9 x8_10 = some r ∧ Lk σ 0 (slV x0 b0) ∧ Lk σ 1 (.func (.func 105) [].toArray [(.pointer (some ⟨b1,0,none⟩))].toArray) ∧ Lk σ 7 (.int .i64 x7_9) ∧ Lk σ 8 (.int .i64 x8_10) ∧ Iv c.nb [] H0 H) ?_ ?_ ?_
 ·exact ⟨Sl.len x0,0,hm,rfl,rfl,rfl,rfl,iv⟩
 ·rintro ⟨σ,H,d⟩ ⟨_,_,hm,_⟩
  cases hm
 ·intro k1 K n11 x12
  rintro ⟨σ19,H13,d20⟩ ⟨x7_9,x8_10,hm,h14,h15,h16,h17,i18⟩
  rw [b_E.eq_2] at hm
  refine tk_os okM hok fun J hJ=>?_
  simp only [C.f138r2,R,Nat.reduceEqDiff,h17,h16]
  refine hJ _ ?_
  refine tk_seq_k fun K n21 x22=>?_
  refine tk_cond (t:=decide (x8_10 < x7_9)) rfl (fun g23=>?_) (fun g23=>?_)
  ·replace hm:=cond_t hm g23
   refine tk_skip okM ?_
   refine n21 _ ?_
   refine tk_seq_k fun K n24 x25=>?_
   refine tk_block_k fun K n26 e27 x28=>?_
   refine tk_os okM hok fun J hJ=>?_
   simp only [C.f138r3,R,Nat.reduceEqDiff,h17]
   refine hJ _ ?_
   refine tk_os okM hok fun J hJ=>?_
   obtain ⟨j29,ej29,hm⟩:=bind_s hm
   obtain ⟨mm30,k31⟩:=(h0.iv l0 (fun _=>by simp) i18).blk (ck_lt ej29).1
   have a32:=lds_agg (M:=Mt) (t:=72) k31 T.ag72 (by rw [S_b.enc.len]; exact T.sz72) (seg_sl S_b.enc.len mm30 (ck_lt ej29).1)
   obtain ⟨v34,ev34,hm⟩:=bind_s hm
   have a33:=z_fn c.ro H13 (Sl.nth x0 j29) x1 b1 s1 v34 ((i18.old b1 lb1 (by simp)).trans hb1) (h1.iv l1 (fun _=>by simp) i18) ev34
   simp only [C.f138r4,R,Nat.reduceEqDiff,h15,h14,ia35,ej29,a32,c_cl,cl_fn F105,List.toList_toArray,List.nil_append,List.append_nil,List.cons_append,a33]
   refine hJ _ ?_
   refine tk_cond (t:=v34) rfl (fun g35=>?_) (fun g35=>?_)
   ·replace hm:=cond_t hm g35
    refine tk_os okM hok fun J hJ=>?_
    simp only [C.f138r5,R,Nat.reduceEqDiff]
    refine hJ _ ?_
    refine tk_ret okM ?_
    refine x28 _ _ (by simp) (by simp) ?_
    refine x25 _ _ (by simp) ?_
    refine x12 _ _ (by simp) ?_
    refine x8 _ _ (by simp) (by simp) ?_
    refine x5 _ _ (by simp) ?_
    obtain rfl:=Option.some.inj hm
    exact end_flat (.inl rfl) (vs:=[(.int .i64 (x8_10))]) (resT' (v:=(.int .i64 (x8_10))) rfl resN) (fm_cons rfl fm_nil)
   ·replace hm:=cond_f hm g35
    refine tk_skip okM ?_
    refine n26 _ ?_
    refine n24 _ ?_
    refine tk_oe okM hok fun J hJ=>?_
    simp only [C.f138r6,R,Nat.reduceEqDiff,h17]
    refine hJ _ ?_
    refine n11 _ ?_
    exact ⟨x7_9,IntKind.i64.wrap (x8_10 + 1),hm,h14,h15,h16,rfl,i18⟩
  ·replace hm:=cond_f hm g23
   refine tk_exit okM ?_
   refine x22 _ _ (by simp) ?_
   refine x12 _ _ (by simp) ?_
   refine e7 _ ?_
   refine n4 _ ?_
   refine tk_os okM hok fun J hJ=>?_
   simp only [C.f138r7,R,Nat.reduceEqDiff]
   refine hJ _ ?_
   refine tk_ret okM ?_
   obtain rfl:=Option.some.inj hm
   exact end_flat (.inl rfl) (vs:=[(.int .i64 ((-1)))]) (resT' (v:=(.int .i64 ((-1)))) rfl resN) (fm_cons rfl fm_nil)
def b_bt (n:Nat) (x0:Int):Option (Int):=bif decide (x0 = 0) then (some 64) else ((shrO .u64 (IntKind.u64.wrap ((andI .u64 x0 (IntKind.u64.wrap (0 - x0))) * 285870213051353865)) 58).bind fun v4=>(ck 64 v4).bind fun j5=>some (IntKind.i64.wrap (tabN1 j5)))
theorem w_eA {call:CallF} (hok:CallOk Mt call) {n:Nat} {H0:Hp} {x0:Int} {r:Int} {ro:Nat} (hro:ro ≤ H0.length) (hm:b_bt n x0 = some r) (hG1:TabH1 H0) :
  Pt Mt ro 152 [(.int .u64 x0)] H0 (.int .i64 (r)) H0 []:=by
 refine pt_new0 okM F152d (by exact Nat.le_of_ble_eq_true rfl) ?_ hro
 intro c hnt hnb hcr
 have hcn:c.ro ≤ c.nb:=by omega
 have iv:Iv c.nb [] H0 H0:=by rw [hnb]; exact iv_refl
 rw [show args0 [(.int .u64 x0)] = [(0,(.int .u64 x0))] from rfl]
 rw [b_bt] at hm
 simp only [C.f152]
 refine tk_os okM hok fun J hJ=>?_
 simp only [C.f152r0,R,Nat.reduceEqDiff]
 refine hJ _ ?_
 refine tk_seq_k fun K n1 x2=>?_
 refine tk_os okM hok fun J hJ=>?_
 simp only [C.f152r1,R,Nat.reduceEqDiff]
 refine hJ _ ?_
 refine tk_cond (t:=decide (x0 = 0)) rfl (fun g3=>?_) (fun g3=>?_)
 ·replace hm:=cond_t hm g3
  refine tk_os okM hok fun J hJ=>?_
  simp only [C.f152r2,R,Nat.reduceEqDiff]
  refine hJ _ ?_
  refine tk_ret okM ?_
  refine x2 _ _ (by simp) ?_
  obtain rfl:=Option.some.inj hm
  exact end_flat (.inl rfl) (vs:=[(.int .i64 (64))]) (resT' (v:=(.int .i64 (64))) rfl resN) (fm_cons rfl fm_nil)
 ·replace hm:=cond_f hm g3
  refine tk_skip okM ?_
  refine n1 _ ?_
  refine tk_os okM hok fun J hJ=>?_
  obtain ⟨v4,ev4,hm⟩:=bind_s hm
  obtain ⟨j5,ej5,hm⟩:=bind_s hm
  have a6:=ld_tab (M:=Mt) (t:=5) (tabIv1 iv hnb hG1) T.ag5 (tabG1 (ck_lt ej5).1)
  simp only [C.f152r3,R,Nat.reduceEqDiff,ev4,ia206,ej5,a6,cv_int (M:=Mt) Tryz.underlying5 Tryz.underlying3]
  refine hJ _ ?_
  refine tk_ret okM ?_
  obtain rfl:=Option.some.inj hm
  exact end_flat (.inl rfl) (vs:=[(.int .i64 (IntKind.i64.wrap (tabN1 j5)))]) (resT' (v:=(.int .i64 (IntKind.i64.wrap (tabN1 j5)))) rfl resN) (fm_cons rfl fm_nil)
end Go.Proofs.YtaadjlpfdajggaaGreatDoor
