import Derived.Test.YtaadjlpfdajggaaGreatDoorBtBase
set_option maxRecDepth 100000
set_option linter.unusedVariables false
set_option linter.unusedSimpArgs false
namespace Go.Proofs.YtaadjlpfdajggaaGreatDoor
open Go Go.AM
attribute [local congr] bind_first map_first
def b_cc (c_dU:T_e4) (c_dQ:T_e5) (c_S:T_cm) (c_R:T_ci) (c_bd:T_cB) (c_de:T_d8) (c_c5:T_dO) (c_df:T_d2) (n:Nat) (x0:(Sl S_a)) (x1:Int):Option (Bool):=(c_dU x0 60).bind fun v14=>(c_dQ v14).bind fun v28=>(c_S v14 x1).bind fun v41=>(c_R v28 x1).bind fun v43=>(c_bd v14 x1).bind fun v46=>(c_de v28 x1).bind fun v48=>(c_c5 v14 x1).bind fun v51=>(bif ((((((decide (v41.1 = v43.1)) && (decide (v41.2 = v43.2))) && (fcmp .eql v46.1 v48.1)) && (decide (v46.2 = v48.2))) && (fcmp .eql v51.1.f_Steps v48.1)) && (fcmp .eql v51.1.f_Room v48.1)) && (decide (v51.2 = v43.2)) then ((c_df).bind fun v137=>some v137) else some false).bind fun y138=>some y138
theorem w_fX {call:CallF} (hok:CallOk Mt call) {n:Nat} {c_dU:T_e4} (z_hO:A_ga call c_dU) {c_dQ:T_e5} (z_hE:A_gb call c_dQ) {c_S:T_cm} (z_d7:A_eI call c_S) {c_R:T_ci} (z_ec:A_ew call c_R) {c_bd:T_cB} (z_dK:A_ea call c_bd) {c_de:T_d8} (z_ha:A_fz call c_de) {c_c5:T_dO} (z_gx:A_ff call c_c5) {c_df:T_d2} (z_hc:A_fI call c_df) {H0:Hp} {x0:(Sl S_a)} {b0:Nat} {x1:Int} {r:Bool} {ro:Nat} (hro:ro ≤ H0.length) (h0:SlH H0 S_a.c 72 x0 b0) (hm:b_cc c_dU c_dQ c_S c_R c_bd c_de c_c5 c_df n x0 x1 = some r) (hG1:TabH1 H0) :
  Pt Mt ro 4 [(vAgg [slV x0 b0]),(.int .i64 x1)] H0 (.bool (r)) H0 []:=by
 refine pt_new0 okM F4d (by exact Nat.le_of_ble_eq_true rfl) ?_ hro
 intro c hnt hnb hcr
 have hcn:c.ro ≤ c.nb:=by omega
 have l0:x0 ≠ none → b0 < c.nb:=fun h=>by rw [hnb]; exact h0.lt h
 have iv:Iv c.nb [] H0 H0:=by rw [hnb]; exact iv_refl
 rw [show args0 [(vAgg [slV x0 b0]),(.int .i64 x1)] = [(0,(vAgg [slV x0 b0])),(1,(.int .i64 x1))] from rfl]
 rw [b_cc] at hm
 simp only [C.f4]
 refine tk_os okM hok fun J hJ=>?_
 obtain ⟨b2,H3,a4,f5,q6,r7,x8,i9⟩:=bx_ok (M:=Mt) (t:=37) (u:=(vAgg [(slV x0 b0)])) (cs:=[(slV x0 b0)]) H0 iv.le T.sz37 vAgg_cells one_sl
 have i10:=i9 _ _ iv
 simp only [C.f4r0,R,Nat.reduceEqDiff,a4]
 refine hJ _ ?_
 refine tk_os okM hok fun J hJ=>?_
 have a12:=ld_agg (M:=Mt) (t:=37) (off:=0) (c:=[(slV x0 b0)]) f5 T.ag37 T.sz37 Seg.refl
 obtain ⟨v14,ev14,hm⟩:=bind_s hm
 have a13:=z_hO c.ro H3 x0 b0 60 v14 (h0.iv l0 (fun _=>by simp) i10) ev14
 obtain ⟨a17,l16,f15⟩:=a13
 have f18:=f15 _ _ h0
 have l19:=fun h=>l0 (l16 h)
 obtain ⟨H21,a22,f23,u24⟩:=st_ok (M:=Mt) (t:=37) (off:=0) (ro:=c.ro) (v:=(vAgg [(slV v14 b0)])) (c:=[(slV v14 b0)]) (cs':=[(slV v14 b0)]) f5 T.sz37 vAgg_cells one_sl (Nat.le_trans hcn r7) (Nat.le_refl _) rfl
 have i25:=i10.up u24 r7
 simp only [C.f4r1,R,Nat.reduceEqDiff,a12,c_fn F18,a17,a22]
 refine hJ _ ?_
 refine tk_os okM hok fun J hJ=>?_
 have a26:=ld_agg (M:=Mt) (t:=37) (off:=0) (c:=[(slV v14 b0)]) f23 T.ag37 T.sz37 Seg.refl
 obtain ⟨v28,ev28,hm⟩:=bind_s hm
 have a27:=z_hE c.ro H21 v14 b0 v28 (f18.iv l19 (fun _=>by simp) i25) ev28
 obtain ⟨H29,q30⟩:∃ x,x = H21 ++ slB S_b.c 97 v28:=⟨_,rfl⟩
 obtain ⟨b31,q32⟩:∃ b,b = H21.length:=⟨_,rfl⟩
 rw [← q30,← q32] at a27
 have x36:Ex H21 H29:=by rw [q30]; exact ex_app
 have i34:Iv c.nb [] H0 H29:=by rw [q30]; exact i25.app
 have f33:SlO c.nb H29 S_b.c 97 v28 b31:=by rw [q30,q32]; exact slB_own i25.le
 have r35:c.nb ≤ b31:=by rw [q32]; exact i25.le
 have f37:=x36 _ _ f23
 simp only [C.f4r2,R,Nat.reduceEqDiff,a26,c_fn F19,a27]
 refine hJ _ ?_
 refine tk_os okM hok fun J hJ=>?_
 have a39:=ld_agg (M:=Mt) (t:=37) (off:=0) (c:=[(slV v14 b0)]) f37 T.ag37 T.sz37 Seg.refl
 obtain ⟨v41,ev41,hm⟩:=bind_s hm
 have a40:=z_d7 c.ro H29 v14 b0 x1 v41 (f18.iv l19 (fun _=>by simp) i34) ev41
 simp only [C.f4r3,R,Nat.reduceEqDiff,a39,c_fn F20,a40]
 refine hJ _ ?_
 refine tk_os okM hok fun J hJ=>?_
 obtain ⟨v43,ev43,hm⟩:=bind_s hm
 have a42:=z_ec c.ro H29 v28 b31 x1 v43 f33.h ev43
 simp only [C.f4r4,R,Nat.reduceEqDiff,c_fn F21,a42]
 refine hJ _ ?_
 refine tk_os okM hok fun J hJ=>?_
 have a44:=ld_agg (M:=Mt) (t:=37) (off:=0) (c:=[(slV v14 b0)]) f37 T.ag37 T.sz37 Seg.refl
 obtain ⟨v46,ev46,hm⟩:=bind_s hm
 have a45:=z_dK c.ro H29 v14 b0 x1 v46 (f18.iv l19 (fun _=>by simp) i34) ev46
 simp only [C.f4r5,R,Nat.reduceEqDiff,a44,c_fn F22,a45]
 refine hJ _ ?_
 refine tk_os okM hok fun J hJ=>?_
 obtain ⟨v48,ev48,hm⟩:=bind_s hm
 have a47:=z_ha c.ro H29 v28 b31 x1 v48 f33.h ev48
 simp only [C.f4r6,R,Nat.reduceEqDiff,c_fn F23,a47]
 refine hJ _ ?_
 refine tk_os okM hok fun J hJ=>?_
 have a49:=ld_agg (M:=Mt) (t:=37) (off:=0) (c:=[(slV v14 b0)]) f37 T.ag37 T.sz37 Seg.refl
 obtain ⟨v51,ev51,hm⟩:=bind_s hm
 have a50:=z_gx c.ro H29 v14 b0 x1 v51 (f18.iv l19 (fun _=>by simp) i34) ev51
 obtain ⟨b52,H53,a54,f55,q56,r57,x58,i59⟩:=al_ok H29 49 (S_d.c S_d.zero) i34.le
 have i60:=i59 _ _ i34
 have f61:=x58 _ _ f37
 obtain ⟨H63,a64,f65,u66⟩:=st_ok (M:=Mt) (t:=49) (v:=(vAgg (S_d.c (v51.1)))) (c:=S_d.c v51.1) (cs':=S_d.c v51.1) f55 (by rw [S_d.enc.len]; exact T.sz49) vAgg_cells (S_d.enc.one _) (Nat.le_trans hcn r57) (le0 S_d.enc.len) (wrs_all (eqL S_d.enc.len))
 have i67:=i60.up u66 r57
 have f68:=(u66.get _ (ne_len f37 q56)).trans f61
 simp only [C.f4r7,R,Nat.reduceEqDiff,a49,c_fn F24,a50,zs49,a54,a64]
 refine hJ _ ?_
 refine tk_os okM hok fun J hJ=>?_
 rw [C.f4r8]
 refine rn_app_k (fun ⟨σ,H,_⟩=>Lk σ 9 (.int .i64 (v43.2)) ∧ Lk σ 10 (.float .f64 (v46.1)) ∧ Lk σ 11 (.int .i64 (v46.2)) ∧ Lk σ 12 (.float .f64 (v48.1)) ∧ Lk σ 13 (.int .i64 (v48.2)) ∧ Lk σ 14 (.pointer (some ⟨b52,0,none⟩)) ∧ Lk σ 15 (.int .i64 (v51.2)) ∧ Lk σ 57 (.bool ((decide (v41.1 = v43.1)) && (decide (v41.2 = v43.2)))) ∧ H[b52]? = some (.cells (S_d.c v51.1) 49) ∧ Iv c.nb [] H0 H) (fun J hJ=>?_) ?_
 ·skip
  cases g80:decide (v41.1 = v43.1)
  ·skip
   simp only [C.f4r8p0,R,Nat.reduceEqDiff,g80]
   refine hJ _ ?_
   exact ⟨(by first | rfl | (simp only [g80]; rfl) | simp only [g80,Lk,RB,Nat.reduceEqDiff,not_false_eq_true]),(by first | rfl | (simp only [g80]; rfl) | simp only [g80,Lk,RB,Nat.reduceEqDiff,not_false_eq_true]),(by first | rfl | (simp only [g80]; rfl) | simp only [g80,Lk,RB,Nat.reduceEqDiff,not_false_eq_true]),(by first | rfl | (simp only [g80]; rfl) | simp only [g80,Lk,RB,Nat.reduceEqDiff,not_false_eq_true]),(by first | rfl | (simp only [g80]; rfl) | simp only [g80,Lk,RB,Nat.reduceEqDiff,not_false_eq_true]),rfl,(by first | rfl | (simp only [g80]; rfl) | simp only [g80,Lk,RB,Nat.reduceEqDiff,not_false_eq_true]),(by first | rfl | (simp only [g80]; rfl) | simp only [g80,Lk,RB,Nat.reduceEqDiff,not_false_eq_true]),f65,i67⟩
  ·skip
   simp only [C.f4r8p0,R,Nat.reduceEqDiff,g80]
   refine hJ _ ?_
   exact ⟨(by first | rfl | (simp only [g80]; rfl) | simp only [g80,Lk,RB,Nat.reduceEqDiff,not_false_eq_true]),(by first | rfl | (simp only [g80]; rfl) | simp only [g80,Lk,RB,Nat.reduceEqDiff,not_false_eq_true]),(by first | rfl | (simp only [g80]; rfl) | simp only [g80,Lk,RB,Nat.reduceEqDiff,not_false_eq_true]),(by first | rfl | (simp only [g80]; rfl) | simp only [g80,Lk,RB,Nat.reduceEqDiff,not_false_eq_true]),(by first | rfl | (simp only [g80]; rfl) | simp only [g80,Lk,RB,Nat.reduceEqDiff,not_false_eq_true]),rfl,(by first | rfl | (simp only [g80]; rfl) | simp only [g80,Lk,RB,Nat.reduceEqDiff,not_false_eq_true]),(by first | rfl | (simp only [g80]; rfl) | simp only [g80,Lk,RB,Nat.reduceEqDiff,not_false_eq_true]),f65,i67⟩
 rintro ⟨σ81,H69,d82⟩ ⟨h70,h71,h72,h73,h74,h75,h76,h77,f78,i79⟩
 refine rn_app_k (fun ⟨σ,H,_⟩=>Lk σ 9 (.int .i64 (v43.2)) ∧ Lk σ 11 (.int .i64 (v46.2)) ∧ Lk σ 12 (.float .f64 (v48.1)) ∧ Lk σ 13 (.int .i64 (v48.2)) ∧ Lk σ 14 (.pointer (some ⟨b52,0,none⟩)) ∧ Lk σ 15 (.int .i64 (v51.2)) ∧ Lk σ 62 (.bool (((decide (v41.1 = v43.1)) && (decide (v41.2 = v43.2))) && (fcmp .eql v46.1 v48.1))) ∧ H[b52]? = some (.cells (S_d.c v51.1) 49) ∧ Iv c.nb [] H0 H) (fun J hJ=>?_) ?_
 ·skip
  cases g93:(decide (v41.1 = v43.1)) && (decide (v41.2 = v43.2))
  ·skip
   simp only [C.f4r8p1,R,Nat.reduceEqDiff,h77,↓g93]
   refine hJ _ ?_
   exact ⟨h70,h72,h73,h74,h75,h76,(by first | rfl | (simp only [↓g93]; rfl) | simp only [↓g93,Lk,RB,Nat.reduceEqDiff,not_false_eq_true]),f78,i79⟩
  ·skip
   simp only [C.f4r8p1,R,Nat.reduceEqDiff,h77,↓g93,h71,h73,bin_feql]
   refine hJ _ ?_
   exact ⟨h70,h72,h73,h74,h75,h76,(by first | rfl | (simp only [↓g93]; rfl) | simp only [↓g93,Lk,RB,Nat.reduceEqDiff,not_false_eq_true]),f78,i79⟩
 rintro ⟨σ94,H83,d95⟩ ⟨h84,h85,h86,h87,h88,h89,h90,f91,i92⟩
 refine rn_app_k (fun ⟨σ,H,_⟩=>Lk σ 9 (.int .i64 (v43.2)) ∧ Lk σ 12 (.float .f64 (v48.1)) ∧ Lk σ 14 (.pointer (some ⟨b52,0,none⟩)) ∧ Lk σ 15 (.int .i64 (v51.2)) ∧ Lk σ 67 (.bool ((((decide (v41.1 = v43.1)) && (decide (v41.2 = v43.2))) && (fcmp .eql v46.1 v48.1)) && (decide (v46.2 = v48.2)))) ∧ H[b52]? = some (.cells (S_d.c v51.1) 49) ∧ Iv c.nb [] H0 H) (fun J hJ=>?_) ?_
 ·skip
  cases g104:((decide (v41.1 = v43.1)) && (decide (v41.2 = v43.2))) && (fcmp .eql v46.1 v48.1)
  ·skip
   simp only [C.f4r8p2,R,Nat.reduceEqDiff,h90,↓g104]
   refine hJ _ ?_
   exact ⟨h84,h86,h88,h89,(by first | rfl | (simp only [↓g104]; rfl) | simp only [↓g104,Lk,RB,Nat.reduceEqDiff,not_false_eq_true]),f91,i92⟩
  ·skip
   simp only [C.f4r8p2,R,Nat.reduceEqDiff,h90,↓g104,h85,h87]
   refine hJ _ ?_
   exact ⟨h84,h86,h88,h89,(by first | rfl | (simp only [↓g104]; rfl) | simp only [↓g104,Lk,RB,Nat.reduceEqDiff,not_false_eq_true]),f91,i92⟩
 rintro ⟨σ105,H96,d106⟩ ⟨h97,h98,h99,h100,h101,f102,i103⟩
 refine rn_app_k (fun ⟨σ,H,_⟩=>Lk σ 9 (.int .i64 (v43.2)) ∧ Lk σ 12 (.float .f64 (v48.1)) ∧ Lk σ 14 (.pointer (some ⟨b52,0,none⟩)) ∧ Lk σ 15 (.int .i64 (v51.2)) ∧ Lk σ 73 (.bool (((((decide (v41.1 = v43.1)) && (decide (v41.2 = v43.2))) && (fcmp .eql v46.1 v48.1)) && (decide (v46.2 = v48.2))) && (fcmp .eql v51.1.f_Steps v48.1))) ∧ H[b52]? = some (.cells (S_d.c v51.1) 49) ∧ Iv c.nb [] H0 H) (fun J hJ=>?_) ?_
 ·skip
  cases g116:(((decide (v41.1 = v43.1)) && (decide (v41.2 = v43.2))) && (fcmp .eql v46.1 v48.1)) && (decide (v46.2 = v48.2))
  ·skip
   simp only [C.f4r8p3,R,Nat.reduceEqDiff,h101,↓g116]
   refine hJ _ ?_
   exact ⟨h97,h98,h99,h100,(by first | rfl | (simp only [↓g116]; rfl) | simp only [↓g116,Lk,RB,Nat.reduceEqDiff,not_false_eq_true]),f102,i103⟩
  ·skip
   have a117:=ld_one (M:=Mt) (t:=44) f102 T.ag44 (Seg.refl.sub (S_d.seg0 v51.1))
   simp only [C.f4r8p3,R,Nat.reduceEqDiff,h101,↓g116,fa49_0,h99,a117,h98,bin_feql]
   refine hJ _ ?_
   exact ⟨h97,h98,h99,h100,(by first | rfl | (simp only [↓g116]; rfl) | simp only [↓g116,Lk,RB,Nat.reduceEqDiff,not_false_eq_true]),f102,i103⟩
 rintro ⟨σ118,H108,d119⟩ ⟨h109,h110,h111,h112,h113,f114,i115⟩
 refine rn_app_k (fun ⟨σ,H,_⟩=>Lk σ 9 (.int .i64 (v43.2)) ∧ Lk σ 15 (.int .i64 (v51.2)) ∧ Lk σ 79 (.bool ((((((decide (v41.1 = v43.1)) && (decide (v41.2 = v43.2))) && (fcmp .eql v46.1 v48.1)) && (decide (v46.2 = v48.2))) && (fcmp .eql v51.1.f_Steps v48.1)) && (fcmp .eql v51.1.f_Room v48.1))) ∧ Iv c.nb [] H0 H) (fun J hJ=>?_) ?_
 ·skip
  cases g126:((((decide (v41.1 = v43.1)) && (decide (v41.2 = v43.2))) && (fcmp .eql v46.1 v48.1)) && (decide (v46.2 = v48.2))) && (fcmp .eql v51.1.f_Steps v48.1)
  ·skip
   simp only [C.f4r8p4,R,Nat.reduceEqDiff,h113,↓g126]
   refine hJ _ ?_
   exact ⟨h109,h112,(by first | rfl | (simp only [↓g126]; rfl) | simp only [↓g126,Lk,RB,Nat.reduceEqDiff,not_false_eq_true]),i115⟩
  ·skip
   have a127:=ld_one (M:=Mt) (t:=44) f114 T.ag44 (Seg.refl.sub (S_d.seg1 v51.1))
   simp only [C.f4r8p4,R,Nat.reduceEqDiff,h113,↓g126,fa49_1,h111,a127,h110,bin_feql]
   refine hJ _ ?_
   exact ⟨h109,h112,(by first | rfl | (simp only [↓g126]; rfl) | simp only [↓g126,Lk,RB,Nat.reduceEqDiff,not_false_eq_true]),i115⟩
 rintro ⟨σ128,H121,d129⟩ ⟨h122,h123,h124,i125⟩
 refine rn_app_k (fun ⟨σ,H,_⟩=>Lk σ 84 (.bool (((((((decide (v41.1 = v43.1)) && (decide (v41.2 = v43.2))) && (fcmp .eql v46.1 v48.1)) && (decide (v46.2 = v48.2))) && (fcmp .eql v51.1.f_Steps v48.1)) && (fcmp .eql v51.1.f_Room v48.1)) && (decide (v51.2 = v43.2)))) ∧ Iv c.nb [] H0 H) (fun J hJ=>?_) ?_
 ·skip
  cases g133:(((((decide (v41.1 = v43.1)) && (decide (v41.2 = v43.2))) && (fcmp .eql v46.1 v48.1)) && (decide (v46.2 = v48.2))) && (fcmp .eql v51.1.f_Steps v48.1)) && (fcmp .eql v51.1.f_Room v48.1)
  ·skip
   simp only [C.f4r8p5,R,Nat.reduceEqDiff,h124,↓g133]
   refine hJ _ ?_
   exact ⟨(by first | rfl | (simp only [↓g133]; rfl) | simp only [↓g133,Lk,RB,Nat.reduceEqDiff,not_false_eq_true]),i125⟩
  ·skip
   simp only [C.f4r8p5,R,Nat.reduceEqDiff,h124,↓g133,h123,h122]
   refine hJ _ ?_
   exact ⟨(by first | rfl | (simp only [↓g133]; rfl) | simp only [↓g133,Lk,RB,Nat.reduceEqDiff,not_false_eq_true]),i125⟩
 rintro ⟨σ134,H130,d135⟩ ⟨h131,i132⟩
 obtain ⟨y138,ey138,hm⟩:=bind_s hm
 refine rn_app_k (fun ⟨σ,H,_⟩=>Lk σ 87 (.bool (y138)) ∧ Iv c.nb [] H0 H) (fun J hJ=>?_) ?_
 ·skip
  cases g142:((((((decide (v41.1 = v43.1)) && (decide (v41.2 = v43.2))) && (fcmp .eql v46.1 v48.1)) && (decide (v46.2 = v48.2))) && (fcmp .eql v51.1.f_Steps v48.1)) && (fcmp .eql v51.1.f_Room v48.1)) && (decide (v51.2 = v43.2))
  ·skip
   have ey138:=cond_f ey138 g142
   obtain rfl:=Option.some.inj ey138
   simp only [C.f4r8p6,R,Nat.reduceEqDiff,h131,↓g142]
   refine hJ _ ?_
   exact ⟨(by first | rfl | (simp only [↓g142]; rfl) | simp only [↓g142,Lk,RB,Nat.reduceEqDiff,not_false_eq_true]),i132⟩
  ·skip
   have ey138:=cond_t ey138 g142
   obtain ⟨v144,ev144,ey138⟩:=bind_s ey138
   have a143:=z_hc c.ro H130  v144 (tabIv1 i132 hnb hG1) ev144
   obtain rfl:=Option.some.inj ey138
   simp only [C.f4r8p6,R,Nat.reduceEqDiff,h131,↓g142,c_fn F25,a143]
   refine hJ _ ?_
   exact ⟨(by first | rfl | (simp only [↓g142]; rfl) | simp only [↓g142,Lk,RB,Nat.reduceEqDiff,not_false_eq_true]),i132⟩
 rintro ⟨σ145,H139,d146⟩ ⟨h140,i141⟩
 simp only [C.f4r8p7,R,Nat.reduceEqDiff,h140]
 refine hJ _ ?_
 refine tk_ret okM ?_
 obtain rfl:=Option.some.inj hm
 exact end_flat (.inl rfl) (vs:=[(.bool (y138))]) (resT' (v:=(.bool (y138))) rfl resN) (fm_cons rfl fm_nil)
def b_dc (n:Nat) (x0:(Sl S_a)) (x1:Int):Option ((Sl S_a)):=(Sl.upto x0 (min (Sl.len x0) x1)).bind fun l25=>some l25
theorem w_ic {call:CallF} (hok:CallOk Mt call) {n:Nat} {H0:Hp} {x0:(Sl S_a)} {b0:Nat} {x1:Int} {r:(Sl S_a)} {ro:Nat} (hro:ro ≤ H0.length) (h0:SlH H0 S_a.c 72 x0 b0) (hm:b_dc n x0 x1 = some r) :
  Pt Mt ro 18 [(vAgg [slV x0 b0]),(.int .i64 x1)] H0 (vAgg [slV r b0]) H0 []:=by
 refine pt_new0 okM F18d (by exact Nat.le_of_ble_eq_true rfl) ?_ hro
 intro c hnt hnb hcr
 have hcn:c.ro ≤ c.nb:=by omega
 have l0:x0 ≠ none → b0 < c.nb:=fun h=>by rw [hnb]; exact h0.lt h
 have iv:Iv c.nb [] H0 H0:=by rw [hnb]; exact iv_refl
 rw [show args0 [(vAgg [slV x0 b0]),(.int .i64 x1)] = [(0,(vAgg [slV x0 b0])),(1,(.int .i64 x1))] from rfl]
 rw [b_dc] at hm
 simp only [C.f18]
 refine tk_os okM hok fun J hJ=>?_
 obtain ⟨b2,H3,a4,f5,q6,r7,x8,i9⟩:=bx_ok (M:=Mt) (t:=37) (u:=(vAgg [(slV x0 b0)])) (cs:=[(slV x0 b0)]) H0 iv.le T.sz37 vAgg_cells one_sl
 have i10:=i9 _ _ iv
 obtain ⟨b12,H13,a14,f15,q16,r17,x18,i19⟩:=al_ok H3 37 [.slice none 0 0] i10.le
 have i20:=i19 _ _ i10
 have f21:=x18 _ _ f5
 simp only [C.f18r0,R,Nat.reduceEqDiff,a4,(show zc Mt.P 37 = _ from T.zc37),a14]
 refine hJ _ ?_
 refine tk_os okM hok fun J hJ=>?_
 have a23:=ld_one (M:=Mt) (t:=35) (off:=0 + 0) f21 T.ag35 Seg.refl
 have a24:=ld_one (M:=Mt) (t:=35) (off:=0 + 0) f21 T.ag35 Seg.refl
 obtain ⟨l25,el25,hm⟩:=bind_s hm
 have f26:=h0.upto el25
 have l27:=fun h=>l0 (Sl.upto_none el25 h)
 obtain ⟨H29,a30,f31,u32⟩:=st_ok (M:=Mt) (t:=37) (off:=0) (ro:=c.ro) (v:=(vAgg [(slV l25 b0)])) (c:=[(slV l25 b0)]) (cs':=[(slV l25 b0)]) f15 T.sz37 vAgg_cells one_sl (Nat.le_trans hcn r17) (Nat.le_refl _) rfl
 have i33:=i20.up u32 r17
 have f34:=(u32.get _ (ne_len f5 q16)).trans f21
 simp only [C.f18r1,R,Nat.reduceEqDiff,fa37_0,a23,a24,ln35,sl_upto (M:=Mt) Tryz.underlying35 T.sz72 (by decide) S_a.enc.len (h0.iv l0 (fun _=>by simp) i20) el25,bd_wr (M:=Mt) (x:=l25) (b:=b0) (show zc Mt.P 37 = _ from T.zc37) pl37,a30]
 refine hJ _ ?_
 refine tk_ret okM ?_
 obtain rfl:=Option.some.inj hm
 refine end_old (.inl rfl) (vs:=[(vAgg [(slV l25 b0)])]) (resC' (v:=(vAgg [(slV l25 b0)])) rfl (ldv_of (ld_agg (M:=Mt) (t:=37) (c:=[(slV l25 b0)]) f31 T.ag37 T.sz37 Seg.refl)) resN) ?_
 intro v hv i hi
 simp only [List.mem_singleton] at hv; subst hv
 rw [← hnb]; exact slV_lt l27 i (by simpa [vAgg] using hi)
def b_bI (c_bR:T_dP) (n:Nat) (x0:(Sl S_a)):Nat → Sl S_b → Int → Option ((Sl S_b))
 | 0,_,_=>none
 | k + 1,l28,x4_30=>bif decide (x4_30 < (Sl.len x0)) then ((ck (Sl.l x0).length x4_30).bind fun j54=>(c_bR (Sl.nth x0 j54)).bind fun v59=>(Sl.app 96 l28 (some ([v59]:List S_b))).bind fun v72=>b_bI c_bR n x0 k v72 (IntKind.i64.wrap (x4_30 + 1))) else (some l28)
def b_dS (c_bR:T_dP) (n:Nat) (x0:(Sl S_a)):Option ((Sl S_b)):=b_bI c_bR n x0 n (some ([]:List S_b)) 0
theorem w_id {call:CallF} (hok:CallOk Mt call) {n:Nat} {c_bR:T_dP} (z_hZ:A_f9 call c_bR) {H0:Hp} {x0:(Sl S_a)} {b0:Nat} {r:(Sl S_b)} {ro:Nat} (hro:ro ≤ H0.length) (h0:SlH H0 S_a.c 72 x0 b0) (hm:b_dS c_bR n x0 = some r) :
  Pt Mt ro 19 [(vAgg [slV x0 b0])] H0 (slV r H0.length) (H0 ++ slB S_b.c 97 r) []:=by
 refine pt_new okM F19d (by exact Nat.le_of_ble_eq_true rfl) ?_ hro
 intro c hnt hnb hcr
 have hcn:c.ro ≤ c.nb:=by omega
 have l0:x0 ≠ none → b0 < c.nb:=fun h=>by rw [hnb]; exact h0.lt h
 have iv:Iv c.nb [] H0 H0:=by rw [hnb]; exact iv_refl
 rw [show args0 [(vAgg [slV x0 b0])] = [(0,(vAgg [slV x0 b0]))] from rfl]
 rw [b_dS] at hm
 simp only [C.f19,C.f19b0]
 refine tk_os okM hok fun J hJ=>?_
 obtain ⟨b2,H3,a4,f5,q6,r7,x8,i9⟩:=bx_ok (M:=Mt) (t:=37) (u:=(vAgg [(slV x0 b0)])) (cs:=[(slV x0 b0)]) H0 iv.le T.sz37 vAgg_cells one_sl
 have i10:=i9 _ _ iv
 simp only [C.f19r0,R,Nat.reduceEqDiff,a4]
 refine hJ _ ?_
 refine tk_os okM hok fun J hJ=>?_
 obtain ⟨b12,H13,a14,f15,q16,r17,x18,i19⟩:=bs_ok (M:=Mt) (t:=39) (e:=97) (c:=S_b.c) (l:=([]:List S_b)) (ps:=[]) (n:=0) H3 i10.le Tryz.underlying39 (zs97) rfl (by simp only [S_b.enc.len,List.length_cons,List.length_nil]; decide) (fun _=>by rw [S_b.enc.len,S_b.enc.len]) S_b.enc.one rfl rfl
 have i20:=i19 _ _ i10
 have f21:=x18 _ _ f5
 simp only [C.f19r1,R,Nat.reduceEqDiff,a14]
 refine hJ _ ?_
 refine tk_seq_k fun K n23 x24=>?_
 refine tk_os okM hok fun J hJ=>?_
 simp only [C.f19r2,R,Nat.reduceEqDiff]
 refine hJ _ ?_
 refine tk_block_k fun K n25 e26 x27=>?_
 refine tk_loop_k (n:=n) (fun k1 ⟨σ,H,_⟩=>∃ l28 x4_30 b29,b_bI c_bR n x0 k1 l28 x4_30 = some r ∧ Lk σ 1 (.pointer (some ⟨b2,0,none⟩)) ∧ Lk σ 3 (slV l28 b29) ∧ Lk σ 4 (.int .i64 x4_30) ∧ H[b2]? = some (.cells [(slV x0 b0)] 37) ∧ SlO c.nb H S_b.c 97 l28 b29 ∧ (l28 ≠ none → b29 ≠ b2) ∧ Iv c.nb [] H0 H) ?_ ?_ ?_
 ·exact ⟨some ([]:List S_b),0,b12,hm,rfl,rfl,rfl,f21,f15,(fun _=>(ne_len f5 q16).symm),i20⟩
 ·rintro ⟨σ,H,d⟩ ⟨_,_,_,hm,_⟩
  cases hm
 ·intro k1 K n31 x32
  rintro ⟨σ42,H33,d43⟩ ⟨l28,x4_30,b29,hm,h35,h36,h37,f38,f39,n40,i41⟩
  rw [b_bI.eq_2] at hm
  refine tk_seq_k fun K n44 x45=>?_
  refine tk_os okM hok fun J hJ=>?_
  have a46:=ld_one (M:=Mt) (t:=35) (off:=0 + 0) f38 T.ag35 Seg.refl
  simp only [C.f19r3,R,Nat.reduceEqDiff,h37,fa37_0,h35,a46,ln35]
  refine hJ _ ?_
  refine tk_cond (t:=decide (x4_30 < (Sl.len x0))) rfl (fun g47=>?_) (fun g47=>?_)
  ·replace hm:=cond_t hm g47
   refine tk_skip okM ?_
   refine n44 _ ?_
   refine tk_seq_k fun K n48 x49=>?_
   refine tk_block_k fun K n50 e51 x52=>?_
   refine tk_oe okM hok fun J hJ=>?_
   have a53:=ld_one (M:=Mt) (t:=35) (off:=0 + 0) f38 T.ag35 Seg.refl
   obtain ⟨j54,ej54,hm⟩:=bind_s hm
   obtain ⟨mm55,k56⟩:=(h0.iv l0 (fun _=>by simp) i41).blk (ck_lt ej54).1
   have a57:=lds_agg (M:=Mt) (t:=72) k56 T.ag72 (by rw [S_a.enc.len]; exact T.sz72) (seg_sl S_a.enc.len mm55 (ck_lt ej54).1)
   obtain ⟨v59,ev59,hm⟩:=bind_s hm
   have a58:=z_hZ c.ro H33 (Sl.nth x0 j54) v59 ev59
   obtain ⟨b60,H61,a62,f63,q64,r65,x66,i67⟩:=bs_ok (M:=Mt) (t:=39) (e:=97) (c:=S_b.c) (l:=([v59]:List S_b)) (ps:=[(0,(vAgg (S_b.c (v59))))]) (n:=1) H33 i41.le Tryz.underlying39 (zs97) rfl (by simp only [S_b.enc.len,List.length_cons,List.length_nil]; decide) (fun _=>by rw [S_b.enc.len,S_b.enc.len]) S_b.enc.one rfl rfl
   have i68:=i67 _ _ i41
   have f69:=x66 _ _ f38
   have f70:=f39.ex x66
   obtain ⟨v72,ev72,hm⟩:=bind_s hm
   obtain ⟨b73,H74,a75,f76,mv77,i78,nw79⟩:=app_ok (M:=Mt) (t:=39) (u:=39) (nb:=c.nb) (x:=l28) (y:=some ([v59]:List S_b)) (b:=b29) (b2:=b60) Tryz.underlying39 Tryz.underlying39 T.sz97 T.by97 zs97 (by decide) (by decide) S_b.enc.len S_b.enc.one i68.le hcn f70 f63.h ev72
   have i80:=i78 _ _ i68
   have n81:=nw79 b2 (get_lt f69) n40
   have f82:=mv77.2 _ _ (fun h=>(n40 h).symm) f69
   simp only [C.f19r5,R,Nat.reduceEqDiff,h36,fa37_0,h35,a53,h37,ia35,ej54,a57,c_fn F50,a58,a62,a75]
   refine hJ _ ?_
   refine n50 _ ?_
   refine n48 _ ?_
   refine tk_oe okM hok fun J hJ=>?_
   simp only [C.f19r4,R,Nat.reduceEqDiff,h37]
   refine hJ _ ?_
   refine n31 _ ?_
   exact ⟨v72,IntKind.i64.wrap (x4_30 + 1),b73,hm,h35,rfl,rfl,f82,f76,n81,i80⟩
  ·replace hm:=cond_f hm g47
   refine tk_exit okM ?_
   refine x45 _ _ (by simp) ?_
   refine x32 _ _ (by simp) ?_
   refine e26 _ ?_
   refine n23 _ ?_
   refine tk_os okM hok fun J hJ=>?_
   simp only [C.f19r6,R,Nat.reduceEqDiff,h36]
   refine hJ _ ?_
   refine tk_ret okM ?_
   obtain rfl:=Option.some.inj hm
   exact end_sl1 (P:=Mt.P) (rs:=[(.tmp 2)]) (pre:=[]) (post:=[]) (x:=l28) (b:=b29) (nb:=H0.length) (.inl rfl) (by rw [← hnb]; exact f39) S_b.enc fm_nil fm_nil (resT' (v:=(slV l28 b29)) rfl resN)
def b_ck (c_dX:T_eY) (c_l:T_bS) (c_dV:T_e8) (n:Nat) (x0:(Sl S_a)) (x1:Int):Option (Int × Int):=(c_dX x0).bind fun v16=>bif !decide (v16 = 0) then (some (0,v16)) else (bif (decide (x1 < 0)) || (decide (10000 < x1)) then (some (0,1)) else ((c_dV x0 x1).bind fun v34=>(ck (Sl.l v34).length (IntKind.i64.wrap ((Sl.len x0) - 1))).bind fun j46=>(c_l (Sl.nth v34 j46)).bind fun v51=>some (IntKind.i64.wrap (v51 + 1),0)))
theorem w_hH {call:CallF} (hok:CallOk Mt call) {n:Nat} {c_dX:T_eY} (z_hM:A_gg call c_dX) {c_l:T_bS} (z_bW:A_e3 call c_l) {c_dV:T_e8} (z_h1:A_gd call c_dV) {H0:Hp} {x0:(Sl S_a)} {b0:Nat} {x1:Int} {r:Int × Int} {ro:Nat} (hro:ro ≤ H0.length) (h0:SlH H0 S_a.c 72 x0 b0) (hm:b_ck c_dX c_l c_dV n x0 x1 = some r) :
  Pt Mt ro 20 [(vAgg [slV x0 b0]),(.int .i64 x1)] H0 (.tuple [(.int .i64 (r.1)),(.int .i64 (r.2))].toArray) H0 []:=by
 refine pt_new0 okM F20d (by exact Nat.le_of_ble_eq_true rfl) ?_ hro
 intro c hnt hnb hcr
 have hcn:c.ro ≤ c.nb:=by omega
 have l0:x0 ≠ none → b0 < c.nb:=fun h=>by rw [hnb]; exact h0.lt h
 have iv:Iv c.nb [] H0 H0:=by rw [hnb]; exact iv_refl
 rw [show args0 [(vAgg [slV x0 b0]),(.int .i64 x1)] = [(0,(vAgg [slV x0 b0])),(1,(.int .i64 x1))] from rfl]
 rw [b_ck] at hm
 simp only [C.f20]
 refine tk_os okM hok fun J hJ=>?_
 obtain ⟨b2,H3,a4,f5,q6,r7,x8,i9⟩:=bx_ok (M:=Mt) (t:=37) (u:=(vAgg [(slV x0 b0)])) (cs:=[(slV x0 b0)]) H0 iv.le T.sz37 vAgg_cells one_sl
 have i10:=i9 _ _ iv
 simp only [C.f20r0,R,Nat.reduceEqDiff,a4]
 refine hJ _ ?_
 refine tk_seq_k fun K n12 x13=>?_
 refine tk_os okM hok fun J hJ=>?_
 have a14:=ld_agg (M:=Mt) (t:=37) (off:=0) (c:=[(slV x0 b0)]) f5 T.ag37 T.sz37 Seg.refl
 obtain ⟨v16,ev16,hm⟩:=bind_s hm
 have a15:=z_hM c.ro H3 x0 b0 v16 (h0.iv l0 (fun _=>by simp) i10) ev16
 simp only [C.f20r1,R,Nat.reduceEqDiff,a14,c_fn F40,a15]
 refine hJ _ ?_
 refine tk_os okM hok fun J hJ=>?_
 simp only [C.f20r2,R,Nat.reduceEqDiff]
 refine hJ _ ?_
 refine tk_cond (t:=!decide (v16 = 0)) rfl (fun g17=>?_) (fun g17=>?_)
 ·replace hm:=cond_t hm g17
  refine tk_os okM hok fun J hJ=>?_
  simp only [C.f20r3,R,Nat.reduceEqDiff]
  refine hJ _ ?_
  refine tk_ret okM ?_
  refine x13 _ _ (by simp) ?_
  obtain rfl:=Option.some.inj hm
  exact end_flat (.inl rfl) (vs:=[(.int .i64 (0)),(.int .i64 (v16))]) (resT' (v:=(.int .i64 (0))) rfl (resT' (v:=(.int .i64 (v16))) rfl resN)) (fm_cons rfl (fm_cons rfl fm_nil))
 ·replace hm:=cond_f hm g17
  refine tk_skip okM ?_
  refine n12 _ ?_
  refine tk_seq_k fun K n18 x19=>?_
  refine tk_os okM hok fun J hJ=>?_
  refine rn_k (fun ⟨σ,H,_⟩=>Lk σ 1 (.int .i64 (x1)) ∧ Lk σ 2 (.pointer (some ⟨b2,0,none⟩)) ∧ Lk σ 17 (.bool ((decide (x1 < 0)) || (decide (10000 < x1)))) ∧ H[b2]? = some (.cells [(slV x0 b0)] 37) ∧ Iv c.nb [] H0 H) (fun J hJ=>?_) ?_
  ·skip
   cases g26:decide (x1 < 0)
   ·skip
    simp only [C.f20r4,R,Nat.reduceEqDiff,g26]
    refine hJ _ ?_
    exact ⟨(by first | rfl | (simp only [g26]; rfl) | simp only [g26,Lk,RB,Nat.reduceEqDiff,not_false_eq_true]),rfl,(by first | rfl | (simp only [g26]; rfl) | simp only [g26,Lk,RB,Nat.reduceEqDiff,not_false_eq_true]),f5,i10⟩
   ·skip
    simp only [C.f20r4,R,Nat.reduceEqDiff,g26]
    refine hJ _ ?_
    exact ⟨(by first | rfl | (simp only [g26]; rfl) | simp only [g26,Lk,RB,Nat.reduceEqDiff,not_false_eq_true]),rfl,(by first | rfl | (simp only [g26]; rfl) | simp only [g26,Lk,RB,Nat.reduceEqDiff,not_false_eq_true]),f5,i10⟩
  rintro ⟨σ27,H20,d28⟩ ⟨h21,h22,h23,f24,i25⟩
  refine hJ _ ?_
  refine tk_cond (t:=(decide (x1 < 0)) || (decide (10000 < x1))) h23 (fun g29=>?_) (fun g29=>?_)
  ·replace hm:=cond_t hm g29
   refine tk_os okM hok fun J hJ=>?_
   simp only [C.f20r5,R,Nat.reduceEqDiff]
   refine hJ _ ?_
   refine tk_ret okM ?_
   refine x19 _ _ (by simp) ?_
   obtain rfl:=Option.some.inj hm
   exact end_flat (.inl rfl) (vs:=[(.int .i64 (0)),(.int .i64 (1))]) (resT' (v:=(.int .i64 (0))) rfl (resT' (v:=(.int .i64 (1))) rfl resN)) (fm_cons rfl (fm_cons rfl fm_nil))
  ·replace hm:=cond_f hm g29
   refine tk_skip okM ?_
   refine n18 _ ?_
   refine tk_os okM hok fun J hJ=>?_
   have a30:=ld_agg (M:=Mt) (t:=37) (off:=0) (c:=[(slV x0 b0)]) f24 T.ag37 T.sz37 Seg.refl
   obtain ⟨R32,q33⟩:∃ b,b = H20.length:=⟨_,rfl⟩
   obtain ⟨v34,ev34,hm⟩:=bind_s hm
   have a31:=z_h1 R32 H20 x0 b0 x1 v34 (h0.iv l0 (fun _=>by simp) i25) ev34
   obtain ⟨H35,q36⟩:∃ x,x = H20 ++ slB (cInt .i64) 3 v34:=⟨_,rfl⟩
   obtain ⟨b37,q38⟩:∃ b,b = H20.length:=⟨_,rfl⟩
   rw [← q36,← q38] at a31
   have x42:Ex H20 H35:=by rw [q36]; exact ex_app
   have i40:Iv c.nb [] H0 H35:=by rw [q36]; exact i25.app
   have f39:SlO c.nb H35 (cInt .i64) 3 v34 b37:=by rw [q36,q38]; exact slB_own i25.le
   have r41:c.nb ≤ b37:=by rw [q38]; exact i25.le
   rw [q33] at a31
   have f43:=x42 _ _ f24
   have a45:=ld_one (M:=Mt) (t:=35) (off:=0 + 0) f43 T.ag35 Seg.refl
   obtain ⟨j46,ej46,hm⟩:=bind_s hm
   obtain ⟨mm47,k48⟩:=f39.h.blk (ck_lt ej46).1
   have a49:=lds_one (M:=Mt) (t:=3) k48 T.ag3 (seg_sl enc_int.len mm47 (ck_lt ej46).1)
   obtain ⟨v51,ev51,hm⟩:=bind_s hm
   have a50:=z_bW H35.length H35 (Sl.nth v34 j46) v51 ev51
   simp only [C.f20r6,R,Nat.reduceEqDiff,s_pt,s_gt,isW,Bool.false_eq_true,if_false,if_true,reduceIte,a30,h22,h21,c_fn F52,a31,fa37_0,a45,ln35,ia100,ej46,a49,c_fn F51,a50]
   refine hJ _ ?_
   refine tk_ret okM ?_
   obtain rfl:=Option.some.inj hm
   exact end_flat (.inl rfl) (vs:=[(.int .i64 (IntKind.i64.wrap (v51 + 1))),(.int .i64 (0))]) (resT' (v:=(.int .i64 (IntKind.i64.wrap (v51 + 1)))) rfl (resT' (v:=(.int .i64 (0))) rfl resN)) (fm_cons rfl (fm_cons rfl fm_nil))
def b_cl (c_dk:T_d1) (c_J:T_ch) (n:Nat) (x0:(Sl S_b)) (x1:Int):Option (Int × Int):=(c_dk x0).bind fun v3=>bif !decide (v3 = 0) then (some (0,v3)) else (bif (decide (x1 < 0)) || (decide (10000 < x1)) then (some (0,1)) else ((c_J x0 (IntKind.i64.wrap ((Sl.len x0) - 1)) x1).bind fun v19=>some (IntKind.i64.wrap (v19 + 1),0)))
theorem w_hV {call:CallF} (hok:CallOk Mt call) {n:Nat} {c_dk:T_d1} (z_g4:A_fA call c_dk) {c_J:T_ch} (z_cC:A_ep call c_J) {H0:Hp} {x0:(Sl S_b)} {b0:Nat} {x1:Int} {r:Int × Int} {ro:Nat} (hro:ro ≤ H0.length) (h0:SlH H0 S_b.c 97 x0 b0) (hm:b_cl c_dk c_J n x0 x1 = some r) :
  Pt Mt ro 21 [(slV x0 b0),(.int .i64 x1)] H0 (.tuple [(.int .i64 (r.1)),(.int .i64 (r.2))].toArray) H0 []:=by
 refine pt_new0 okM F21d (by exact Nat.le_of_ble_eq_true rfl) ?_ hro
 intro c hnt hnb hcr
 have hcn:c.ro ≤ c.nb:=by omega
 have l0:x0 ≠ none → b0 < c.nb:=fun h=>by rw [hnb]; exact h0.lt h
 have iv:Iv c.nb [] H0 H0:=by rw [hnb]; exact iv_refl
 rw [show args0 [(slV x0 b0),(.int .i64 x1)] = [(0,(slV x0 b0)),(1,(.int .i64 x1))] from rfl]
 rw [b_cl] at hm
 simp only [C.f21]
 refine tk_os okM hok fun J hJ=>?_
 simp only [C.f21r0,R,Nat.reduceEqDiff]
 refine hJ _ ?_
 refine tk_os okM hok fun J hJ=>?_
 obtain ⟨v3,ev3,hm⟩:=bind_s hm
 have a2:=z_g4 c.ro H0 x0 b0 v3 (h0.iv l0 (fun _=>by simp) iv) ev3
 simp only [C.f21r1,R,Nat.reduceEqDiff,c_fn F53,a2]
 refine hJ _ ?_
 refine tk_seq_k fun K n4 x5=>?_
 refine tk_os okM hok fun J hJ=>?_
 simp only [C.f21r2,R,Nat.reduceEqDiff]
 refine hJ _ ?_
 refine tk_cond (t:=!decide (v3 = 0)) rfl (fun g6=>?_) (fun g6=>?_)
 ·replace hm:=cond_t hm g6
  refine tk_os okM hok fun J hJ=>?_
  simp only [C.f21r3,R,Nat.reduceEqDiff]
  refine hJ _ ?_
  refine tk_ret okM ?_
  refine x5 _ _ (by simp) ?_
  obtain rfl:=Option.some.inj hm
  exact end_flat (.inl rfl) (vs:=[(.int .i64 (0)),(.int .i64 (v3))]) (resT' (v:=(.int .i64 (0))) rfl (resT' (v:=(.int .i64 (v3))) rfl resN)) (fm_cons rfl (fm_cons rfl fm_nil))
 ·replace hm:=cond_f hm g6
  refine tk_skip okM ?_
  refine n4 _ ?_
  refine tk_seq_k fun K n7 x8=>?_
  refine tk_os okM hok fun J hJ=>?_
  refine rn_k (fun ⟨σ,H,_⟩=>Lk σ 0 (slV x0 b0) ∧ Lk σ 1 (.int .i64 (x1)) ∧ Lk σ 17 (.bool ((decide (x1 < 0)) || (decide (10000 < x1)))) ∧ Iv c.nb [] H0 H) (fun J hJ=>?_) ?_
  ·skip
   cases g14:decide (x1 < 0)
   ·skip
    simp only [C.f21r4,R,Nat.reduceEqDiff,g14]
    refine hJ _ ?_
    exact ⟨rfl,(by first | rfl | (simp only [g14]; rfl) | simp only [g14,Lk,RB,Nat.reduceEqDiff,not_false_eq_true]),(by first | rfl | (simp only [g14]; rfl) | simp only [g14,Lk,RB,Nat.reduceEqDiff,not_false_eq_true]),iv⟩
   ·skip
    simp only [C.f21r4,R,Nat.reduceEqDiff,g14]
    refine hJ _ ?_
    exact ⟨rfl,(by first | rfl | (simp only [g14]; rfl) | simp only [g14,Lk,RB,Nat.reduceEqDiff,not_false_eq_true]),(by first | rfl | (simp only [g14]; rfl) | simp only [g14,Lk,RB,Nat.reduceEqDiff,not_false_eq_true]),iv⟩
  rintro ⟨σ15,H9,d16⟩ ⟨h10,h11,h12,i13⟩
  refine hJ _ ?_
  refine tk_cond (t:=(decide (x1 < 0)) || (decide (10000 < x1))) h12 (fun g17=>?_) (fun g17=>?_)
  ·replace hm:=cond_t hm g17
   refine tk_os okM hok fun J hJ=>?_
   simp only [C.f21r5,R,Nat.reduceEqDiff]
   refine hJ _ ?_
   refine tk_ret okM ?_
   refine x8 _ _ (by simp) ?_
   obtain rfl:=Option.some.inj hm
   exact end_flat (.inl rfl) (vs:=[(.int .i64 (0)),(.int .i64 (1))]) (resT' (v:=(.int .i64 (0))) rfl (resT' (v:=(.int .i64 (1))) rfl resN)) (fm_cons rfl (fm_cons rfl fm_nil))
  ·replace hm:=cond_f hm g17
   refine tk_skip okM ?_
   refine n7 _ ?_
   refine tk_os okM hok fun J hJ=>?_
   obtain ⟨v19,ev19,hm⟩:=bind_s hm
   have a18:=z_cC c.ro H9 x0 b0 (IntKind.i64.wrap ((Sl.len x0) - 1)) x1 v19 (h0.iv l0 (fun _=>by simp) i13) ev19
   simp only [C.f21r6,R,Nat.reduceEqDiff,h10,ln39,h11,c_fn F54,a18]
   refine hJ _ ?_
   refine tk_ret okM ?_
   obtain rfl:=Option.some.inj hm
   exact end_flat (.inl rfl) (vs:=[(.int .i64 (IntKind.i64.wrap (v19 + 1))),(.int .i64 (0))]) (resT' (v:=(.int .i64 (IntKind.i64.wrap (v19 + 1)))) rfl (resT' (v:=(.int .i64 (0))) rfl resN)) (fm_cons rfl (fm_cons rfl fm_nil))
def b_bq (c_S:T_cm) (c_bB:T_dF) (c_N:T_cy) (n:Nat) (x0:(Sl S_a)):Nat → Int → Nat → Int → Int → Option (Nat × Int)
 | 0,_,_,_,_=>none
 | k + 1,x6_24,x8_25,x22_26,x23_27=>bif decide (x23_27 < x22_26) then ((Ieee.double.add x8_25 x8_25).bind fun v46=>b_bq c_S c_bB c_N n x0 k x6_24 v46 x22_26 (IntKind.i64.wrap (x23_27 + 1))) else ((bif decide (2000 < x6_24) then ((c_bB x8_25 1).bind fun v50=>some (!v50)) else some false).bind fun y51=>bif y51 then ((c_N 1).bind fun v63=>some (v63,0)) else (some (x8_25,0)))
def b_cE (c_S:T_cm) (c_bB:T_dF) (c_N:T_cy) (n:Nat) (x0:(Sl S_a)) (x1:Int):Option (Nat × Int):=(c_S x0 x1).bind fun v14=>bif !decide (v14.2 = 0) then (some ((0:Nat),v14.2)) else ((Ieee.double.add (fnear x1) ((4607182418800017408:Nat))).bind fun v18=>b_bq c_S c_bB c_N n x0 n v14.1 v18 (min v14.1 2000) 0)
theorem w_hy {call:CallF} (hok:CallOk Mt call) {n:Nat} {c_S:T_cm} (z_d7:A_eI call c_S) {c_bB:T_dF} (z_hk:A_fU call c_bB) {c_N:T_cy} (z_eX:A_fp call c_N) {H0:Hp} {x0:(Sl S_a)} {b0:Nat} {x1:Int} {r:Nat × Int} {ro:Nat} (hro:ro ≤ H0.length) (h0:SlH H0 S_a.c 72 x0 b0) (hm:b_cE c_S c_bB c_N n x0 x1 = some r) :
  Pt Mt ro 22 [(vAgg [slV x0 b0]),(.int .i64 x1)] H0 (.tuple [(.float .f64 (r.1)),(.int .i64 (r.2))].toArray) H0 []:=by
 refine pt_new0 okM F22d (by exact Nat.le_of_ble_eq_true rfl) ?_ hro
 intro c hnt hnb hcr
 have hcn:c.ro ≤ c.nb:=by omega
 have l0:x0 ≠ none → b0 < c.nb:=fun h=>by rw [hnb]; exact h0.lt h
 have iv:Iv c.nb [] H0 H0:=by rw [hnb]; exact iv_refl
 rw [show args0 [(vAgg [slV x0 b0]),(.int .i64 x1)] = [(0,(vAgg [slV x0 b0])),(1,(.int .i64 x1))] from rfl]
 rw [b_cE] at hm
 simp only [C.f22,C.f22b0]
 refine tk_os okM hok fun J hJ=>?_
 obtain ⟨b2,H3,a4,f5,q6,r7,x8,i9⟩:=bx_ok (M:=Mt) (t:=37) (u:=(vAgg [(slV x0 b0)])) (cs:=[(slV x0 b0)]) H0 iv.le T.sz37 vAgg_cells one_sl
 have i10:=i9 _ _ iv
 simp only [C.f22r0,R,Nat.reduceEqDiff,a4]
 refine hJ _ ?_
 refine tk_os okM hok fun J hJ=>?_
 have a12:=ld_agg (M:=Mt) (t:=37) (off:=0) (c:=[(slV x0 b0)]) f5 T.ag37 T.sz37 Seg.refl
 obtain ⟨v14,ev14,hm⟩:=bind_s hm
 have a13:=z_d7 c.ro H3 x0 b0 x1 v14 (h0.iv l0 (fun _=>by simp) i10) ev14
 simp only [C.f22r1,R,Nat.reduceEqDiff,a12,c_fn F20,a13]
 refine hJ _ ?_
 refine tk_seq_k fun K n15 x16=>?_
 refine tk_os okM hok fun J hJ=>?_
 simp only [C.f22r2,R,Nat.reduceEqDiff]
 refine hJ _ ?_
 refine tk_cond (t:=!decide (v14.2 = 0)) rfl (fun g17=>?_) (fun g17=>?_)
 ·replace hm:=cond_t hm g17
  refine tk_os okM hok fun J hJ=>?_
  simp only [C.f22r3,R,Nat.reduceEqDiff]
  refine hJ _ ?_
  refine tk_ret okM ?_
  refine x16 _ _ (by simp) ?_
  obtain rfl:=Option.some.inj hm
  exact end_flat (.inl rfl) (vs:=[(.float .f64 ((0:Nat))),(.int .i64 (v14.2))]) (resT' (v:=(.float .f64 ((0:Nat)))) rfl (resT' (v:=(.int .i64 (v14.2))) rfl resN)) (fm_cons rfl (fm_cons rfl fm_nil))
 ·replace hm:=cond_f hm g17
  refine tk_skip okM ?_
  refine n15 _ ?_
  refine tk_os okM hok fun J hJ=>?_
  obtain ⟨v18,ev18,hm⟩:=bind_s hm
  simp only [C.f22r4,R,Nat.reduceEqDiff,cv_i2f (M:=Mt) Tryz.underlying3 Tryz.underlying44,bin_fadd,ev18]
  refine hJ _ ?_
  refine tk_seq_k fun K n19 x20=>?_
  refine tk_os okM hok fun J hJ=>?_
  simp only [C.f22r5,R,Nat.reduceEqDiff]
  refine hJ _ ?_
  refine tk_block_k fun K n21 e22 x23=>?_
  refine tk_loop_k (n:=n) (fun k1 ⟨σ,H,_⟩=>∃ x6_24 x8_25 x22_26 x23_27,b_bq c_S c_bB c_N n x0 k1 x6_24 x8_25 x22_26 x23_27 = some r ∧ Lk σ 6 (.int .i64 x6_24) ∧ Lk σ 8 (.float .f64 x8_25) ∧ Lk σ 22 (.int .i64 x22_26) ∧ Lk σ 23 (.int .i64 x23_27) ∧ Iv c.nb [] H0 H) ?_ ?_ ?_
  ·exact ⟨v14.1,v18,min v14.1 2000,0,hm,rfl,rfl,rfl,rfl,i10⟩
  ·rintro ⟨σ,H,d⟩ ⟨_,_,_,_,hm,_⟩
   cases hm
  ·intro k1 K n28 x29
   rintro ⟨σ36,H30,d37⟩ ⟨x6_24,x8_25,x22_26,x23_27,hm,h31,h32,h33,h34,i35⟩
   rw [b_bq.eq_2] at hm
   refine tk_os okM hok fun J hJ=>?_
   simp only [C.f22r6,R,Nat.reduceEqDiff,h34,h33]
   refine hJ _ ?_
   refine tk_seq_k fun K n38 x39=>?_
   refine tk_cond (t:=decide (x23_27 < x22_26)) rfl (fun g40=>?_) (fun g40=>?_)
   ·replace hm:=cond_t hm g40
    refine tk_skip okM ?_
    refine n38 _ ?_
    refine tk_seq_k fun K n41 x42=>?_
    refine tk_block_k fun K n43 e44 x45=>?_
    refine tk_oe okM hok fun J hJ=>?_
    obtain ⟨v46,ev46,hm⟩:=bind_s hm
    simp only [C.f22r7,R,Nat.reduceEqDiff,h32,bin_fadd,ev46]
    refine hJ _ ?_
    refine n43 _ ?_
    refine n41 _ ?_
    refine tk_oe okM hok fun J hJ=>?_
    simp only [C.f22r8,R,Nat.reduceEqDiff,h34]
    refine hJ _ ?_
    refine n28 _ ?_
    exact ⟨x6_24,v46,x22_26,IntKind.i64.wrap (x23_27 + 1),hm,h31,rfl,h33,rfl,i35⟩
   ·replace hm:=cond_f hm g40
    refine tk_exit okM ?_
    refine x39 _ _ (by simp) ?_
    refine x29 _ _ (by simp) ?_
    refine e22 _ ?_
    refine n19 _ ?_
    refine tk_seq_k fun K n47 x48=>?_
    refine tk_os okM hok fun J hJ=>?_
    obtain ⟨y51,ey51,hm⟩:=bind_s hm
    refine rn_k (fun ⟨σ,H,_⟩=>Lk σ 8 (.float .f64 (x8_25)) ∧ Lk σ 35 (.bool (y51)) ∧ Iv c.nb [] H0 H) (fun J hJ=>?_) ?_
    ·skip
     cases g56:decide (2000 < x6_24)
     ·skip
      have ey51:=cond_f ey51 g56
      obtain rfl:=Option.some.inj ey51
      simp only [C.f22r9,R,Nat.reduceEqDiff,h31,g56]
      refine hJ _ ?_
      exact ⟨h32,(by first | rfl | (simp only [g56]; rfl) | simp only [g56,Lk,RB,Nat.reduceEqDiff,not_false_eq_true]),i35⟩
     ·skip
      have ey51:=cond_t ey51 g56
      obtain ⟨v58,ev58,ey51⟩:=bind_s ey51
      have a57:=z_hk c.ro H30 x8_25 1 v58 ev58
      obtain rfl:=Option.some.inj ey51
      simp only [C.f22r9,R,Nat.reduceEqDiff,h31,g56,h32,c_fn F55,a57]
      refine hJ _ ?_
      exact ⟨h32,(by first | rfl | (simp only [g56]; rfl) | simp only [g56,Lk,RB,Nat.reduceEqDiff,not_false_eq_true]),i35⟩
    rintro ⟨σ59,H52,d60⟩ ⟨h53,h54,i55⟩
    refine hJ _ ?_
    refine tk_cond (t:=y51) h54 (fun g61=>?_) (fun g61=>?_)
    ·replace hm:=cond_t hm g61
     refine tk_os okM hok fun J hJ=>?_
     obtain ⟨v63,ev63,hm⟩:=bind_s hm
     have a62:=z_eX c.ro H52 1 v63 ev63
     simp only [C.f22r10,R,Nat.reduceEqDiff,c_fn F56,a62]
     refine hJ _ ?_
     refine tk_ret okM ?_
     refine x48 _ _ (by simp) ?_
     obtain rfl:=Option.some.inj hm
     exact end_flat (.inl rfl) (vs:=[(.float .f64 (v63)),(.int .i64 (0))]) (resT' (v:=(.float .f64 (v63))) rfl (resT' (v:=(.int .i64 (0))) rfl resN)) (fm_cons rfl (fm_cons rfl fm_nil))
    ·replace hm:=cond_f hm g61
     refine tk_skip okM ?_
     refine n47 _ ?_
     refine tk_os okM hok fun J hJ=>?_
     simp only [C.f22r11,R,Nat.reduceEqDiff,h53]
     refine hJ _ ?_
     refine tk_ret okM ?_
     obtain rfl:=Option.some.inj hm
     exact end_flat (.inl rfl) (vs:=[(.float .f64 (x8_25)),(.int .i64 (0))]) (resT' (v:=(.float .f64 (x8_25))) rfl (resT' (v:=(.int .i64 (0))) rfl resN)) (fm_cons rfl (fm_cons rfl fm_nil))
def b_bp (c_R:T_ci) (c_N:T_cy) (n:Nat) (x0:(Sl S_b)):Nat → Int → Nat → Int → Option (Nat × Int)
 | 0,_,_,_=>none
 | k + 1,x6_17,x8_18,x9_19=>bif decide (x9_19 < x6_17) then ((Ieee.double.mul x8_18 ((4611686018427387904:Nat))).bind fun v37=>b_bp c_R c_N n x0 k x6_17 v37 (IntKind.i64.wrap (x9_19 + 1))) else (some (x8_18,0))
def b_cD (c_R:T_ci) (c_N:T_cy) (n:Nat) (x0:(Sl S_b)) (x1:Int):Option (Nat × Int):=(c_R x0 x1).bind fun v3=>bif !decide (v3.2 = 0) then (some ((0:Nat),v3.2)) else (bif decide (1100 < v3.1) then ((c_N 1).bind fun v11=>some (v11,0)) else (b_bp c_R c_N n x0 n v3.1 (fnear (IntKind.i64.wrap (x1 + 1))) 0))
theorem w_hA {call:CallF} (hok:CallOk Mt call) {n:Nat} {c_R:T_ci} (z_ec:A_ew call c_R) {c_N:T_cy} (z_eX:A_fp call c_N) {H0:Hp} {x0:(Sl S_b)} {b0:Nat} {x1:Int} {r:Nat × Int} {ro:Nat} (hro:ro ≤ H0.length) (h0:SlH H0 S_b.c 97 x0 b0) (hm:b_cD c_R c_N n x0 x1 = some r) :
  Pt Mt ro 23 [(slV x0 b0),(.int .i64 x1)] H0 (.tuple [(.float .f64 (r.1)),(.int .i64 (r.2))].toArray) H0 []:=by
 refine pt_new0 okM F23d (by exact Nat.le_of_ble_eq_true rfl) ?_ hro
 intro c hnt hnb hcr
 have hcn:c.ro ≤ c.nb:=by omega
 have l0:x0 ≠ none → b0 < c.nb:=fun h=>by rw [hnb]; exact h0.lt h
 have iv:Iv c.nb [] H0 H0:=by rw [hnb]; exact iv_refl
 rw [show args0 [(slV x0 b0),(.int .i64 x1)] = [(0,(slV x0 b0)),(1,(.int .i64 x1))] from rfl]
 rw [b_cD] at hm
 simp only [C.f23,C.f23b0]
 refine tk_os okM hok fun J hJ=>?_
 simp only [C.f23r0,R,Nat.reduceEqDiff]
 refine hJ _ ?_
 refine tk_os okM hok fun J hJ=>?_
 obtain ⟨v3,ev3,hm⟩:=bind_s hm
 have a2:=z_ec c.ro H0 x0 b0 x1 v3 (h0.iv l0 (fun _=>by simp) iv) ev3
 simp only [C.f23r1,R,Nat.reduceEqDiff,c_fn F21,a2]
 refine hJ _ ?_
 refine tk_seq_k fun K n4 x5=>?_
 refine tk_os okM hok fun J hJ=>?_
 simp only [C.f23r2,R,Nat.reduceEqDiff]
 refine hJ _ ?_
 refine tk_cond (t:=!decide (v3.2 = 0)) rfl (fun g6=>?_) (fun g6=>?_)
 ·replace hm:=cond_t hm g6
  refine tk_os okM hok fun J hJ=>?_
  simp only [C.f23r3,R,Nat.reduceEqDiff]
  refine hJ _ ?_
  refine tk_ret okM ?_
  refine x5 _ _ (by simp) ?_
  obtain rfl:=Option.some.inj hm
  exact end_flat (.inl rfl) (vs:=[(.float .f64 ((0:Nat))),(.int .i64 (v3.2))]) (resT' (v:=(.float .f64 ((0:Nat)))) rfl (resT' (v:=(.int .i64 (v3.2))) rfl resN)) (fm_cons rfl (fm_cons rfl fm_nil))
 ·replace hm:=cond_f hm g6
  refine tk_skip okM ?_
  refine n4 _ ?_
  refine tk_seq_k fun K n7 x8=>?_
  refine tk_os okM hok fun J hJ=>?_
  simp only [C.f23r4,R,Nat.reduceEqDiff]
  refine hJ _ ?_
  refine tk_cond (t:=decide (1100 < v3.1)) rfl (fun g9=>?_) (fun g9=>?_)
  ·replace hm:=cond_t hm g9
   refine tk_os okM hok fun J hJ=>?_
   obtain ⟨v11,ev11,hm⟩:=bind_s hm
   have a10:=z_eX c.ro H0 1 v11 ev11
   simp only [C.f23r5,R,Nat.reduceEqDiff,c_fn F56,a10]
   refine hJ _ ?_
   refine tk_ret okM ?_
   refine x8 _ _ (by simp) ?_
   obtain rfl:=Option.some.inj hm
   exact end_flat (.inl rfl) (vs:=[(.float .f64 (v11)),(.int .i64 (0))]) (resT' (v:=(.float .f64 (v11))) rfl (resT' (v:=(.int .i64 (0))) rfl resN)) (fm_cons rfl (fm_cons rfl fm_nil))
  ·replace hm:=cond_f hm g9
   refine tk_skip okM ?_
   refine n7 _ ?_
   refine tk_os okM hok fun J hJ=>?_
   simp only [C.f23r6,R,Nat.reduceEqDiff,cv_i2f (M:=Mt) Tryz.underlying3 Tryz.underlying44]
   refine hJ _ ?_
   refine tk_seq_k fun K n12 x13=>?_
   refine tk_os okM hok fun J hJ=>?_
   simp only [C.f23r7,R,Nat.reduceEqDiff]
   refine hJ _ ?_
   refine tk_block_k fun K n14 e15 x16=>?_
   refine tk_loop_k (n:=n) (fun k1 ⟨σ,H,_⟩=>∃ x6_17 x8_18 x9_19,b_bp c_R c_N n x0 k1 x6_17 x8_18 x9_19 = some r ∧ Lk σ 6 (.int .i64 x6_17) ∧ Lk σ 8 (.float .f64 x8_18) ∧ Lk σ 9 (.int .i64 x9_19) ∧ Iv c.nb [] H0 H) ?_ ?_ ?_
   ·exact ⟨v3.1,fnear (IntKind.i64.wrap (x1 + 1)),0,hm,rfl,rfl,rfl,iv⟩
   ·rintro ⟨σ,H,d⟩ ⟨_,_,_,hm,_⟩
    cases hm
   ·intro k1 K n20 x21
    rintro ⟨σ27,H22,d28⟩ ⟨x6_17,x8_18,x9_19,hm,h23,h24,h25,i26⟩
    rw [b_bp.eq_2] at hm
    refine tk_seq_k fun K n29 x30=>?_
    refine tk_os okM hok fun J hJ=>?_
    simp only [C.f23r8,R,Nat.reduceEqDiff,h25,h23]
    refine hJ _ ?_
    refine tk_cond (t:=decide (x9_19 < x6_17)) rfl (fun g31=>?_) (fun g31=>?_)
    ·replace hm:=cond_t hm g31
     refine tk_skip okM ?_
     refine n29 _ ?_
     refine tk_seq_k fun K n32 x33=>?_
     refine tk_block_k fun K n34 e35 x36=>?_
     refine tk_oe okM hok fun J hJ=>?_
     obtain ⟨v37,ev37,hm⟩:=bind_s hm
     simp only [C.f23r10,R,Nat.reduceEqDiff,h24,bin_fmul,ev37]
     refine hJ _ ?_
     refine n34 _ ?_
     refine n32 _ ?_
     refine tk_oe okM hok fun J hJ=>?_
     simp only [C.f23r9,R,Nat.reduceEqDiff,h25]
     refine hJ _ ?_
     refine n20 _ ?_
     exact ⟨x6_17,v37,IntKind.i64.wrap (x9_19 + 1),hm,h23,rfl,rfl,i26⟩
    ·replace hm:=cond_f hm g31
     refine tk_exit okM ?_
     refine x30 _ _ (by simp) ?_
     refine x21 _ _ (by simp) ?_
     refine e15 _ ?_
     refine n12 _ ?_
     refine tk_os okM hok fun J hJ=>?_
     simp only [C.f23r11,R,Nat.reduceEqDiff,h24]
     refine hJ _ ?_
     refine tk_ret okM ?_
     obtain rfl:=Option.some.inj hm
     exact end_flat (.inl rfl) (vs:=[(.float .f64 (x8_18)),(.int .i64 (0))]) (resT' (v:=(.float .f64 (x8_18))) rfl (resT' (v:=(.int .i64 (0))) rfl resN)) (fm_cons rfl (fm_cons rfl fm_nil))
def b_c6 (c_bd:T_cB) (n:Nat) (x0:(Sl S_a)) (x1:Int):Option (S_d × Int):=(c_bd x0 x1).bind fun v25=>some (({ S_d.zero with f_Steps:=v25.1,f_Room:=v25.1 }:S_d),v25.2)
theorem w_hf {call:CallF} (hok:CallOk Mt call) {n:Nat} {c_bd:T_cB} (z_dK:A_ea call c_bd) {H0:Hp} {x0:(Sl S_a)} {b0:Nat} {x1:Int} {r:S_d × Int} {ro:Nat} (hro:ro ≤ H0.length) (h0:SlH H0 S_a.c 72 x0 b0) (hm:b_c6 c_bd n x0 x1 = some r) :
  Pt Mt ro 24 [(vAgg [slV x0 b0]),(.int .i64 x1)] H0 (.tuple [(vAgg (S_d.c (r.1))),(.int .i64 (r.2))].toArray) H0 []:=by
 refine pt_new0 okM F24d (by exact Nat.le_of_ble_eq_true rfl) ?_ hro
 intro c hnt hnb hcr
 have hcn:c.ro ≤ c.nb:=by omega
 have l0:x0 ≠ none → b0 < c.nb:=fun h=>by rw [hnb]; exact h0.lt h
 have iv:Iv c.nb [] H0 H0:=by rw [hnb]; exact iv_refl
 rw [show args0 [(vAgg [slV x0 b0]),(.int .i64 x1)] = [(0,(vAgg [slV x0 b0])),(1,(.int .i64 x1))] from rfl]
 rw [b_c6] at hm
 simp only [C.f24]
 refine tk_os okM hok fun J hJ=>?_
 obtain ⟨b2,H3,a4,f5,q6,r7,x8,i9⟩:=bx_ok (M:=Mt) (t:=37) (u:=(vAgg [(slV x0 b0)])) (cs:=[(slV x0 b0)]) H0 iv.le T.sz37 vAgg_cells one_sl
 have i10:=i9 _ _ iv
 obtain ⟨b12,H13,a14,f15,q16,r17,x18,i19⟩:=al_ok H3 49 (S_d.c S_d.zero) i10.le
 have i20:=i19 _ _ i10
 have f21:=x18 _ _ f5
 simp only [C.f24r0,R,Nat.reduceEqDiff,a4,zs49,a14]
 refine hJ _ ?_
 refine tk_os okM hok fun J hJ=>?_
 have a23:=ld_agg (M:=Mt) (t:=37) (off:=0) (c:=[(slV x0 b0)]) f21 T.ag37 T.sz37 Seg.refl
 obtain ⟨v25,ev25,hm⟩:=bind_s hm
 have a24:=z_dK c.ro H13 x0 b0 x1 v25 (h0.iv l0 (fun _=>by simp) i20) ev25
 simp only [C.f24r1,R,Nat.reduceEqDiff,a23,c_fn F22,a24]
 refine hJ _ ?_
 refine tk_os okM hok fun J hJ=>?_
 obtain ⟨H26,a27,f28,u29⟩:=st_ok (M:=Mt) (t:=49) (v:=(vAgg (S_d.c (({ S_d.zero with f_Steps:=v25.1,f_Room:=v25.1 }:S_d))))) (c:=S_d.c (({ S_d.zero with f_Steps:=v25.1,f_Room:=v25.1 }:S_d))) (cs':=S_d.c (({ S_d.zero with f_Steps:=v25.1,f_Room:=v25.1 }:S_d))) f15 (by rw [S_d.enc.len]; exact T.sz49) vAgg_cells (S_d.enc.one _) (Nat.le_trans hcn r17) (le0 S_d.enc.len) (wrs_all (eqL S_d.enc.len))
 have i30:=i20.up u29 r17
 simp only [C.f24r2,R,Nat.reduceEqDiff,bd49_0_1,a27]
 refine hJ _ ?_
 refine tk_ret okM ?_
 obtain rfl:=Option.some.inj hm
 exact end_flat (.inl rfl) (vs:=[(vAgg (S_d.c (({ S_d.zero with f_Steps:=v25.1,f_Room:=v25.1 }:S_d)))),(.int .i64 (v25.2))]) (resC' (v:=(vAgg (S_d.c (({ S_d.zero with f_Steps:=v25.1,f_Room:=v25.1 }:S_d))))) rfl (ldv_of (ld_agg (M:=Mt) (t:=49) f28 T.ag49 (by rw [S_d.enc.len]; exact T.sz49) Seg.refl)) (resT' (v:=(.int .i64 (v25.2))) rfl resN)) (fm_cons (flat_agg S_d.enc _) (fm_cons rfl fm_nil))
def b_b7 (c_M:T_co) (c_1:T_c1) (c_G:T_b9) (n:Nat) (q1:Sl Int → Sl Int → Int → Int → Option (Int)) (x0:(Sl S_a)) (l76:Sl Int) (l78:Sl Int) (x23_80:Int) (x24_81:Int):Option (Int):=q1 l76 l78 x23_80 (IntKind.i64.wrap (x24_81 + 1))
def b_bc (c_M:T_co) (c_1:T_c1) (c_G:T_b9) (n:Nat) (x0:(Sl S_a)):Nat → Sl Int → Sl Int → Int → Int → Option (Int)
 | 0,_,_,_,_=>none
 | k + 1,l51,l53,x23_55,x24_56=>bif decide (x24_56 < x23_55) then ((ck (Sl.l x0).length x24_56).bind fun j101=>bif (!decide (((Sl.nth x0 j101).f_Kind) = 15)) && (!decide (((Sl.nth x0 j101).f_Kind) = 16)) then (b_b7 c_M c_1 c_G n (b_bc c_M c_1 c_G n x0 k) x0 l51 l53 x23_55 x24_56) else ((ck (Sl.l l51).length ((Sl.nth x0 j101).f_A)).bind fun j146=>(ck (Sl.l l53).length ((Sl.nth x0 j101).f_A)).bind fun j151=>bif (!decide ((Sl.nth l51 j146) = (Sl.nth l53 j151))) || (decide (255 < (Sl.nth l51 j146))) then (some 7) else (b_b7 c_M c_1 c_G n (b_bc c_M c_1 c_G n x0 k) x0 l51 l53 x23_55 x24_56))) else (some 0)
def b_dW (c_M:T_co) (c_1:T_c1) (c_G:T_b9) (n:Nat) (x0:(Sl S_a)):Option (Int):=(c_M x0).bind fun v16=>bif !decide (v16 = 0) then (some v16) else ((c_G x0).bind fun v22=>bif !v22 then (some 6) else ((c_1 x0).bind fun v26=>b_bc c_M c_1 c_G n x0 n v26.1 v26.2 (Sl.len x0) 0))
theorem w_h4 {call:CallF} (hok:CallOk Mt call) {n:Nat} {c_M:T_co} (z_hB:A_fV call c_M) {c_1:T_c1} (z_h5:A_gI call c_1) {c_G:T_b9} (z_g0:A_fE call c_G) {H0:Hp} {x0:(Sl S_a)} {b0:Nat} {r:Int} {ro:Nat} (hro:ro ≤ H0.length) (h0:SlH H0 S_a.c 72 x0 b0) (hm:b_dW c_M c_1 c_G n x0 = some r) :
  Pt Mt ro 40 [(vAgg [slV x0 b0])] H0 (.int .i64 (r)) H0 []:=by
 refine pt_new0 okM F40d (by exact Nat.le_of_ble_eq_true rfl) ?_ hro
 intro c hnt hnb hcr
 have hcn:c.ro ≤ c.nb:=by omega
 have l0:x0 ≠ none → b0 < c.nb:=fun h=>by rw [hnb]; exact h0.lt h
 have iv:Iv c.nb [] H0 H0:=by rw [hnb]; exact iv_refl
 rw [show args0 [(vAgg [slV x0 b0])] = [(0,(vAgg [slV x0 b0]))] from rfl]
 rw [b_dW] at hm
 simp only [C.f40,C.f40b0]
 refine tk_os okM hok fun J hJ=>?_
 obtain ⟨b2,H3,a4,f5,q6,r7,x8,i9⟩:=bx_ok (M:=Mt) (t:=37) (u:=(vAgg [(slV x0 b0)])) (cs:=[(slV x0 b0)]) H0 iv.le T.sz37 vAgg_cells one_sl
 have i10:=i9 _ _ iv
 simp only [C.f40r0,R,Nat.reduceEqDiff,a4]
 refine hJ _ ?_
 refine tk_seq_k fun K n12 x13=>?_
 refine tk_os okM hok fun J hJ=>?_
 have a14:=ld_agg (M:=Mt) (t:=37) (off:=0) (c:=[(slV x0 b0)]) f5 T.ag37 T.sz37 Seg.refl
 obtain ⟨v16,ev16,hm⟩:=bind_s hm
 have a15:=z_hB c.ro H3 x0 b0 v16 (h0.iv l0 (fun _=>by simp) i10) ev16
 simp only [C.f40r1,R,Nat.reduceEqDiff,a14,c_fn F64,a15]
 refine hJ _ ?_
 refine tk_os okM hok fun J hJ=>?_
 simp only [C.f40r2,R,Nat.reduceEqDiff]
 refine hJ _ ?_
 refine tk_cond (t:=!decide (v16 = 0)) rfl (fun g17=>?_) (fun g17=>?_)
 ·replace hm:=cond_t hm g17
  refine tk_os okM hok fun J hJ=>?_
  simp only [C.f40r3,R,Nat.reduceEqDiff]
  refine hJ _ ?_
  refine tk_ret okM ?_
  refine x13 _ _ (by simp) ?_
  obtain rfl:=Option.some.inj hm
  exact end_flat (.inl rfl) (vs:=[(.int .i64 (v16))]) (resT' (v:=(.int .i64 (v16))) rfl resN) (fm_cons rfl fm_nil)
 ·replace hm:=cond_f hm g17
  refine tk_skip okM ?_
  refine n12 _ ?_
  refine tk_seq_k fun K n18 x19=>?_
  refine tk_os okM hok fun J hJ=>?_
  have a20:=ld_agg (M:=Mt) (t:=37) (off:=0) (c:=[(slV x0 b0)]) f5 T.ag37 T.sz37 Seg.refl
  obtain ⟨v22,ev22,hm⟩:=bind_s hm
  have a21:=z_g0 c.ro H3 x0 b0 v22 (h0.iv l0 (fun _=>by simp) i10) ev22
  simp only [C.f40r4,R,Nat.reduceEqDiff,a20,c_fn F68,a21]
  refine hJ _ ?_
  refine tk_cond (t:=!v22) rfl (fun g23=>?_) (fun g23=>?_)
  ·replace hm:=cond_t hm g23
   refine tk_os okM hok fun J hJ=>?_
   simp only [C.f40r5,R,Nat.reduceEqDiff]
   refine hJ _ ?_
   refine tk_ret okM ?_
   refine x19 _ _ (by simp) ?_
   obtain rfl:=Option.some.inj hm
   exact end_flat (.inl rfl) (vs:=[(.int .i64 (6))]) (resT' (v:=(.int .i64 (6))) rfl resN) (fm_cons rfl fm_nil)
  ·replace hm:=cond_f hm g23
   refine tk_skip okM ?_
   refine n18 _ ?_
   refine tk_os okM hok fun J hJ=>?_
   have a24:=ld_agg (M:=Mt) (t:=37) (off:=0) (c:=[(slV x0 b0)]) f5 T.ag37 T.sz37 Seg.refl
   obtain ⟨v26,ev26,hm⟩:=bind_s hm
   have a25:=z_h5 c.ro H3 x0 b0 v26 (h0.iv l0 (fun _=>by simp) i10) ev26
   have f39:=slB_own2 (c:=(cInt .i64)) (d:=(cInt .i64)) (e:=3) (e2:=3) (x:=v26.1) (y:=v26.2) (r:=c.nb) (H:=H3) i10.le
   have n40:=slB_ne (c:=(cInt .i64)) (e:=3) (x:=v26.1) (y:=v26.2) (H:=H3)
   obtain ⟨H27,q28⟩:∃ x,x = H3 ++ (slB (cInt .i64) 3 v26.1 ++ slB (cInt .i64) 3 v26.2):=⟨_,rfl⟩
   have x38:Ex H3 H27:=by rw [q28]; exact ex_app
   have i35:Iv c.nb [] H0 H27:=by rw [q28]; exact i10.app
   obtain ⟨b31,q32⟩:∃ b,b = H3.length + (slB (cInt .i64) 3 v26.1).length:=⟨_,rfl⟩
   obtain ⟨b29,q30⟩:∃ b,b = H3.length:=⟨_,rfl⟩
   rw [← q28,← q32] at a25
   rw [← q30] at a25
   rw [← q28,← q32] at f39
   rw [← q30] at f39
   rw [← q32,← q30] at n40
   have r36:c.nb ≤ b29:=by rw [q30]; exact i10.le
   have r37:c.nb ≤ b31:=by rw [q32]; have:=i10.le; omega
   have f41:=x38 _ _ f5
   have n44:b2 ≠ b31:=by have:=get_lt f5; omega
   simp only [C.f40r6,R,Nat.reduceEqDiff,a24,c_fn F65,a25]
   refine hJ _ ?_
   refine tk_seq_k fun K n45 x46=>?_
   refine tk_os okM hok fun J hJ=>?_
   have a47:=ld_one (M:=Mt) (t:=35) (off:=0 + 0) f41 T.ag35 Seg.refl
   simp only [C.f40r7,R,Nat.reduceEqDiff,fa37_0,a47,ln35]
   refine hJ _ ?_
   refine tk_block_k fun K n48 e49 x50=>?_
   refine tk_loop_k (n:=n) (fun k1 ⟨σ,H,_⟩=>∃ l51 l53 x23_55 x24_56 b52 b54,b_bc c_M c_1 c_G n x0 k1 l51 l53 x23_55 x24_56 = some r ∧ Lk σ 4 (slV l51 b52) ∧ Lk σ 5 (slV l53 b54) ∧ Lk σ 22 (slV x0 b0) ∧ Lk σ 23 (.int .i64 x23_55) ∧ Lk σ 24 (.int .i64 x24_56) ∧ SlO c.nb H (cInt .i64) 3 l51 b52 ∧ SlO c.nb H (cInt .i64) 3 l53 b54 ∧ (l51 ≠ none → l53 ≠ none → b52 ≠ b54) ∧ Iv c.nb [] H0 H) ?_ ?_ ?_
   ·exact ⟨v26.1,v26.2,Sl.len x0,0,b29,b31,hm,rfl,rfl,rfl,rfl,rfl,f39.1,f39.2,n40,i35⟩
   ·rintro ⟨σ,H,d⟩ ⟨_,_,_,_,_,_,hm,_⟩
    cases hm
   ·intro k1 K n57 x58
    rintro ⟨σ71,H59,d72⟩ ⟨l51,l53,x23_55,x24_56,b52,b54,hm,h62,h63,h64,h65,h66,f67,f68,n69,i70⟩
    rw [b_bc.eq_2] at hm
    refine tk_os okM hok fun J hJ=>?_
    simp only [C.f40r8,R,Nat.reduceEqDiff,h66,h65]
    refine hJ _ ?_
    refine tk_seq_k fun K n73 x74=>?_
    refine tk_cond (t:=decide (x24_56 < x23_55)) rfl (fun g75=>?_) (fun g75=>?_)
    ·replace hm:=cond_t hm g75
     refine tk_skip okM ?_
     refine n73 _ ?_
     refine tk_seq_j (fun ⟨σ,H,_⟩=>∃ l76 l78 x23_80 x24_81 b77 b79,b_b7 c_M c_1 c_G n (b_bc c_M c_1 c_G n x0 k1) x0 l76 l78 x23_80 x24_81 = some r ∧ Lk σ 4 (slV l76 b77) ∧ Lk σ 5 (slV l78 b79) ∧ Lk σ 22 (slV x0 b0) ∧ Lk σ 23 (.int .i64 x23_80) ∧ Lk σ 24 (.int .i64 x24_81) ∧ SlO c.nb H (cInt .i64) 3 l76 b77 ∧ SlO c.nb H (cInt .i64) 3 l78 b79 ∧ (l76 ≠ none → l78 ≠ none → b77 ≠ b79) ∧ Iv c.nb [] H0 H) ?_ ?_
     ·skip
      rintro ⟨σ94,H82,d95⟩ ⟨l76,l78,x23_80,x24_81,b77,b79,hm,h85,h86,h87,h88,h89,f90,f91,n92,i93⟩
      rw [b_b7] at hm
      refine tk_oe okM hok fun J hJ=>?_
      simp only [C.f40r13,R,Nat.reduceEqDiff,h89]
      refine hJ _ ?_
      refine n57 _ ?_
      exact ⟨l76,l78,x23_80,IntKind.i64.wrap (x24_81 + 1),b77,b79,hm,h85,h86,h87,h88,rfl,f90,f91,n92,i93⟩
     ·refine fun K n96 x97=>?_
      refine tk_block_k fun K n98 e99 x100=>?_
      refine tk_os okM hok fun J hJ=>?_
      obtain ⟨j101,ej101,hm⟩:=bind_s hm
      obtain ⟨mm102,k103⟩:=(h0.iv l0 (fun _=>by simp) i70).blk (ck_lt ej101).1
      have a104:=lds_agg (M:=Mt) (t:=72) k103 T.ag72 (by rw [S_a.enc.len]; exact T.sz72) (seg_sl S_a.enc.len mm102 (ck_lt ej101).1)
      obtain ⟨b105,H106,a107,f108,q109,r110,x111,i112⟩:=al_ok H59 72 (S_a.c S_a.zero) i70.le
      have i113:=i112 _ _ i70
      have f114:=f67.ex x111
      have f115:=f68.ex x111
      obtain ⟨H117,a118,f119,u120⟩:=st_ok (M:=Mt) (t:=72) (v:=(vAgg (S_a.c (Sl.nth x0 j101)))) (c:=S_a.c (Sl.nth x0 j101)) (cs':=S_a.c (Sl.nth x0 j101)) f108 (by rw [S_a.enc.len]; exact T.sz72) vAgg_cells (S_a.enc.one _) (Nat.le_trans hcn r110) (le0 S_a.enc.len) (wrs_all (eqL S_a.enc.len))
      have i121:=i113.up u120 r110
      have f122:=f114.up u120 (f67.h.ne q109)
      have f123:=f115.up u120 (f68.h.ne q109)
      simp only [C.f40r9,R,Nat.reduceEqDiff,ia35,ej101,h64,h66,a104,zs72,a107,a118]
      refine hJ _ ?_
      refine tk_seq_k fun K n124 x125=>?_
      refine tk_os okM hok fun J hJ=>?_
      have a126:=ld_one (M:=Mt) (t:=3) f119 T.ag3 (Seg.refl.sub (S_a.seg0 (Sl.nth x0 j101)))
      refine rn_k (fun ⟨σ,H,_⟩=>Lk σ 4 (slV l51 b52) ∧ Lk σ 5 (slV l53 b54) ∧ Lk σ 7 (.pointer (some ⟨b105,0,none⟩)) ∧ Lk σ 22 (slV x0 b0) ∧ Lk σ 23 (.int .i64 (x23_55)) ∧ Lk σ 24 (.int .i64 (x24_56)) ∧ Lk σ 35 (.bool ((!decide (((Sl.nth x0 j101).f_Kind) = 15)) && (!decide (((Sl.nth x0 j101).f_Kind) = 16)))) ∧ SlO c.nb H (cInt .i64) 3 l51 b52 ∧ SlO c.nb H (cInt .i64) 3 l53 b54 ∧ H[b105]? = some (.cells (S_a.c (Sl.nth x0 j101)) 72) ∧ Iv c.nb [] H0 H) (fun J hJ=>?_) ?_
      ·skip
       cases g140:!decide (((Sl.nth x0 j101).f_Kind) = 15)
       ·skip
        simp only [C.f40r10,R,Nat.reduceEqDiff,fa72_0,a126,g140]
        refine hJ _ ?_
        exact ⟨h62,h63,rfl,h64,h65,h66,(by first | rfl | (simp only [g140]; rfl) | simp only [g140,Lk,RB,Nat.reduceEqDiff,not_false_eq_true]),f122,f123,f119,i121⟩
       ·skip
        have a141:=ld_one (M:=Mt) (t:=3) f119 T.ag3 (Seg.refl.sub (S_a.seg0 (Sl.nth x0 j101)))
        simp only [C.f40r10,R,Nat.reduceEqDiff,fa72_0,a126,g140,a141]
        refine hJ _ ?_
        exact ⟨h62,h63,rfl,h64,h65,h66,(by first | rfl | (simp only [g140]; rfl) | simp only [g140,Lk,RB,Nat.reduceEqDiff,not_false_eq_true]),f122,f123,f119,i121⟩
      rintro ⟨σ142,H128,d143⟩ ⟨h129,h130,h131,h132,h133,h134,h135,f136,f137,f138,i139⟩
      refine hJ _ ?_
      refine tk_cond (t:=(!decide (((Sl.nth x0 j101).f_Kind) = 15)) && (!decide (((Sl.nth x0 j101).f_Kind) = 16))) h135 (fun g144=>?_) (fun g144=>?_)
      ·replace hm:=cond_t hm g144
       refine tk_exit okM ?_
       refine x125 _ _ (by simp) ?_
       refine e99 _ ?_
       refine n96 _ ?_
       exact ⟨l51,l53,x23_55,x24_56,b52,b54,hm,h129,h130,h132,h133,h134,f136,f137,n69,i139⟩
      ·replace hm:=cond_f hm g144
       refine tk_skip okM ?_
       refine n124 _ ?_
       refine tk_os okM hok fun J hJ=>?_
       have a145:=ld_one (M:=Mt) (t:=3) f138 T.ag3 (Seg.refl.sub (S_a.seg1 (Sl.nth x0 j101)))
       obtain ⟨j146,ej146,hm⟩:=bind_s hm
       obtain ⟨mm147,k148⟩:=f136.h.blk (ck_lt ej146).1
       have a149:=lds_one (M:=Mt) (t:=3) k148 T.ag3 (seg_sl enc_int.len mm147 (ck_lt ej146).1)
       have a150:=ld_one (M:=Mt) (t:=3) f138 T.ag3 (Seg.refl.sub (S_a.seg1 (Sl.nth x0 j101)))
       obtain ⟨j151,ej151,hm⟩:=bind_s hm
       obtain ⟨mm152,k153⟩:=f137.h.blk (ck_lt ej151).1
       have a154:=lds_one (M:=Mt) (t:=3) k153 T.ag3 (seg_sl enc_int.len mm152 (ck_lt ej151).1)
       refine rn_k (fun ⟨σ,H,_⟩=>Lk σ 4 (slV l51 b52) ∧ Lk σ 5 (slV l53 b54) ∧ Lk σ 22 (slV x0 b0) ∧ Lk σ 23 (.int .i64 (x23_55)) ∧ Lk σ 24 (.int .i64 (x24_56)) ∧ Lk σ 54 (.bool ((!decide ((Sl.nth l51 j146) = (Sl.nth l53 j151))) || (decide (255 < (Sl.nth l51 j146))))) ∧ SlO c.nb H (cInt .i64) 3 l51 b52 ∧ SlO c.nb H (cInt .i64) 3 l53 b54 ∧ Iv c.nb [] H0 H) (fun J hJ=>?_) ?_
       ·skip
        cases g169:!decide ((Sl.nth l51 j146) = (Sl.nth l53 j151))
        ·skip
         have a170:=ld_one (M:=Mt) (t:=3) f138 T.ag3 (Seg.refl.sub (S_a.seg1 (Sl.nth x0 j101)))
         obtain ⟨mm171,k172⟩:=f136.h.blk (ck_lt ej146).1
         have a173:=lds_one (M:=Mt) (t:=3) k172 T.ag3 (seg_sl enc_int.len mm171 (ck_lt ej146).1)
         simp only [C.f40r11,R,Nat.reduceEqDiff,s_pt,s_gt,isW,Bool.false_eq_true,if_false,if_true,reduceIte,h129,fa72_1,h131,a145,ia100,ej146,a149,h130,a150,ej151,a154,g169,a170,a173]
         refine hJ _ ?_
         exact ⟨h129,h130,h132,h133,h134,(by first | rfl | (simp only [g169]; rfl) | simp only [g169,Lk,RB,Nat.reduceEqDiff,not_false_eq_true]),f136,f137,i139⟩
        ·skip
         simp only [C.f40r11,R,Nat.reduceEqDiff,s_pt,s_gt,isW,Bool.false_eq_true,if_false,if_true,reduceIte,h129,fa72_1,h131,a145,ia100,ej146,a149,h130,a150,ej151,a154,g169]
         refine hJ _ ?_
         exact ⟨h129,h130,h132,h133,h134,(by first | rfl | (simp only [g169]; rfl) | simp only [g169,Lk,RB,Nat.reduceEqDiff,not_false_eq_true]),f136,f137,i139⟩
       rintro ⟨σ174,H159,d175⟩ ⟨h160,h161,h162,h163,h164,h165,f166,f167,i168⟩
       refine hJ _ ?_
       refine tk_cond (t:=(!decide ((Sl.nth l51 j146) = (Sl.nth l53 j151))) || (decide (255 < (Sl.nth l51 j146)))) h165 (fun g176=>?_) (fun g176=>?_)
       ·replace hm:=cond_t hm g176
        refine tk_os okM hok fun J hJ=>?_
        simp only [C.f40r12,R,Nat.reduceEqDiff]
        refine hJ _ ?_
        refine tk_ret okM ?_
        refine x100 _ _ (by simp) (by simp) ?_
        refine x97 _ _ (by simp) ?_
        refine x58 _ _ (by simp) ?_
        refine x50 _ _ (by simp) (by simp) ?_
        refine x46 _ _ (by simp) ?_
        obtain rfl:=Option.some.inj hm
        exact end_flat (.inl rfl) (vs:=[(.int .i64 (7))]) (resT' (v:=(.int .i64 (7))) rfl resN) (fm_cons rfl fm_nil)
       ·replace hm:=cond_f hm g176
        refine tk_skip okM ?_
        refine n98 _ ?_
        refine n96 _ ?_
        exact ⟨l51,l53,x23_55,x24_56,b52,b54,hm,h160,h161,h162,h163,h164,f166,f167,n69,i168⟩
    ·replace hm:=cond_f hm g75
     refine tk_exit okM ?_
     refine x74 _ _ (by simp) ?_
     refine x58 _ _ (by simp) ?_
     refine e49 _ ?_
     refine n45 _ ?_
     refine tk_os okM hok fun J hJ=>?_
     simp only [C.f40r14,R,Nat.reduceEqDiff]
     refine hJ _ ?_
     refine tk_ret okM ?_
     obtain rfl:=Option.some.inj hm
     exact end_flat (.inl rfl) (vs:=[(.int .i64 (0))]) (resT' (v:=(.int .i64 (0))) rfl resN) (fm_cons rfl fm_nil)
def b_eW (n:Nat) (x0:S_a):Option (S_b):=some (({ S_b.zero with f_Kind:=x0.f_Kind,f_A:=x0.f_A,f_B:=x0.f_B,f_Set:=x0.f_Set.f_W,f_Min:=x0.f_Min,f_Max:=x0.f_Max,f_Mode:=x0.f_Mode,f_N:=x0.f_N,f_Fold:=x0.f_Fold }:S_b))
theorem w_ia {call:CallF} (hok:CallOk Mt call) {n:Nat} {H0:Hp} {x0:S_a} {r:S_b} {ro:Nat} (hro:ro ≤ H0.length) (hm:b_eW n x0 = some r) :
  Pt Mt ro 50 [(vAgg (S_a.c x0))] H0 (vAgg (S_b.c (r))) H0 []:=by
 refine pt_new0 okM F50d (by exact Nat.le_of_ble_eq_true rfl) ?_ hro
 intro c hnt hnb hcr
 have hcn:c.ro ≤ c.nb:=by omega
 have iv:Iv c.nb [] H0 H0:=by rw [hnb]; exact iv_refl
 rw [show args0 [(vAgg (S_a.c x0))] = [(0,(vAgg (S_a.c x0)))] from rfl]
 rw [b_eW] at hm
 simp only [C.f50]
 refine tk_os okM hok fun J hJ=>?_
 obtain ⟨b1,H2,a3,f4,q5,r6,x7,i8⟩:=bx_ok (M:=Mt) (t:=72) (u:=(vAgg (S_a.c (x0)))) (cs:=S_a.c x0) H0 iv.le (by rw [S_a.enc.len]; exact T.sz72) vAgg_cells (S_a.enc.one _)
 have i9:=i8 _ _ iv
 obtain ⟨b11,H12,a13,f14,q15,r16,x17,i18⟩:=al_ok H2 97 (S_b.c S_b.zero) i9.le
 have i19:=i18 _ _ i9
 have f20:=x17 _ _ f4
 simp only [C.f50r0,R,Nat.reduceEqDiff,a3,zs97,a13]
 refine hJ _ ?_
 refine tk_os okM hok fun J hJ=>?_
 have a22:=ld_one (M:=Mt) (t:=3) f20 T.ag3 (Seg.refl.sub (S_a.seg0 x0))
 have a23:=ld_one (M:=Mt) (t:=3) f20 T.ag3 (Seg.refl.sub (S_a.seg1 x0))
 have a24:=ld_one (M:=Mt) (t:=3) f20 T.ag3 (Seg.refl.sub (S_a.seg2 x0))
 have a25:=ld_agg (M:=Mt) (t:=23) f20 T.ag23 (by rw [(enc_arr (n:=4) enc_int).len]; exact T.sz23) ((Seg.refl.sub (S_a.seg3 x0)).sub (S_c.seg0 x0.f_Set))
 have a26:=ld_one (M:=Mt) (t:=3) f20 T.ag3 (Seg.refl.sub (S_a.seg4 x0))
 have a27:=ld_one (M:=Mt) (t:=3) f20 T.ag3 (Seg.refl.sub (S_a.seg5 x0))
 have a28:=ld_one (M:=Mt) (t:=3) f20 T.ag3 (Seg.refl.sub (S_a.seg6 x0))
 have a29:=ld_one (M:=Mt) (t:=3) f20 T.ag3 (Seg.refl.sub (S_a.seg7 x0))
 have a30:=ld_one (M:=Mt) (t:=4) f20 T.ag4 (Seg.refl.sub (S_a.seg8 x0))
 obtain ⟨H31,a32,f33,u34⟩:=st_ok (M:=Mt) (t:=97) (v:=(vAgg (S_b.c (({ S_b.zero with f_Kind:=x0.f_Kind,f_A:=x0.f_A,f_B:=x0.f_B,f_Set:=x0.f_Set.f_W,f_Min:=x0.f_Min,f_Max:=x0.f_Max,f_Mode:=x0.f_Mode,f_N:=x0.f_N,f_Fold:=x0.f_Fold }:S_b))))) (c:=S_b.c (({ S_b.zero with f_Kind:=x0.f_Kind,f_A:=x0.f_A,f_B:=x0.f_B,f_Set:=x0.f_Set.f_W,f_Min:=x0.f_Min,f_Max:=x0.f_Max,f_Mode:=x0.f_Mode,f_N:=x0.f_N,f_Fold:=x0.f_Fold }:S_b))) (cs':=S_b.c (({ S_b.zero with f_Kind:=x0.f_Kind,f_A:=x0.f_A,f_B:=x0.f_B,f_Set:=x0.f_Set.f_W,f_Min:=x0.f_Min,f_Max:=x0.f_Max,f_Mode:=x0.f_Mode,f_N:=x0.f_N,f_Fold:=x0.f_Fold }:S_b))) f14 (by rw [S_b.enc.len]; exact T.sz97) vAgg_cells (S_b.enc.one _) (Nat.le_trans hcn r16) (le0 S_b.enc.len) (wrs_all (eqL S_b.enc.len))
 have i35:=i19.up u34 r16
 have f36:=(u34.get _ (ne_len f4 q15)).trans f20
 simp only [C.f50r1,R,Nat.reduceEqDiff,fa72_0,a22,fa72_1,a23,fa72_2,a24,fa72_3,fa25_0,a25,fa72_4,a26,fa72_5,a27,fa72_6,a28,fa72_7,a29,fa72_8,a30,bd97_0_1_2_3_4_5_6_7_8,a32]
 refine hJ _ ?_
 refine tk_ret okM ?_
 obtain rfl:=Option.some.inj hm
 exact end_flat (.inl rfl) (vs:=[(vAgg (S_b.c (({ S_b.zero with f_Kind:=x0.f_Kind,f_A:=x0.f_A,f_B:=x0.f_B,f_Set:=x0.f_Set.f_W,f_Min:=x0.f_Min,f_Max:=x0.f_Max,f_Mode:=x0.f_Mode,f_N:=x0.f_N,f_Fold:=x0.f_Fold }:S_b))))]) (resC' (v:=(vAgg (S_b.c (({ S_b.zero with f_Kind:=x0.f_Kind,f_A:=x0.f_A,f_B:=x0.f_B,f_Set:=x0.f_Set.f_W,f_Min:=x0.f_Min,f_Max:=x0.f_Max,f_Mode:=x0.f_Mode,f_N:=x0.f_N,f_Fold:=x0.f_Fold }:S_b))))) rfl (ldv_of (ld_agg (M:=Mt) (t:=97) f33 T.ag97 (by rw [S_b.enc.len]; exact T.sz97) Seg.refl)) resN) (fm_cons (flat_agg S_b.enc _) fm_nil)
def b_e2 (n:Nat) (x0:Int):Option (Int):=some (min x0 1099511627776)
theorem w_if {call:CallF} (hok:CallOk Mt call) {n:Nat} {H0:Hp} {x0:Int} {r:Int} {ro:Nat} (hro:ro ≤ H0.length) (hm:b_e2 n x0 = some r) :
  Pt Mt ro 51 [(.int .i64 x0)] H0 (.int .i64 (r)) H0 []:=by
 refine pt_new0 okM F51d (by exact Nat.le_of_ble_eq_true rfl) ?_ hro
 intro c hnt hnb hcr
 have hcn:c.ro ≤ c.nb:=by omega
 have iv:Iv c.nb [] H0 H0:=by rw [hnb]; exact iv_refl
 rw [show args0 [(.int .i64 x0)] = [(0,(.int .i64 x0))] from rfl]
 rw [b_e2] at hm
 simp only [C.f51]
 refine tk_os okM hok fun J hJ=>?_
 simp only [C.f51r0,R,Nat.reduceEqDiff]
 refine hJ _ ?_
 refine tk_os okM hok fun J hJ=>?_
 simp only [C.f51r1,R,Nat.reduceEqDiff]
 refine hJ _ ?_
 refine tk_ret okM ?_
 obtain rfl:=Option.some.inj hm
 exact end_flat (.inl rfl) (vs:=[(.int .i64 (min x0 1099511627776))]) (resT' (v:=(.int .i64 (min x0 1099511627776))) rfl resN) (fm_cons rfl fm_nil)
def b_F (c_l:T_bS) (c_o:T_b4) (n:Nat) (q1:Int → Sl Int → Int → Int → Option ((Sl Int))) (x0:(Sl S_a)) (x1_52:Int) (l53:Sl Int) (x14_55:Int) (x15_56:Int):Option ((Sl Int)):=q1 x1_52 l53 x14_55 (IntKind.i64.wrap (x15_56 + 1))
def b_6 (c_l:T_bS) (c_o:T_b4) (n:Nat) (q1:Int → Sl Int → Int → Int → Option ((Sl Int))) (x0:(Sl S_a)) (x1_156:Int) (l157:Sl Int) (x6_159:Int) (x160:S_a) (x14_161:Int) (x15_162:Int) (x21_163:Int) (x73_164:Bool):Option ((Sl Int)):=bif x73_164 then ((ck (Sl.l l157).length x160.f_A).bind fun j184=>(c_l (IntKind.i64.wrap (3 + (Sl.nth l157 j184)))).bind fun v189=>(ck (Sl.l l157).length x6_159).bind fun j190=>b_F c_l c_o n q1 x0 x1_156 (Sl.put l157 j190 v189) x14_161 x15_162) else (bif decide (x21_163 = 10) then ((c_o x160 x1_156).bind fun v201=>(ck (Sl.l l157).length x160.f_A).bind fun j203=>(c_l (IntKind.i64.wrap (4 + (IntKind.i64.wrap (v201 * (IntKind.i64.wrap (1 + (Sl.nth l157 j203)))))))).bind fun v208=>(ck (Sl.l l157).length x6_159).bind fun j209=>b_F c_l c_o n q1 x0 x1_156 (Sl.put l157 j209 v208) x14_161 x15_162) else ((ck (Sl.l l157).length x6_159).bind fun j217=>b_F c_l c_o n q1 x0 x1_156 (Sl.put l157 j217 1) x14_161 x15_162))
def b_z (c_l:T_bS) (c_o:T_b4) (n:Nat) (x0:(Sl S_a)):Nat → Int → Sl Int → Int → Int → Option ((Sl Int))
 | 0,_,_,_,_=>none
 | k + 1,x1_31,l32,x14_34,x15_35=>bif decide (x15_35 < x14_34) then ((ck (Sl.l x0).length x15_35).bind fun j73=>bif decide (((Sl.nth x0 j73).f_Kind) = 8) then ((ck (Sl.l l32).length ((Sl.nth x0 j73).f_A)).bind fun j100=>(ck (Sl.l l32).length ((Sl.nth x0 j73).f_B)).bind fun j105=>(c_l (IntKind.i64.wrap ((IntKind.i64.wrap (1 + (Sl.nth l32 j100))) + (Sl.nth l32 j105)))).bind fun v110=>(ck (Sl.l l32).length x15_35).bind fun j111=>b_F c_l c_o n (b_z c_l c_o n x0 k) x0 x1_31 (Sl.put l32 j111 v110) x14_34 x15_35) else (bif decide (((Sl.nth x0 j73).f_Kind) = 9) then ((ck (Sl.l l32).length ((Sl.nth x0 j73).f_A)).bind fun j121=>(ck (Sl.l l32).length ((Sl.nth x0 j73).f_B)).bind fun j126=>(c_l (IntKind.i64.wrap (1 + (max (Sl.nth l32 j121) (Sl.nth l32 j126))))).bind fun v131=>(ck (Sl.l l32).length x15_35).bind fun j132=>b_F c_l c_o n (b_z c_l c_o n x0 k) x0 x1_31 (Sl.put l32 j132 v131) x14_34 x15_35) else (bif decide (((Sl.nth x0 j73).f_Kind) = 11) then ((ck (Sl.l l32).length ((Sl.nth x0 j73).f_A)).bind fun j142=>(c_l (IntKind.i64.wrap (2 + (Sl.nth l32 j142)))).bind fun v147=>(ck (Sl.l l32).length x15_35).bind fun j148=>b_F c_l c_o n (b_z c_l c_o n x0 k) x0 x1_31 (Sl.put l32 j148 v147) x14_34 x15_35) else (bif decide (((Sl.nth x0 j73).f_Kind) = 13) then (b_6 c_l c_o n (b_z c_l c_o n x0 k) x0 x1_31 l32 x15_35 (Sl.nth x0 j73) x14_34 x15_35 ((Sl.nth x0 j73).f_Kind) (decide (((Sl.nth x0 j73).f_Kind) = 13))) else (bif decide (((Sl.nth x0 j73).f_Kind) = 14) then (b_6 c_l c_o n (b_z c_l c_o n x0 k) x0 x1_31 l32 x15_35 (Sl.nth x0 j73) x14_34 x15_35 ((Sl.nth x0 j73).f_Kind) (decide (((Sl.nth x0 j73).f_Kind) = 14))) else (bif decide (((Sl.nth x0 j73).f_Kind) = 15) then (b_6 c_l c_o n (b_z c_l c_o n x0 k) x0 x1_31 l32 x15_35 (Sl.nth x0 j73) x14_34 x15_35 ((Sl.nth x0 j73).f_Kind) (decide (((Sl.nth x0 j73).f_Kind) = 15))) else (bif decide (((Sl.nth x0 j73).f_Kind) = 16) then (b_6 c_l c_o n (b_z c_l c_o n x0 k) x0 x1_31 l32 x15_35 (Sl.nth x0 j73) x14_34 x15_35 ((Sl.nth x0 j73).f_Kind) (decide (((Sl.nth x0 j73).f_Kind) = 16))) else (b_6 c_l c_o n (b_z c_l c_o n x0 k) x0 x1_31 l32 x15_35 (Sl.nth x0 j73) x14_34 x15_35 ((Sl.nth x0 j73).f_Kind) (decide (((Sl.nth x0 j73).f_Kind) = 17)))))))))) else (some l32)
def b_dT (c_l:T_bS) (c_o:T_b4) (n:Nat) (x0:(Sl S_a)) (x1:Int):Option ((Sl Int)):=(Sl.make 8 (Sl.len x0) (Sl.len x0) (0:Int)).bind fun l13=>b_z c_l c_o n x0 n x1 l13 (Sl.len x0) 0
theorem w_ie {call:CallF} (hok:CallOk Mt call) {n:Nat} {c_l:T_bS} (z_bW:A_e3 call c_l) {c_o:T_b4} (z_he:A_fy call c_o) {H0:Hp} {x0:(Sl S_a)} {b0:Nat} {x1:Int} {r:(Sl Int)} {ro:Nat} (hro:ro ≤ H0.length) (h0:SlH H0 S_a.c 72 x0 b0) (hm:b_dT c_l c_o n x0 x1 = some r) :
  Pt Mt ro 52 [(vAgg [slV x0 b0]),(.int .i64 x1)] H0 (slV r H0.length) (H0 ++ slB (cInt .i64) 3 r) []:=by
 refine pt_new okM F52d (by exact Nat.le_of_ble_eq_true rfl) ?_ hro
 intro c hnt hnb hcr
 have hcn:c.ro ≤ c.nb:=by omega
 have l0:x0 ≠ none → b0 < c.nb:=fun h=>by rw [hnb]; exact h0.lt h
 have iv:Iv c.nb [] H0 H0:=by rw [hnb]; exact iv_refl
 rw [show args0 [(vAgg [slV x0 b0]),(.int .i64 x1)] = [(0,(vAgg [slV x0 b0])),(1,(.int .i64 x1))] from rfl]
 rw [b_dT] at hm
 simp only [C.f52,C.f52b0]
 refine tk_os okM hok fun J hJ=>?_
 obtain ⟨b2,H3,a4,f5,q6,r7,x8,i9⟩:=bx_ok (M:=Mt) (t:=37) (u:=(vAgg [(slV x0 b0)])) (cs:=[(slV x0 b0)]) H0 iv.le T.sz37 vAgg_cells one_sl
 have i10:=i9 _ _ iv
 simp only [C.f52r0,R,Nat.reduceEqDiff,a4]
 refine hJ _ ?_
 refine tk_os okM hok fun J hJ=>?_
 have a12:=ld_one (M:=Mt) (t:=35) (off:=0 + 0) f5 T.ag35 Seg.refl
 obtain ⟨l13,el13,hm⟩:=bind_s hm
 obtain ⟨b14,H15,a16,f17,q18,r19,x20,i21⟩:=mk_ok (M:=Mt) (t:=100) (e:=3) (k:=.i64) (k':=.i64) H3 i10.le Tryz.underlying100 T.by3 zs3 el13
 have i22:=i21 _ _ i10
 have f23:=x20 _ _ f5
 simp only [C.f52r1,R,Nat.reduceEqDiff,fa37_0,a12,ln35,o_makeSlice,a16]
 refine hJ _ ?_
 refine tk_seq_k fun K n25 x26=>?_
 refine tk_os okM hok fun J hJ=>?_
 have a27:=ld_one (M:=Mt) (t:=35) (off:=0 + 0) f23 T.ag35 Seg.refl
 simp only [C.f52r2,R,Nat.reduceEqDiff,fa37_0,a27,ln35]
 refine hJ _ ?_
 refine tk_block_k fun K n28 e29 x30=>?_
 refine tk_loop_k (n:=n) (fun k1 ⟨σ,H,_⟩=>∃ x1_31 l32 x14_34 x15_35 b33,b_z c_l c_o n x0 k1 x1_31 l32 x14_34 x15_35 = some r ∧ Lk σ 1 (.int .i64 x1_31) ∧ Lk σ 5 (slV l32 b33) ∧ Lk σ 13 (slV x0 b0) ∧ Lk σ 14 (.int .i64 x14_34) ∧ Lk σ 15 (.int .i64 x15_35) ∧ SlO c.nb H (cInt .i64) 3 l32 b33 ∧ Iv c.nb [] H0 H) ?_ ?_ ?_
 ·exact ⟨x1,l13,Sl.len x0,0,b14,hm,rfl,rfl,rfl,rfl,rfl,f17,i22⟩
 ·rintro ⟨σ,H,d⟩ ⟨_,_,_,_,_,hm,_⟩
  cases hm
 ·intro k1 K n36 x37
  rintro ⟨σ47,H38,d48⟩ ⟨x1_31,l32,x14_34,x15_35,b33,hm,h40,h41,h42,h43,h44,f45,i46⟩
  rw [b_z.eq_2] at hm
  refine tk_os okM hok fun J hJ=>?_
  simp only [C.f52r3,R,Nat.reduceEqDiff,h44,h43]
  refine hJ _ ?_
  refine tk_seq_k fun K n49 x50=>?_
  refine tk_cond (t:=decide (x15_35 < x14_34)) rfl (fun g51=>?_) (fun g51=>?_)
  ·replace hm:=cond_t hm g51
   refine tk_skip okM ?_
   refine n49 _ ?_
   refine tk_seq_j (fun ⟨σ,H,_⟩=>∃ x1_52 l53 x14_55 x15_56 b54,b_F c_l c_o n (b_z c_l c_o n x0 k1) x0 x1_52 l53 x14_55 x15_56 = some r ∧ Lk σ 1 (.int .i64 x1_52) ∧ Lk σ 5 (slV l53 b54) ∧ Lk σ 13 (slV x0 b0) ∧ Lk σ 14 (.int .i64 x14_55) ∧ Lk σ 15 (.int .i64 x15_56) ∧ SlO c.nb H (cInt .i64) 3 l53 b54 ∧ Iv c.nb [] H0 H) ?_ ?_
   ·skip
    rintro ⟨σ66,H57,d67⟩ ⟨x1_52,l53,x14_55,x15_56,b54,hm,h59,h60,h61,h62,h63,f64,i65⟩
    rw [b_F] at hm
    refine tk_oe okM hok fun J hJ=>?_
    simp only [C.f52r21,R,Nat.reduceEqDiff,h63]
    refine hJ _ ?_
    refine n36 _ ?_
    exact ⟨x1_52,l53,x14_55,IntKind.i64.wrap (x15_56 + 1),b54,hm,h59,h60,h61,h62,rfl,f64,i65⟩
   ·refine fun K n68 x69=>?_
    refine tk_block_k fun K n70 e71 x72=>?_
    refine tk_os okM hok fun J hJ=>?_
    obtain ⟨j73,ej73,hm⟩:=bind_s hm
    obtain ⟨mm74,k75⟩:=(h0.iv l0 (fun _=>by simp) i46).blk (ck_lt ej73).1
    have a76:=lds_agg (M:=Mt) (t:=72) k75 T.ag72 (by rw [S_a.enc.len]; exact T.sz72) (seg_sl S_a.enc.len mm74 (ck_lt ej73).1)
    obtain ⟨b77,H78,a79,f80,q81,r82,x83,i84⟩:=al_ok H38 72 (S_a.c S_a.zero) i46.le
    have i85:=i84 _ _ i46
    have f86:=f45.ex x83
    obtain ⟨H88,a89,f90,u91⟩:=st_ok (M:=Mt) (t:=72) (v:=(vAgg (S_a.c (Sl.nth x0 j73)))) (c:=S_a.c (Sl.nth x0 j73)) (cs':=S_a.c (Sl.nth x0 j73)) f80 (by rw [S_a.enc.len]; exact T.sz72) vAgg_cells (S_a.enc.one _) (Nat.le_trans hcn r82) (le0 S_a.enc.len) (wrs_all (eqL S_a.enc.len))
    have i92:=i85.up u91 r82
    have f93:=f86.up u91 (f45.h.ne q81)
    simp only [C.f52r4,R,Nat.reduceEqDiff,h44,ia35,ej73,h42,a76,zs72,a79,a89]
    refine hJ _ ?_
    refine tk_os okM hok fun J hJ=>?_
    have a94:=ld_one (M:=Mt) (t:=3) f90 T.ag3 (Seg.refl.sub (S_a.seg0 (Sl.nth x0 j73)))
    simp only [C.f52r5,R,Nat.reduceEqDiff,fa72_0,a94]
    refine hJ _ ?_
    refine tk_block_k fun K n95 e96 x97=>?_
    refine tk_os okM hok fun J hJ=>?_
    simp only [C.f52r7,R,Nat.reduceEqDiff]
    refine hJ _ ?_
    refine tk_cond (t:=decide (((Sl.nth x0 j73).f_Kind) = 8)) rfl (fun g98=>?_) (fun g98=>?_)
    ·replace hm:=cond_t hm g98
     refine tk_oe okM hok fun J hJ=>?_
     have a99:=ld_one (M:=Mt) (t:=3) f90 T.ag3 (Seg.refl.sub (S_a.seg1 (Sl.nth x0 j73)))
     obtain ⟨j100,ej100,hm⟩:=bind_s hm
     obtain ⟨mm101,k102⟩:=f93.h.blk (ck_lt ej100).1
     have a103:=lds_one (M:=Mt) (t:=3) k102 T.ag3 (seg_sl enc_int.len mm101 (ck_lt ej100).1)
     have a104:=ld_one (M:=Mt) (t:=3) f90 T.ag3 (Seg.refl.sub (S_a.seg2 (Sl.nth x0 j73)))
     obtain ⟨j105,ej105,hm⟩:=bind_s hm
     obtain ⟨mm106,k107⟩:=f93.h.blk (ck_lt ej105).1
     have a108:=lds_one (M:=Mt) (t:=3) k107 T.ag3 (seg_sl enc_int.len mm106 (ck_lt ej105).1)
     obtain ⟨v110,ev110,hm⟩:=bind_s hm
     have a109:=z_bW H88.length H88 (IntKind.i64.wrap ((IntKind.i64.wrap (1 + (Sl.nth l32 j100))) + (Sl.nth l32 j105))) v110 ev110
     obtain ⟨j111,ej111,hm⟩:=bind_s hm
     obtain ⟨H112,a113,f114,u115⟩:=st_sl0 (M:=Mt) (t:=3) (v:=(.int .i64 (v110))) (y:=v110) enc_int.len f93 (ck_lt ej111).1 (by rw [enc_int.len]; exact T.sz3) rfl (enc_int.one _) hcn
     have i116:=i92.up u115 (f93.some (ck_lt ej111).1).1
     have z117:l32 ≠ none:=sl_some (j:=j111) (ck_lt ej111).1
     have f118:=(u115.get _ ((f45.h.ne q81) z117).symm).trans f90
     simp only [C.f52r8,R,Nat.reduceEqDiff,s_pt,s_gt,isW,Bool.false_eq_true,if_false,if_true,reduceIte,h41,fa72_1,a99,ia100,ej100,a103,fa72_2,a104,ej105,a108,c_fn F51,a109,ej111,a113]
     refine hJ _ ?_
     refine n95 _ ?_
     refine n70 _ ?_
     refine n68 _ ?_
     exact ⟨x1_31,Sl.put l32 j111 v110,x14_34,x15_35,b33,hm,h40,(lk_eq (by simp only [slV_put,slV_copy]) h41),h42,h43,h44,f114,i116⟩
    ·replace hm:=cond_f hm g98
     refine tk_os okM hok fun J hJ=>?_
     simp only [C.f52r9,R,Nat.reduceEqDiff]
     refine hJ _ ?_
     refine tk_cond (t:=decide (((Sl.nth x0 j73).f_Kind) = 9)) rfl (fun g119=>?_) (fun g119=>?_)
     ·replace hm:=cond_t hm g119
      refine tk_oe okM hok fun J hJ=>?_
      have a120:=ld_one (M:=Mt) (t:=3) f90 T.ag3 (Seg.refl.sub (S_a.seg1 (Sl.nth x0 j73)))
      obtain ⟨j121,ej121,hm⟩:=bind_s hm
      obtain ⟨mm122,k123⟩:=f93.h.blk (ck_lt ej121).1
      have a124:=lds_one (M:=Mt) (t:=3) k123 T.ag3 (seg_sl enc_int.len mm122 (ck_lt ej121).1)
      have a125:=ld_one (M:=Mt) (t:=3) f90 T.ag3 (Seg.refl.sub (S_a.seg2 (Sl.nth x0 j73)))
      obtain ⟨j126,ej126,hm⟩:=bind_s hm
      obtain ⟨mm127,k128⟩:=f93.h.blk (ck_lt ej126).1
      have a129:=lds_one (M:=Mt) (t:=3) k128 T.ag3 (seg_sl enc_int.len mm127 (ck_lt ej126).1)
      obtain ⟨v131,ev131,hm⟩:=bind_s hm
      have a130:=z_bW H88.length H88 (IntKind.i64.wrap (1 + (max (Sl.nth l32 j121) (Sl.nth l32 j126)))) v131 ev131
      obtain ⟨j132,ej132,hm⟩:=bind_s hm
      obtain ⟨H133,a134,f135,u136⟩:=st_sl0 (M:=Mt) (t:=3) (v:=(.int .i64 (v131))) (y:=v131) enc_int.len f93 (ck_lt ej132).1 (by rw [enc_int.len]; exact T.sz3) rfl (enc_int.one _) hcn
      have i137:=i92.up u136 (f93.some (ck_lt ej132).1).1
      have z138:l32 ≠ none:=sl_some (j:=j132) (ck_lt ej132).1
      have f139:=(u136.get _ ((f45.h.ne q81) z138).symm).trans f90
      simp only [C.f52r10,R,Nat.reduceEqDiff,s_pt,s_gt,isW,Bool.false_eq_true,if_false,if_true,reduceIte,h41,fa72_1,a120,ia100,ej121,a124,fa72_2,a125,ej126,a129,c_fn F51,a130,ej132,a134]
      refine hJ _ ?_
      refine n95 _ ?_
      refine n70 _ ?_
      refine n68 _ ?_
      exact ⟨x1_31,Sl.put l32 j132 v131,x14_34,x15_35,b33,hm,h40,(lk_eq (by simp only [slV_put,slV_copy]) h41),h42,h43,h44,f135,i137⟩
     ·replace hm:=cond_f hm g119
      refine tk_os okM hok fun J hJ=>?_
      simp only [C.f52r11,R,Nat.reduceEqDiff]
      refine hJ _ ?_
      refine tk_cond (t:=decide (((Sl.nth x0 j73).f_Kind) = 11)) rfl (fun g140=>?_) (fun g140=>?_)
      ·replace hm:=cond_t hm g140
       refine tk_oe okM hok fun J hJ=>?_
       have a141:=ld_one (M:=Mt) (t:=3) f90 T.ag3 (Seg.refl.sub (S_a.seg1 (Sl.nth x0 j73)))
       obtain ⟨j142,ej142,hm⟩:=bind_s hm
       obtain ⟨mm143,k144⟩:=f93.h.blk (ck_lt ej142).1
       have a145:=lds_one (M:=Mt) (t:=3) k144 T.ag3 (seg_sl enc_int.len mm143 (ck_lt ej142).1)
       obtain ⟨v147,ev147,hm⟩:=bind_s hm
       have a146:=z_bW c.ro H88 (IntKind.i64.wrap (2 + (Sl.nth l32 j142))) v147 ev147
       obtain ⟨j148,ej148,hm⟩:=bind_s hm
       obtain ⟨H149,a150,f151,u152⟩:=st_sl0 (M:=Mt) (t:=3) (v:=(.int .i64 (v147))) (y:=v147) enc_int.len f93 (ck_lt ej148).1 (by rw [enc_int.len]; exact T.sz3) rfl (enc_int.one _) hcn
       have i153:=i92.up u152 (f93.some (ck_lt ej148).1).1
       have z154:l32 ≠ none:=sl_some (j:=j148) (ck_lt ej148).1
       have f155:=(u152.get _ ((f45.h.ne q81) z154).symm).trans f90
       simp only [C.f52r12,R,Nat.reduceEqDiff,h41,fa72_1,a141,ia100,ej142,a145,c_fn F51,a146,ej148,a150]
       refine hJ _ ?_
       refine n95 _ ?_
       refine n70 _ ?_
       refine n68 _ ?_
       exact ⟨x1_31,Sl.put l32 j148 v147,x14_34,x15_35,b33,hm,h40,(lk_eq (by simp only [slV_put,slV_copy]) h41),h42,h43,h44,f151,i153⟩
      ·replace hm:=cond_f hm g140
       refine tk_seq_j (fun ⟨σ,H,_⟩=>∃ x1_156 l157 x6_159 x160 x14_161 x15_162 x21_163 x73_164 b158,b_6 c_l c_o n (b_z c_l c_o n x0 k1) x0 x1_156 l157 x6_159 x160 x14_161 x15_162 x21_163 x73_164 = some r ∧ Lk σ 1 (.int .i64 x1_156) ∧ Lk σ 5 (slV l157 b158) ∧ Lk σ 6 (.int .i64 x6_159) ∧ Lk σ 7 (.pointer (some ⟨b77,0,none⟩)) ∧ Lk σ 13 (slV x0 b0) ∧ Lk σ 14 (.int .i64 x14_161) ∧ Lk σ 15 (.int .i64 x15_162) ∧ Lk σ 21 (.int .i64 x21_163) ∧ Lk σ 73 (.bool x73_164) ∧ SlO c.nb H (cInt .i64) 3 l157 b158 ∧ H[b77]? = some (.cells (S_a.c x160) 72) ∧ (l157 ≠ none → b158 ≠ b77) ∧ Iv c.nb [] H0 H) ?_ ?_
       ·skip
        rintro ⟨σ180,H165,d181⟩ ⟨x1_156,l157,x6_159,x160,x14_161,x15_162,x21_163,x73_164,b158,hm,h167,h168,h169,h170,h171,h172,h173,h174,h175,f176,f177,n178,i179⟩
        rw [b_6] at hm
        refine tk_cond (t:=x73_164) h175 (fun g182=>?_) (fun g182=>?_)
        ·replace hm:=cond_t hm g182
         refine tk_oe okM hok fun J hJ=>?_
         have a183:=ld_one (M:=Mt) (t:=3) f177 T.ag3 (Seg.refl.sub (S_a.seg1 x160))
         obtain ⟨j184,ej184,hm⟩:=bind_s hm
         obtain ⟨mm185,k186⟩:=f176.h.blk (ck_lt ej184).1
         have a187:=lds_one (M:=Mt) (t:=3) k186 T.ag3 (seg_sl enc_int.len mm185 (ck_lt ej184).1)
         obtain ⟨v189,ev189,hm⟩:=bind_s hm
         have a188:=z_bW c.ro H165 (IntKind.i64.wrap (3 + (Sl.nth l157 j184))) v189 ev189
         obtain ⟨j190,ej190,hm⟩:=bind_s hm
         obtain ⟨H191,a192,f193,u194⟩:=st_sl0 (M:=Mt) (t:=3) (v:=(.int .i64 (v189))) (y:=v189) enc_int.len f176 (ck_lt ej190).1 (by rw [enc_int.len]; exact T.sz3) rfl (enc_int.one _) hcn
         have i195:=i179.up u194 (f176.some (ck_lt ej190).1).1
         have z196:l157 ≠ none:=sl_some (j:=j190) (ck_lt ej190).1
         have f197:=(u194.get _ (n178 z196).symm).trans f177
         simp only [C.f52r18,R,Nat.reduceEqDiff,h168,h169,fa72_1,h170,a183,ia100,ej184,a187,c_fn F51,a188,ej190,a192]
         refine hJ _ ?_
         refine n95 _ ?_
         refine n70 _ ?_
         refine n68 _ ?_
         exact ⟨x1_156,Sl.put l157 j190 v189,x14_161,x15_162,b158,hm,h167,(lk_eq (by simp only [slV_put,slV_copy]) h168),h171,h172,h173,f193,i195⟩
        ·replace hm:=cond_f hm g182
         refine tk_os okM hok fun J hJ=>?_
         simp only [C.f52r19,R,Nat.reduceEqDiff,h174]
         refine hJ _ ?_
         refine tk_cond (t:=decide (x21_163 = 10)) rfl (fun g198=>?_) (fun g198=>?_)
         ·replace hm:=cond_t hm g198
          refine tk_oe okM hok fun J hJ=>?_
          have a199:=ld_agg (M:=Mt) (t:=72) f177 T.ag72 (by rw [S_a.enc.len]; exact T.sz72) Seg.refl
          obtain ⟨v201,ev201,hm⟩:=bind_s hm
          have a200:=z_he H165.length H165 x160 x1_156 v201 ev201
          have a202:=ld_one (M:=Mt) (t:=3) f177 T.ag3 (Seg.refl.sub (S_a.seg1 x160))
          obtain ⟨j203,ej203,hm⟩:=bind_s hm
          obtain ⟨mm204,k205⟩:=f176.h.blk (ck_lt ej203).1
          have a206:=lds_one (M:=Mt) (t:=3) k205 T.ag3 (seg_sl enc_int.len mm204 (ck_lt ej203).1)
          obtain ⟨v208,ev208,hm⟩:=bind_s hm
          have a207:=z_bW H165.length H165 (IntKind.i64.wrap (4 + (IntKind.i64.wrap (v201 * (IntKind.i64.wrap (1 + (Sl.nth l157 j203))))))) v208 ev208
          obtain ⟨j209,ej209,hm⟩:=bind_s hm
          obtain ⟨H210,a211,f212,u213⟩:=st_sl0 (M:=Mt) (t:=3) (v:=(.int .i64 (v208))) (y:=v208) enc_int.len f176 (ck_lt ej209).1 (by rw [enc_int.len]; exact T.sz3) rfl (enc_int.one _) hcn
          have i214:=i179.up u213 (f176.some (ck_lt ej209).1).1
          have z215:l157 ≠ none:=sl_some (j:=j209) (ck_lt ej209).1
          have f216:=(u213.get _ (n178 z215).symm).trans f177
          simp only [C.f52r20,R,Nat.reduceEqDiff,s_pt,s_gt,isW,Bool.false_eq_true,if_false,if_true,reduceIte,h168,h169,a199,h170,h167,c_fn F79,a200,fa72_1,a202,ia100,ej203,a206,c_fn F51,a207,ej209,a211]
          refine hJ _ ?_
          refine n95 _ ?_
          refine n70 _ ?_
          refine n68 _ ?_
          exact ⟨x1_156,Sl.put l157 j209 v208,x14_161,x15_162,b158,hm,h167,(lk_eq (by simp only [slV_put,slV_copy]) h168),h171,h172,h173,f212,i214⟩
         ·replace hm:=cond_f hm g198
          refine tk_oe okM hok fun J hJ=>?_
          obtain ⟨j217,ej217,hm⟩:=bind_s hm
          obtain ⟨H218,a219,f220,u221⟩:=st_sl0 (M:=Mt) (t:=3) (v:=(.int .i64 (1))) (y:=1) enc_int.len f176 (ck_lt ej217).1 (by rw [enc_int.len]; exact T.sz3) rfl (enc_int.one _) hcn
          have i222:=i179.up u221 (f176.some (ck_lt ej217).1).1
          have z223:l157 ≠ none:=sl_some (j:=j217) (ck_lt ej217).1
          have f224:=(u221.get _ (n178 z223).symm).trans f177
          simp only [C.f52r6,R,Nat.reduceEqDiff,h168,h169,ia100,ej217,a219]
          refine hJ _ ?_
          refine n95 _ ?_
          refine n70 _ ?_
          refine n68 _ ?_
          exact ⟨x1_156,Sl.put l157 j217 1,x14_161,x15_162,b158,hm,h167,(lk_eq (by simp only [slV_put,slV_copy]) h168),h171,h172,h173,f220,i222⟩
       ·refine fun K n225 x226=>?_
        refine tk_os okM hok fun J hJ=>?_
        simp only [C.f52r13,R,Nat.reduceEqDiff]
        refine hJ _ ?_
        refine tk_cond (t:=decide (((Sl.nth x0 j73).f_Kind) = 13)) rfl (fun g227=>?_) (fun g227=>?_)
        ·replace hm:=cond_t hm g227
         refine tk_skip okM ?_
         refine n225 _ ?_
         exact ⟨x1_31,l32,x15_35,Sl.nth x0 j73,x14_34,x15_35,(Sl.nth x0 j73).f_Kind,decide (((Sl.nth x0 j73).f_Kind) = 13),b33,hm,h40,h41,rfl,rfl,h42,h43,h44,rfl,rfl,f93,f90,(f45.h.ne q81),i92⟩
        ·replace hm:=cond_f hm g227
         refine tk_os okM hok fun J hJ=>?_
         simp only [C.f52r14,R,Nat.reduceEqDiff]
         refine hJ _ ?_
         refine tk_cond (t:=decide (((Sl.nth x0 j73).f_Kind) = 14)) rfl (fun g228=>?_) (fun g228=>?_)
         ·replace hm:=cond_t hm g228
          refine tk_skip okM ?_
          refine n225 _ ?_
          exact ⟨x1_31,l32,x15_35,Sl.nth x0 j73,x14_34,x15_35,(Sl.nth x0 j73).f_Kind,decide (((Sl.nth x0 j73).f_Kind) = 14),b33,hm,h40,h41,rfl,rfl,h42,h43,h44,rfl,rfl,f93,f90,(f45.h.ne q81),i92⟩
         ·replace hm:=cond_f hm g228
          refine tk_os okM hok fun J hJ=>?_
          simp only [C.f52r15,R,Nat.reduceEqDiff]
          refine hJ _ ?_
          refine tk_cond (t:=decide (((Sl.nth x0 j73).f_Kind) = 15)) rfl (fun g229=>?_) (fun g229=>?_)
          ·replace hm:=cond_t hm g229
           refine tk_skip okM ?_
           refine n225 _ ?_
           exact ⟨x1_31,l32,x15_35,Sl.nth x0 j73,x14_34,x15_35,(Sl.nth x0 j73).f_Kind,decide (((Sl.nth x0 j73).f_Kind) = 15),b33,hm,h40,h41,rfl,rfl,h42,h43,h44,rfl,rfl,f93,f90,(f45.h.ne q81),i92⟩
          ·replace hm:=cond_f hm g229
           refine tk_os okM hok fun J hJ=>?_
           simp only [C.f52r16,R,Nat.reduceEqDiff]
           refine hJ _ ?_
           refine tk_cond (t:=decide (((Sl.nth x0 j73).f_Kind) = 16)) rfl (fun g230=>?_) (fun g230=>?_)
           ·replace hm:=cond_t hm g230
            refine tk_skip okM ?_
            refine n225 _ ?_
            exact ⟨x1_31,l32,x15_35,Sl.nth x0 j73,x14_34,x15_35,(Sl.nth x0 j73).f_Kind,decide (((Sl.nth x0 j73).f_Kind) = 16),b33,hm,h40,h41,rfl,rfl,h42,h43,h44,rfl,rfl,f93,f90,(f45.h.ne q81),i92⟩
           ·replace hm:=cond_f hm g230
            refine tk_oe okM hok fun J hJ=>?_
            simp only [C.f52r17,R,Nat.reduceEqDiff]
            refine hJ _ ?_
            refine n225 _ ?_
            exact ⟨x1_31,l32,x15_35,Sl.nth x0 j73,x14_34,x15_35,(Sl.nth x0 j73).f_Kind,decide (((Sl.nth x0 j73).f_Kind) = 17),b33,hm,h40,h41,rfl,rfl,h42,h43,h44,rfl,rfl,f93,f90,(f45.h.ne q81),i92⟩
  ·replace hm:=cond_f hm g51
   refine tk_exit okM ?_
   refine x50 _ _ (by simp) ?_
   refine x37 _ _ (by simp) ?_
   refine e29 _ ?_
   refine n25 _ ?_
   refine tk_os okM hok fun J hJ=>?_
   simp only [C.f52r22,R,Nat.reduceEqDiff,h41]
   refine hJ _ ?_
   refine tk_ret okM ?_
   obtain rfl:=Option.some.inj hm
   exact end_sl1 (P:=Mt.P) (rs:=[(.tmp 4)]) (pre:=[]) (post:=[]) (x:=l32) (b:=b33) (nb:=H0.length) (.inl rfl) (by rw [← hnb]; exact f45) enc_int fm_nil fm_nil (resT' (v:=(slV l32 b33)) rfl resN)
def b_bE (c_u:T_bh) (c_h:T_D) (c_k:T_W) (n:Nat) (q3:Int → Option (Int)) (x0:(Sl S_b)) (x7_128:Int):Option (Int):=q3 (IntKind.i64.wrap (x7_128 + 1))
def b_U (c_u:T_bh) (c_h:T_D) (c_k:T_W) (n:Nat) (x0:(Sl S_b)):Nat → Int → Option (Int)
 | 0,_=>none
 | k + 1,x7_116=>bif decide (x7_116 < (Sl.len x0)) then ((ck (Sl.l x0).length x7_116).bind fun j140=>bif (decide (((Sl.nth x0 j140).f_Kind) = 15)) || (decide (((Sl.nth x0 j140).f_Kind) = 16)) then ((c_k x0 ((Sl.nth x0 j140).f_A)).bind fun v163=>bif (!decide (v163.1 = v163.2)) || (decide (255 < v163.1)) then (some 7) else (b_bE c_u c_h c_k n (b_U c_u c_h c_k n x0 k) x0 x7_116)) else (b_bE c_u c_h c_k n (b_U c_u c_h c_k n x0 k) x0 x7_116)) else (some 0)
def b_9 (c_u:T_bh) (c_h:T_D) (c_k:T_W) (n:Nat) (x0:(Sl S_b)):Nat → Sl Int → Int → Option (Int)
 | 0,_,_=>none
 | k + 1,l58,x6_60=>bif decide (x6_60 < (Sl.len x0)) then ((ck (Sl.l x0).length x6_60).bind fun j80=>bif (decide (((Sl.nth x0 j80).f_Kind) = 12)) && ((decide (((Sl.nth x0 j80).f_N) < 1)) || (decide ((Sl.len l58) < ((Sl.nth x0 j80).f_N)))) then (some 6) else (b_9 c_u c_h c_k n x0 k l58 (IntKind.i64.wrap (x6_60 + 1)))) else (b_U c_u c_h c_k n x0 n 0)
def b_bo (c_u:T_bh) (c_h:T_D) (c_k:T_W) (n:Nat) (x0:(Sl S_b)):Nat → Sl Int → Int → Option (Int)
 | 0,_,_=>none
 | k + 1,l26,x5_28=>bif decide (x5_28 < (Sl.len l26)) then ((ck (Sl.l l26).length x5_28).bind fun j48=>bif !decide ((Sl.nth l26 j48) = (IntKind.i64.wrap (x5_28 + 1))) then (some 6) else (b_bo c_u c_h c_k n x0 k l26 (IntKind.i64.wrap (x5_28 + 1)))) else (b_9 c_u c_h c_k n x0 n l26 0)
def b_di (c_u:T_bh) (c_h:T_D) (c_k:T_W) (n:Nat) (x0:(Sl S_b)):Option (Int):=(c_u x0).bind fun v3=>bif !decide (v3 = 0) then (some v3) else ((c_h x0 (IntKind.i64.wrap ((Sl.len x0) - 1))).bind fun v8=>bif decide (9 < (Sl.len v8)) then (some 6) else (b_bo c_u c_h c_k n x0 n v8 0))
theorem w_hp {call:CallF} (hok:CallOk Mt call) {n:Nat} {c_u:T_bh} (z_gP:A_fg call c_u) {c_h:T_D} (z_cv:A_dC call c_h) {c_k:T_W} (z_b6:A_ey call c_k) {H0:Hp} {x0:(Sl S_b)} {b0:Nat} {r:Int} {ro:Nat} (hro:ro ≤ H0.length) (h0:SlH H0 S_b.c 97 x0 b0) (hm:b_di c_u c_h c_k n x0 = some r) :
  Pt Mt ro 53 [(slV x0 b0)] H0 (.int .i64 (r)) H0 []:=by
 refine pt_new0 okM F53d (by exact Nat.le_of_ble_eq_true rfl) ?_ hro
 intro c hnt hnb hcr
 have hcn:c.ro ≤ c.nb:=by omega
 have l0:x0 ≠ none → b0 < c.nb:=fun h=>by rw [hnb]; exact h0.lt h
 have iv:Iv c.nb [] H0 H0:=by rw [hnb]; exact iv_refl
 rw [show args0 [(slV x0 b0)] = [(0,(slV x0 b0))] from rfl]
 rw [b_di] at hm
 simp only [C.f53,C.f53b0,C.f53b1,C.f53b2]
 refine tk_os okM hok fun J hJ=>?_
 simp only [C.f53r0,R,Nat.reduceEqDiff]
 refine hJ _ ?_
 refine tk_os okM hok fun J hJ=>?_
 obtain ⟨v3,ev3,hm⟩:=bind_s hm
 have a2:=z_gP c.ro H0 x0 b0 v3 (h0.iv l0 (fun _=>by simp) iv) ev3
 simp only [C.f53r1,R,Nat.reduceEqDiff,c_fn F80,a2]
 refine hJ _ ?_
 refine tk_seq_k fun K n4 x5=>?_
 refine tk_os okM hok fun J hJ=>?_
 simp only [C.f53r2,R,Nat.reduceEqDiff]
 refine hJ _ ?_
 refine tk_cond (t:=!decide (v3 = 0)) rfl (fun g6=>?_) (fun g6=>?_)
 ·replace hm:=cond_t hm g6
  refine tk_os okM hok fun J hJ=>?_
  simp only [C.f53r3,R,Nat.reduceEqDiff]
  refine hJ _ ?_
  refine tk_ret okM ?_
  refine x5 _ _ (by simp) ?_
  obtain rfl:=Option.some.inj hm
  exact end_flat (.inl rfl) (vs:=[(.int .i64 (v3))]) (resT' (v:=(.int .i64 (v3))) rfl resN) (fm_cons rfl fm_nil)
 ·replace hm:=cond_f hm g6
  refine tk_skip okM ?_
  refine n4 _ ?_
  refine tk_os okM hok fun J hJ=>?_
  obtain ⟨v8,ev8,hm⟩:=bind_s hm
  have a7:=z_cv c.ro H0 x0 b0 (IntKind.i64.wrap ((Sl.len x0) - 1)) v8 (h0.iv l0 (fun _=>by simp) iv) ev8
  obtain ⟨H9,q10⟩:∃ x,x = H0 ++ slB (cInt .i64) 3 v8:=⟨_,rfl⟩
  obtain ⟨b11,q12⟩:∃ b,b = H0.length:=⟨_,rfl⟩
  rw [← q10,← q12] at a7
  have x16:Ex H0 H9:=by rw [q10]; exact ex_app
  have i14:Iv c.nb [] H0 H9:=by rw [q10]; exact iv.app
  have f13:SlO c.nb H9 (cInt .i64) 3 v8 b11:=by rw [q10,q12]; exact slB_own iv.le
  have r15:c.nb ≤ b11:=by rw [q12]; exact iv.le
  simp only [C.f53r4,R,Nat.reduceEqDiff,ln39,c_fn F81,a7]
  refine hJ _ ?_
  refine tk_seq_k fun K n18 x19=>?_
  refine tk_os okM hok fun J hJ=>?_
  simp only [C.f53r5,R,Nat.reduceEqDiff,ln100]
  refine hJ _ ?_
  refine tk_cond (t:=decide (9 < (Sl.len v8))) rfl (fun g20=>?_) (fun g20=>?_)
  ·replace hm:=cond_t hm g20
   refine tk_os okM hok fun J hJ=>?_
   simp only [C.f53r6,R,Nat.reduceEqDiff]
   refine hJ _ ?_
   refine tk_ret okM ?_
   refine x19 _ _ (by simp) ?_
   obtain rfl:=Option.some.inj hm
   exact end_flat (.inl rfl) (vs:=[(.int .i64 (6))]) (resT' (v:=(.int .i64 (6))) rfl resN) (fm_cons rfl fm_nil)
  ·replace hm:=cond_f hm g20
   refine tk_skip okM ?_
   refine n18 _ ?_
   refine tk_seq_k fun K n21 x22=>?_
   refine tk_os okM hok fun J hJ=>?_
   simp only [C.f53r7,R,Nat.reduceEqDiff]
   refine hJ _ ?_
   refine tk_block_k fun K n23 e24 x25=>?_
   refine tk_loop_k (n:=n) (fun k1 ⟨σ,H,_⟩=>∃ l26 x5_28 b27,b_bo c_u c_h c_k n x0 k1 l26 x5_28 = some r ∧ Lk σ 0 (slV x0 b0) ∧ Lk σ 4 (slV l26 b27) ∧ Lk σ 5 (.int .i64 x5_28) ∧ SlO c.nb H (cInt .i64) 3 l26 b27 ∧ Iv c.nb [] H0 H) ?_ ?_ ?_
   ·exact ⟨v8,0,b11,hm,rfl,rfl,rfl,f13,i14⟩
   ·rintro ⟨σ,H,d⟩ ⟨_,_,_,hm,_⟩
    cases hm
   ·intro k1 K n29 x30
    rintro ⟨σ38,H31,d39⟩ ⟨l26,x5_28,b27,hm,h33,h34,h35,f36,i37⟩
    rw [b_bo.eq_2] at hm
    refine tk_seq_k fun K n40 x41=>?_
    refine tk_os okM hok fun J hJ=>?_
    simp only [C.f53r8,R,Nat.reduceEqDiff,h35,h34,ln100]
    refine hJ _ ?_
    refine tk_cond (t:=decide (x5_28 < (Sl.len l26))) rfl (fun g42=>?_) (fun g42=>?_)
    ·replace hm:=cond_t hm g42
     refine tk_skip okM ?_
     refine n40 _ ?_
     refine tk_seq_k fun K n43 x44=>?_
     refine tk_block_k fun K n45 e46 x47=>?_
     refine tk_os okM hok fun J hJ=>?_
     obtain ⟨j48,ej48,hm⟩:=bind_s hm
     obtain ⟨mm49,k50⟩:=f36.h.blk (ck_lt ej48).1
     have a51:=lds_one (M:=Mt) (t:=3) k50 T.ag3 (seg_sl enc_int.len mm49 (ck_lt ej48).1)
     simp only [C.f53r10,R,Nat.reduceEqDiff,h34,h35,ia100,ej48,a51]
     refine hJ _ ?_
     refine tk_cond (t:=!decide ((Sl.nth l26 j48) = (IntKind.i64.wrap (x5_28 + 1)))) rfl (fun g52=>?_) (fun g52=>?_)
     ·replace hm:=cond_t hm g52
      refine tk_os okM hok fun J hJ=>?_
      simp only [C.f53r11,R,Nat.reduceEqDiff]
      refine hJ _ ?_
      refine tk_ret okM ?_
      refine x47 _ _ (by simp) (by simp) ?_
      refine x44 _ _ (by simp) ?_
      refine x30 _ _ (by simp) ?_
      refine x25 _ _ (by simp) (by simp) ?_
      refine x22 _ _ (by simp) ?_
      obtain rfl:=Option.some.inj hm
      exact end_flat (.inl rfl) (vs:=[(.int .i64 (6))]) (resT' (v:=(.int .i64 (6))) rfl resN) (fm_cons rfl fm_nil)
     ·replace hm:=cond_f hm g52
      refine tk_skip okM ?_
      refine n45 _ ?_
      refine n43 _ ?_
      refine tk_oe okM hok fun J hJ=>?_
      simp only [C.f53r9,R,Nat.reduceEqDiff,h35]
      refine hJ _ ?_
      refine n29 _ ?_
      exact ⟨l26,IntKind.i64.wrap (x5_28 + 1),b27,hm,h33,h34,rfl,f36,i37⟩
    ·replace hm:=cond_f hm g42
     refine tk_exit okM ?_
     refine x41 _ _ (by simp) ?_
     refine x30 _ _ (by simp) ?_
     refine e24 _ ?_
     refine n21 _ ?_
     refine tk_seq_k fun K n53 x54=>?_
     refine tk_os okM hok fun J hJ=>?_
     simp only [C.f53r12,R,Nat.reduceEqDiff]
     refine hJ _ ?_
     refine tk_block_k fun K n55 e56 x57=>?_
     refine tk_loop_k (n:=n) (fun k2 ⟨σ,H,_⟩=>∃ l58 x6_60 b59,b_9 c_u c_h c_k n x0 k2 l58 x6_60 = some r ∧ Lk σ 0 (slV x0 b0) ∧ Lk σ 4 (slV l58 b59) ∧ Lk σ 6 (.int .i64 x6_60) ∧ SlO c.nb H (cInt .i64) 3 l58 b59 ∧ Iv c.nb [] H0 H) ?_ ?_ ?_
     ·exact ⟨l26,0,b27,hm,h33,h34,rfl,f36,i37⟩
     ·rintro ⟨σ,H,d⟩ ⟨_,_,_,hm,_⟩
      cases hm
     ·intro k2 K n61 x62
      rintro ⟨σ70,H63,d71⟩ ⟨l58,x6_60,b59,hm,h65,h66,h67,f68,i69⟩
      rw [b_9.eq_2] at hm
      refine tk_seq_k fun K n72 x73=>?_
      refine tk_os okM hok fun J hJ=>?_
      simp only [C.f53r13,R,Nat.reduceEqDiff,h67,h65,ln39]
      refine hJ _ ?_
      refine tk_cond (t:=decide (x6_60 < (Sl.len x0))) rfl (fun g74=>?_) (fun g74=>?_)
      ·replace hm:=cond_t hm g74
       refine tk_skip okM ?_
       refine n72 _ ?_
       refine tk_seq_k fun K n75 x76=>?_
       refine tk_block_k fun K n77 e78 x79=>?_
       refine tk_os okM hok fun J hJ=>?_
       obtain ⟨j80,ej80,hm⟩:=bind_s hm
       obtain ⟨mm81,k82⟩:=(h0.iv l0 (fun _=>by simp) i69).blk (ck_lt ej80).1
       have a83:=lds_one (M:=Mt) (t:=3) k82 T.ag3 ((seg_sl S_b.enc.len mm81 (ck_lt ej80).1).sub (S_b.seg0 (Sl.nth x0 j80)))
       refine rn_k (fun ⟨σ,H,_⟩=>Lk σ 0 (slV x0 b0) ∧ Lk σ 4 (slV l58 b59) ∧ Lk σ 6 (.int .i64 (x6_60)) ∧ Lk σ 65 (.bool ((decide (((Sl.nth x0 j80).f_Kind) = 12)) && ((decide (((Sl.nth x0 j80).f_N) < 1)) || (decide ((Sl.len l58) < ((Sl.nth x0 j80).f_N)))))) ∧ SlO c.nb H (cInt .i64) 3 l58 b59 ∧ Iv c.nb [] H0 H) (fun J hJ=>?_) ?_
       ·skip
        cases g97:decide (((Sl.nth x0 j80).f_Kind) = 12)
        ·skip
         simp only [C.f53r15,R,Nat.reduceEqDiff,h65,h67,ia39,ej80,fa97_0,a83,g97]
         refine hJ _ ?_
         exact ⟨h65,h66,h67,(by first | rfl | (simp only [g97]; rfl) | simp only [g97,Lk,RB,Nat.reduceEqDiff,not_false_eq_true]),f68,i69⟩
        ·skip
         obtain ⟨mm98,k99⟩:=(h0.iv l0 (fun _=>by simp) i69).blk (ck_lt ej80).1
         have a100:=lds_one (M:=Mt) (t:=3) k99 T.ag3 ((seg_sl S_b.enc.len mm98 (ck_lt ej80).1).sub (S_b.seg7 (Sl.nth x0 j80)))
         cases g104:decide (((Sl.nth x0 j80).f_N) < 1)
         ·skip
          obtain ⟨mm105,k106⟩:=(h0.iv l0 (fun _=>by simp) i69).blk (ck_lt ej80).1
          have a107:=lds_one (M:=Mt) (t:=3) k106 T.ag3 ((seg_sl S_b.enc.len mm105 (ck_lt ej80).1).sub (S_b.seg7 (Sl.nth x0 j80)))
          simp only [C.f53r15,R,Nat.reduceEqDiff,h65,h67,ia39,ej80,fa97_0,a83,g97,fa97_7,a100,g104,a107,h66,ln100]
          refine hJ _ ?_
          exact ⟨h65,h66,h67,(by first | rfl | (simp only [g97,g104]; rfl) | simp only [g97,g104,Lk,RB,Nat.reduceEqDiff,not_false_eq_true]),f68,i69⟩
         ·skip
          simp only [C.f53r15,R,Nat.reduceEqDiff,h65,h67,ia39,ej80,fa97_0,a83,g97,fa97_7,a100,g104]
          refine hJ _ ?_
          exact ⟨h65,h66,h67,(by first | rfl | (simp only [g97,g104]; rfl) | simp only [g97,g104,Lk,RB,Nat.reduceEqDiff,not_false_eq_true]),f68,i69⟩
       rintro ⟨σ108,H90,d109⟩ ⟨h91,h92,h93,h94,f95,i96⟩
       refine hJ _ ?_
       refine tk_cond (t:=(decide (((Sl.nth x0 j80).f_Kind) = 12)) && ((decide (((Sl.nth x0 j80).f_N) < 1)) || (decide ((Sl.len l58) < ((Sl.nth x0 j80).f_N))))) h94 (fun g110=>?_) (fun g110=>?_)
       ·replace hm:=cond_t hm g110
        refine tk_os okM hok fun J hJ=>?_
        simp only [C.f53r16,R,Nat.reduceEqDiff]
        refine hJ _ ?_
        refine tk_ret okM ?_
        refine x79 _ _ (by simp) (by simp) ?_
        refine x76 _ _ (by simp) ?_
        refine x62 _ _ (by simp) ?_
        refine x57 _ _ (by simp) (by simp) ?_
        refine x54 _ _ (by simp) ?_
        obtain rfl:=Option.some.inj hm
        exact end_flat (.inl rfl) (vs:=[(.int .i64 (6))]) (resT' (v:=(.int .i64 (6))) rfl resN) (fm_cons rfl fm_nil)
       ·replace hm:=cond_f hm g110
        refine tk_skip okM ?_
        refine n77 _ ?_
        refine n75 _ ?_
        refine tk_oe okM hok fun J hJ=>?_
        simp only [C.f53r14,R,Nat.reduceEqDiff,h93]
        refine hJ _ ?_
        refine n61 _ ?_
        exact ⟨l58,IntKind.i64.wrap (x6_60 + 1),b59,hm,h91,h92,rfl,f95,i96⟩
      ·replace hm:=cond_f hm g74
       refine tk_exit okM ?_
       refine x73 _ _ (by simp) ?_
       refine x62 _ _ (by simp) ?_
       refine e56 _ ?_
       refine n53 _ ?_
       refine tk_seq_k fun K n111 x112=>?_
       refine tk_os okM hok fun J hJ=>?_
       simp only [C.f53r17,R,Nat.reduceEqDiff]
       refine hJ _ ?_
       refine tk_block_k fun K n113 e114 x115=>?_
       refine tk_loop_k (n:=n) (fun k3 ⟨σ,H,_⟩=>∃ x7_116,b_U c_u c_h c_k n x0 k3 x7_116 = some r ∧ Lk σ 0 (slV x0 b0) ∧ Lk σ 7 (.int .i64 x7_116) ∧ Iv c.nb [] H0 H) ?_ ?_ ?_
       ·exact ⟨0,hm,h65,rfl,i69⟩
       ·rintro ⟨σ,H,d⟩ ⟨_,hm,_⟩
        cases hm
       ·intro k3 K n117 x118
        rintro ⟨σ123,H119,d124⟩ ⟨x7_116,hm,h120,h121,i122⟩
        rw [b_U.eq_2] at hm
        refine tk_seq_k fun K n125 x126=>?_
        refine tk_os okM hok fun J hJ=>?_
        simp only [C.f53r18,R,Nat.reduceEqDiff,h121,h120,ln39]
        refine hJ _ ?_
        refine tk_cond (t:=decide (x7_116 < (Sl.len x0))) rfl (fun g127=>?_) (fun g127=>?_)
        ·replace hm:=cond_t hm g127
         refine tk_skip okM ?_
         refine n125 _ ?_
         refine tk_seq_j (fun ⟨σ,H,_⟩=>∃ x7_128,b_bE c_u c_h c_k n (b_U c_u c_h c_k n x0 k3) x0 x7_128 = some r ∧ Lk σ 0 (slV x0 b0) ∧ Lk σ 7 (.int .i64 x7_128) ∧ Iv c.nb [] H0 H) ?_ ?_
         ·skip
          rintro ⟨σ133,H129,d134⟩ ⟨x7_128,hm,h130,h131,i132⟩
          rw [b_bE] at hm
          refine tk_oe okM hok fun J hJ=>?_
          simp only [C.f53r19,R,Nat.reduceEqDiff,h131]
          refine hJ _ ?_
          refine n117 _ ?_
          exact ⟨IntKind.i64.wrap (x7_128 + 1),hm,h130,rfl,i132⟩
         ·refine fun K n135 x136=>?_
          refine tk_block_k fun K n137 e138 x139=>?_
          refine tk_os okM hok fun J hJ=>?_
          obtain ⟨j140,ej140,hm⟩:=bind_s hm
          obtain ⟨mm141,k142⟩:=(h0.iv l0 (fun _=>by simp) i122).blk (ck_lt ej140).1
          have a143:=lds_one (M:=Mt) (t:=3) k142 T.ag3 ((seg_sl S_b.enc.len mm141 (ck_lt ej140).1).sub (S_b.seg0 (Sl.nth x0 j140)))
          refine rn_k (fun ⟨σ,H,_⟩=>Lk σ 0 (slV x0 b0) ∧ Lk σ 7 (.int .i64 (x7_116)) ∧ Lk σ 85 (.bool ((decide (((Sl.nth x0 j140).f_Kind) = 15)) || (decide (((Sl.nth x0 j140).f_Kind) = 16)))) ∧ Iv c.nb [] H0 H) (fun J hJ=>?_) ?_
          ·skip
           cases g152:decide (((Sl.nth x0 j140).f_Kind) = 15)
           ·skip
            obtain ⟨mm153,k154⟩:=(h0.iv l0 (fun _=>by simp) i122).blk (ck_lt ej140).1
            have a155:=lds_one (M:=Mt) (t:=3) k154 T.ag3 ((seg_sl S_b.enc.len mm153 (ck_lt ej140).1).sub (S_b.seg0 (Sl.nth x0 j140)))
            simp only [C.f53r20,R,Nat.reduceEqDiff,h120,h121,ia39,ej140,fa97_0,a143,g152,a155]
            refine hJ _ ?_
            exact ⟨h120,h121,(by first | rfl | (simp only [g152]; rfl) | simp only [g152,Lk,RB,Nat.reduceEqDiff,not_false_eq_true]),i122⟩
           ·skip
            simp only [C.f53r20,R,Nat.reduceEqDiff,h120,h121,ia39,ej140,fa97_0,a143,g152]
            refine hJ _ ?_
            exact ⟨h120,h121,(by first | rfl | (simp only [g152]; rfl) | simp only [g152,Lk,RB,Nat.reduceEqDiff,not_false_eq_true]),i122⟩
          rintro ⟨σ156,H147,d157⟩ ⟨h148,h149,h150,i151⟩
          refine hJ _ ?_
          refine tk_cond (t:=(decide (((Sl.nth x0 j140).f_Kind) = 15)) || (decide (((Sl.nth x0 j140).f_Kind) = 16))) h150 (fun g158=>?_) (fun g158=>?_)
          ·replace hm:=cond_t hm g158
           refine tk_os okM hok fun J hJ=>?_
           obtain ⟨mm159,k160⟩:=(h0.iv l0 (fun _=>by simp) i151).blk (ck_lt ej140).1
           have a161:=lds_one (M:=Mt) (t:=3) k160 T.ag3 ((seg_sl S_b.enc.len mm159 (ck_lt ej140).1).sub (S_b.seg1 (Sl.nth x0 j140)))
           obtain ⟨v163,ev163,hm⟩:=bind_s hm
           have a162:=z_b6 c.ro H147 x0 b0 ((Sl.nth x0 j140).f_A) v163 (h0.iv l0 (fun _=>by simp) i151) ev163
           simp only [C.f53r21,R,Nat.reduceEqDiff,h148,h149,ia39,ej140,fa97_1,a161,c_fn F82,a162]
           refine hJ _ ?_
           refine tk_os okM hok fun J hJ=>?_
           refine rn_k (fun ⟨σ,H,_⟩=>Lk σ 0 (slV x0 b0) ∧ Lk σ 7 (.int .i64 (x7_116)) ∧ Lk σ 102 (.bool ((!decide (v163.1 = v163.2)) || (decide (255 < v163.1)))) ∧ Iv c.nb [] H0 H) (fun J hJ=>?_) ?_
           ·skip
            cases g169:!decide (v163.1 = v163.2)
            ·skip
             simp only [C.f53r22,R,Nat.reduceEqDiff,g169]
             refine hJ _ ?_
             exact ⟨h148,h149,(by first | rfl | (simp only [g169]; rfl) | simp only [g169,Lk,RB,Nat.reduceEqDiff,not_false_eq_true]),i151⟩
            ·skip
             simp only [C.f53r22,R,Nat.reduceEqDiff,g169]
             refine hJ _ ?_
             exact ⟨h148,h149,(by first | rfl | (simp only [g169]; rfl) | simp only [g169,Lk,RB,Nat.reduceEqDiff,not_false_eq_true]),i151⟩
           rintro ⟨σ170,H164,d171⟩ ⟨h165,h166,h167,i168⟩
           refine hJ _ ?_
           refine tk_cond (t:=(!decide (v163.1 = v163.2)) || (decide (255 < v163.1))) h167 (fun g172=>?_) (fun g172=>?_)
           ·replace hm:=cond_t hm g172
            refine tk_os okM hok fun J hJ=>?_
            simp only [C.f53r23,R,Nat.reduceEqDiff]
            refine hJ _ ?_
            refine tk_ret okM ?_
            refine x139 _ _ (by simp) (by simp) ?_
            refine x136 _ _ (by simp) ?_
            refine x118 _ _ (by simp) ?_
            refine x115 _ _ (by simp) (by simp) ?_
            refine x112 _ _ (by simp) ?_
            obtain rfl:=Option.some.inj hm
            exact end_flat (.inl rfl) (vs:=[(.int .i64 (7))]) (resT' (v:=(.int .i64 (7))) rfl resN) (fm_cons rfl fm_nil)
           ·replace hm:=cond_f hm g172
            refine tk_skip okM ?_
            refine n137 _ ?_
            refine n135 _ ?_
            exact ⟨x7_116,hm,h165,h166,i168⟩
          ·replace hm:=cond_f hm g158
           refine tk_skip okM ?_
           refine n137 _ ?_
           refine n135 _ ?_
           exact ⟨x7_116,hm,h148,h149,i151⟩
        ·replace hm:=cond_f hm g127
         refine tk_exit okM ?_
         refine x126 _ _ (by simp) ?_
         refine x118 _ _ (by simp) ?_
         refine e114 _ ?_
         refine n111 _ ?_
         refine tk_os okM hok fun J hJ=>?_
         simp only [C.f53r24,R,Nat.reduceEqDiff]
         refine hJ _ ?_
         refine tk_ret okM ?_
         obtain rfl:=Option.some.inj hm
         exact end_flat (.inl rfl) (vs:=[(.int .i64 (0))]) (resT' (v:=(.int .i64 (0))) rfl resN) (fm_cons rfl fm_nil)
end Go.Proofs.YtaadjlpfdajggaaGreatDoor
