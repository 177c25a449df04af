import Derived.Test.YtaadjlpfdajggaaGreatDoorFhBase
set_option maxRecDepth 100000
set_option linter.unusedVariables false
set_option linter.unusedSimpArgs false
namespace Go.Proofs.YtaadjlpfdajggaaGreatDoor
open Go Go.AM
attribute [local congr] bind_first map_first
def b_em (c_cr:T_c4) (n:Nat):Option (S_d):=(c_cr S_d.zero).bind fun v12=>some v12
theorem w_gG {call:CallF} (hok:CallOk Mt call) {n:Nat} {c_cr:T_c4} (z_fy:A_d8 call c_cr) {H0:Hp} {r:S_d} {ro:Nat} (hro:ro ≤ H0.length) (hm:b_em c_cr n = some r) :
  Pt Mt ro 88 [] H0 (vAgg (S_d.c (r))) H0 []:=by
 refine pt_new0 okM F88d (by exact Nat.le_of_ble_eq_true rfl) ?_ hro
 intro c hnt hnb hcr
 have hcn:c.ro ≤ c.nb:=by omega
 have iv:Iv c.nb [] H0 H0:=by rw [hnb]; exact iv_refl
 rw [show args0 [] = [] from rfl]
 rw [b_em] at hm
 simp only [C.f88]
 refine tk_os okM hok fun J hJ=>?_
 obtain ⟨b1,H2,a3,f4,q5,r6,x7,i8⟩:=al_ok H0 25 (S_d.c S_d.zero) iv.le
 have i9:=i8 _ _ iv
 simp only [C.f88r0,R,Nat.reduceEqDiff,zs25,a3]
 refine hJ _ ?_
 refine tk_os okM hok fun J hJ=>?_
 obtain ⟨v12,ev12,hm⟩:=bind_s hm
 have a11:=z_fy c.ro H2 S_d.zero v12 ev12
 obtain ⟨H13,a14,f15,u16⟩:=st_ok (M:=Mt) (t:=25) (v:=(vAgg (S_d.c (v12)))) (c:=S_d.c v12) (cs':=S_d.c v12) f4 (by rw [S_d.enc.len]; exact T.sz25) vAgg_cells (S_d.enc.one _) (Nat.le_trans hcn r6) (le0 S_d.enc.len) (wrs_all (eqL S_d.enc.len))
 have i17:=i9.up u16 r6
 simp only [C.f88r1,R,Nat.reduceEqDiff,bd25_,c_fn F113,a11,a14]
 refine hJ _ ?_
 refine tk_ret okM ?_
 obtain rfl:=Option.some.inj hm
 exact end_flat (.inl rfl) (vs:=[(vAgg (S_d.c (v12)))]) (resC' (v:=(vAgg (S_d.c (v12)))) rfl (ldv_of (ld_agg (M:=Mt) (t:=25) f15 T.ag25 (by rw [S_d.enc.len]; exact T.sz25) Seg.refl)) resN) (fm_cons (flat_agg S_d.enc _) fm_nil)
def b_cg (c_y:T_bi) (c_B:T_br) (n:Nat) (x143:S_a) (x144:S_a):Option (S_a):=(c_B x144).bind fun v155=>some v155
def b_cf (c_y:T_bi) (c_B:T_br) (n:Nat) (x127:S_a) (x128:S_a) (x129:S_a) (x130:S_a):Option (S_a):=bif x127.f_whole then ((sadd x130.f_Facts.f_Prefix x128.f_Facts.f_Prefix).bind fun v168=>b_cg c_y c_B n x129 ({ x130 with f_Facts:={ x130.f_Facts with f_Prefix:=v168 } })) else (b_cg c_y c_B n x129 x130)
def b_dt (c_y:T_bi) (c_B:T_br) (n:Nat) (x0:S_a) (x1:S_a):Option (S_a):=bif x0.f_Facts.f_Open then ((c_y (((({ S_a.zero with f_Facts:=({ S_c.zero with f_First:=x0.f_Facts.f_First,f_Open:=x0.f_Facts.f_Open && x1.f_Facts.f_Open,f_Fast:=x0.f_Facts.f_Fast || (x1.f_Facts.f_Fast && x0.f_none),f_Prefix:=x0.f_Facts.f_Prefix }:S_c),f_whole:=x0.f_whole && x1.f_whole,f_none:=x0.f_none && x1.f_none }:S_a)).f_Facts).f_First) x1.f_Facts.f_First).bind fun v183=>b_cf c_y c_B n x0 x1 S_a.zero (S_a.w0 (({ S_a.zero with f_Facts:=({ S_c.zero with f_First:=x0.f_Facts.f_First,f_Open:=x0.f_Facts.f_Open && x1.f_Facts.f_Open,f_Fast:=x0.f_Facts.f_Fast || (x1.f_Facts.f_Fast && x0.f_none),f_Prefix:=x0.f_Facts.f_Prefix }:S_c),f_whole:=x0.f_whole && x1.f_whole,f_none:=x0.f_none && x1.f_none }:S_a)) (S_c.w0 ((({ S_a.zero with f_Facts:=({ S_c.zero with f_First:=x0.f_Facts.f_First,f_Open:=x0.f_Facts.f_Open && x1.f_Facts.f_Open,f_Fast:=x0.f_Facts.f_Fast || (x1.f_Facts.f_Fast && x0.f_none),f_Prefix:=x0.f_Facts.f_Prefix }:S_c),f_whole:=x0.f_whole && x1.f_whole,f_none:=x0.f_none && x1.f_none }:S_a)).f_Facts) v183))) else (b_cf c_y c_B n x0 x1 S_a.zero (({ S_a.zero with f_Facts:=({ S_c.zero with f_First:=x0.f_Facts.f_First,f_Open:=x0.f_Facts.f_Open && x1.f_Facts.f_Open,f_Fast:=x0.f_Facts.f_Fast || (x1.f_Facts.f_Fast && x0.f_none),f_Prefix:=x0.f_Facts.f_Prefix }:S_c),f_whole:=x0.f_whole && x1.f_whole,f_none:=x0.f_none && x1.f_none }:S_a)))
theorem w_gI {call:CallF} (hok:CallOk Mt call) {n:Nat} {c_y:T_bi} (z_c9:A_df call c_y) {c_B:T_br} (z_eS:A_dE call c_B) {H0:Hp} {x0:S_a} {x1:S_a} {r:S_a} {ro:Nat} (hro:ro ≤ H0.length) (hm:b_dt c_y c_B n x0 x1 = some r) :
  Pt Mt ro 89 [(vAgg (S_a.c x0)),(vAgg (S_a.c x1))] H0 (vAgg (S_a.c (r))) H0 []:=by
 refine pt_new0 okM F89d (by exact Nat.le_of_ble_eq_true rfl) ?_ hro
 intro c hnt hnb hcr
 have hcn:c.ro ≤ c.nb:=by omega
 have iv:Iv c.nb [] H0 H0:=by rw [hnb]; exact iv_refl
 rw [show args0 [(vAgg (S_a.c x0)),(vAgg (S_a.c x1))] = [(0,(vAgg (S_a.c x0))),(1,(vAgg (S_a.c x1)))] from rfl]
 rw [b_dt] at hm
 simp only [C.f89]
 refine tk_os okM hok fun J hJ=>?_
 obtain ⟨b1,H2,a3,f4,q5,r6,x7,i8⟩:=bx_ok (M:=Mt) (t:=107) (u:=(vAgg (S_a.c (x0)))) (cs:=S_a.c x0) H0 iv.le (by rw [S_a.enc.len]; exact T.sz107) vAgg_cells (S_a.enc.one _)
 have i9:=i8 _ _ iv
 obtain ⟨b11,H12,a13,f14,q15,r16,x17,i18⟩:=bx_ok (M:=Mt) (t:=107) (u:=(vAgg (S_a.c (x1)))) (cs:=S_a.c x1) H2 i9.le (by rw [S_a.enc.len]; exact T.sz107) vAgg_cells (S_a.enc.one _)
 have i19:=i18 _ _ i9
 have f20:=x17 _ _ f4
 obtain ⟨b22,H23,a24,f25,q26,r27,x28,i29⟩:=al_ok H12 107 (S_a.c S_a.zero) i19.le
 have i30:=i29 _ _ i19
 have f31:=x28 _ _ f20
 have f32:=x28 _ _ f14
 simp only [C.f89r0,R,Nat.reduceEqDiff,a3,a13,zs107,a24]
 refine hJ _ ?_
 refine tk_os okM hok fun J hJ=>?_
 rw [C.f89r1]
 have a34:=ld_agg (M:=Mt) (t:=25) f31 T.ag25 (by rw [S_d.enc.len]; exact T.sz25) ((Seg.refl.sub (S_a.seg0 x0)).sub (S_c.seg0 x0.f_Facts))
 have a35:=ld_one (M:=Mt) (t:=4) f31 T.ag4 ((Seg.refl.sub (S_a.seg0 x0)).sub (S_c.seg1 x0.f_Facts))
 refine rn_app_k (fun ⟨σ,H,_⟩=>Lk σ 2 (.pointer (some ⟨b1,0,none⟩)) ∧ Lk σ 3 (.pointer (some ⟨b11,0,none⟩)) ∧ Lk σ 4 (.pointer (some ⟨b22,0,none⟩)) ∧ Lk σ 8 (vAgg (S_d.c (x0.f_Facts.f_First))) ∧ Lk σ 16 (.bool (x0.f_Facts.f_Open && x1.f_Facts.f_Open)) ∧ H[b1]? = some (.cells (S_a.c x0) 107) ∧ H[b11]? = some (.cells (S_a.c x1) 107) ∧ H[b22]? = some (.cells (S_a.c S_a.zero) 107) ∧ Iv c.nb [] H0 H) (fun J hJ=>?_) ?_
 ·skip
  cases g47:x0.f_Facts.f_Open
  ·skip
   simp only [C.f89r1p0,R,Nat.reduceEqDiff,fa107_0,fa54_0,a34,fa54_1,a35,g47]
   refine hJ _ ?_
   exact ⟨rfl,rfl,rfl,(by first | rfl | (simp only [g47]; rfl) | simp only [g47,Lk,RB,Nat.reduceEqDiff,not_false_eq_true]),(by first | rfl | (simp only [g47]; rfl) | simp only [g47,Lk,RB,Nat.reduceEqDiff,not_false_eq_true]),f31,f32,f25,i30⟩
  ·skip
   have a48:=ld_one (M:=Mt) (t:=4) f32 T.ag4 ((Seg.refl.sub (S_a.seg0 x1)).sub (S_c.seg1 x1.f_Facts))
   simp only [C.f89r1p0,R,Nat.reduceEqDiff,fa107_0,fa54_0,a34,fa54_1,a35,g47,a48]
   refine hJ _ ?_
   exact ⟨rfl,rfl,rfl,(by first | rfl | (simp only [g47]; rfl) | simp only [g47,Lk,RB,Nat.reduceEqDiff,not_false_eq_true]),(by first | rfl | (simp only [g47]; rfl) | simp only [g47,Lk,RB,Nat.reduceEqDiff,not_false_eq_true]),f31,f32,f25,i30⟩
 rintro ⟨σ49,H37,d50⟩ ⟨h38,h39,h40,h41,h42,f43,f44,f45,i46⟩
 have a51:=ld_one (M:=Mt) (t:=4) f43 T.ag4 ((Seg.refl.sub (S_a.seg0 x0)).sub (S_c.seg2 x0.f_Facts))
 refine rn_app_k (fun ⟨σ,H,_⟩=>Lk σ 2 (.pointer (some ⟨b1,0,none⟩)) ∧ Lk σ 3 (.pointer (some ⟨b11,0,none⟩)) ∧ Lk σ 4 (.pointer (some ⟨b22,0,none⟩)) ∧ Lk σ 8 (vAgg (S_d.c (x0.f_Facts.f_First))) ∧ Lk σ 16 (.bool (x0.f_Facts.f_Open && x1.f_Facts.f_Open)) ∧ Lk σ 28 (.bool (x0.f_Facts.f_Fast || (x1.f_Facts.f_Fast && x0.f_none))) ∧ H[b1]? = some (.cells (S_a.c x0) 107) ∧ H[b11]? = some (.cells (S_a.c x1) 107) ∧ H[b22]? = some (.cells (S_a.c S_a.zero) 107) ∧ Iv c.nb [] H0 H) (fun J hJ=>?_) ?_
 ·skip
  cases g65:x0.f_Facts.f_Fast
  ·skip
   have a66:=ld_one (M:=Mt) (t:=4) f44 T.ag4 ((Seg.refl.sub (S_a.seg0 x1)).sub (S_c.seg2 x1.f_Facts))
   cases g68:x1.f_Facts.f_Fast
   ·skip
    simp only [C.f89r1p1,R,Nat.reduceEqDiff,fa107_0,h38,fa54_2,a51,g65,h39,a66,g68]
    refine hJ _ ?_
    exact ⟨h38,h39,h40,h41,h42,(by first | rfl | (simp only [g65,g68]; rfl) | simp only [g65,g68,Lk,RB,Nat.reduceEqDiff,not_false_eq_true]),f43,f44,f45,i46⟩
   ·skip
    have a69:=ld_one (M:=Mt) (t:=4) f43 T.ag4 (Seg.refl.sub (S_a.seg2 x0))
    simp only [C.f89r1p1,R,Nat.reduceEqDiff,fa107_0,h38,fa54_2,a51,g65,h39,a66,g68,fa107_2,a69]
    refine hJ _ ?_
    exact ⟨h38,h39,h40,h41,h42,(by first | rfl | (simp only [g65,g68]; rfl) | simp only [g65,g68,Lk,RB,Nat.reduceEqDiff,not_false_eq_true]),f43,f44,f45,i46⟩
  ·skip
   simp only [C.f89r1p1,R,Nat.reduceEqDiff,fa107_0,h38,fa54_2,a51,g65]
   refine hJ _ ?_
   exact ⟨h38,h39,h40,h41,h42,(by first | rfl | (simp only [g65]; rfl) | simp only [g65,Lk,RB,Nat.reduceEqDiff,not_false_eq_true]),f43,f44,f45,i46⟩
 rintro ⟨σ70,H54,d71⟩ ⟨h55,h56,h57,h58,h59,h60,f61,f62,f63,i64⟩
 have a72:=ld_one (M:=Mt) (t:=9) f61 T.ag9 ((Seg.refl.sub (S_a.seg0 x0)).sub (S_c.seg3 x0.f_Facts))
 have a73:=ld_one (M:=Mt) (t:=4) f61 T.ag4 (Seg.refl.sub (S_a.seg1 x0))
 refine rn_app_k (fun ⟨σ,H,_⟩=>Lk σ 2 (.pointer (some ⟨b1,0,none⟩)) ∧ Lk σ 3 (.pointer (some ⟨b11,0,none⟩)) ∧ Lk σ 4 (.pointer (some ⟨b22,0,none⟩)) ∧ Lk σ 32 (vAgg (S_c.c (({ S_c.zero with f_First:=x0.f_Facts.f_First,f_Open:=x0.f_Facts.f_Open && x1.f_Facts.f_Open,f_Fast:=x0.f_Facts.f_Fast || (x1.f_Facts.f_Fast && x0.f_none),f_Prefix:=x0.f_Facts.f_Prefix }:S_c)))) ∧ Lk σ 38 (.bool (x0.f_whole && x1.f_whole)) ∧ H[b1]? = some (.cells (S_a.c x0) 107) ∧ H[b11]? = some (.cells (S_a.c x1) 107) ∧ H[b22]? = some (.cells (S_a.c S_a.zero) 107) ∧ Iv c.nb [] H0 H) (fun J hJ=>?_) ?_
 ·skip
  cases g85:x0.f_whole
  ·skip
   simp only [C.f89r1p2,R,Nat.reduceEqDiff,fa107_0,h55,fa54_3,a72,bd54_0_1_2_3,h58,h59,h60,fa107_1,a73,g85]
   refine hJ _ ?_
   exact ⟨h55,h56,h57,(by first | rfl | (simp only [g85]; rfl) | simp only [g85,Lk,RB,Nat.reduceEqDiff,not_false_eq_true]),(by first | rfl | (simp only [g85]; rfl) | simp only [g85,Lk,RB,Nat.reduceEqDiff,not_false_eq_true]),f61,f62,f63,i64⟩
  ·skip
   have a86:=ld_one (M:=Mt) (t:=4) f62 T.ag4 (Seg.refl.sub (S_a.seg1 x1))
   simp only [C.f89r1p2,R,Nat.reduceEqDiff,fa107_0,h55,fa54_3,a72,bd54_0_1_2_3,h58,h59,h60,fa107_1,a73,g85,h56,a86]
   refine hJ _ ?_
   exact ⟨h55,h56,h57,(by first | rfl | (simp only [g85]; rfl) | simp only [g85,Lk,RB,Nat.reduceEqDiff,not_false_eq_true]),(by first | rfl | (simp only [g85]; rfl) | simp only [g85,Lk,RB,Nat.reduceEqDiff,not_false_eq_true]),f61,f62,f63,i64⟩
 rintro ⟨σ87,H75,d88⟩ ⟨h76,h77,h78,h79,h80,f81,f82,f83,i84⟩
 have a89:=ld_one (M:=Mt) (t:=4) f81 T.ag4 (Seg.refl.sub (S_a.seg2 x0))
 refine rn_app_k (fun ⟨σ,H,_⟩=>Lk σ 2 (.pointer (some ⟨b1,0,none⟩)) ∧ Lk σ 3 (.pointer (some ⟨b11,0,none⟩)) ∧ Lk σ 4 (.pointer (some ⟨b22,0,none⟩)) ∧ Lk σ 32 (vAgg (S_c.c (({ S_c.zero with f_First:=x0.f_Facts.f_First,f_Open:=x0.f_Facts.f_Open && x1.f_Facts.f_Open,f_Fast:=x0.f_Facts.f_Fast || (x1.f_Facts.f_Fast && x0.f_none),f_Prefix:=x0.f_Facts.f_Prefix }:S_c)))) ∧ Lk σ 38 (.bool (x0.f_whole && x1.f_whole)) ∧ Lk σ 44 (.bool (x0.f_none && x1.f_none)) ∧ H[b1]? = some (.cells (S_a.c x0) 107) ∧ H[b11]? = some (.cells (S_a.c x1) 107) ∧ H[b22]? = some (.cells (S_a.c S_a.zero) 107) ∧ Iv c.nb [] H0 H) (fun J hJ=>?_) ?_
 ·skip
  cases g102:x0.f_none
  ·skip
   simp only [C.f89r1p3,R,Nat.reduceEqDiff,fa107_2,h76,a89,g102]
   refine hJ _ ?_
   exact ⟨h76,h77,h78,h79,h80,(by first | rfl | (simp only [g102]; rfl) | simp only [g102,Lk,RB,Nat.reduceEqDiff,not_false_eq_true]),f81,f82,f83,i84⟩
  ·skip
   have a103:=ld_one (M:=Mt) (t:=4) f82 T.ag4 (Seg.refl.sub (S_a.seg2 x1))
   simp only [C.f89r1p3,R,Nat.reduceEqDiff,fa107_2,h76,a89,g102,h77,a103]
   refine hJ _ ?_
   exact ⟨h76,h77,h78,h79,h80,(by first | rfl | (simp only [g102]; rfl) | simp only [g102,Lk,RB,Nat.reduceEqDiff,not_false_eq_true]),f81,f82,f83,i84⟩
 rintro ⟨σ104,H91,d105⟩ ⟨h92,h93,h94,h95,h96,h97,f98,f99,f100,i101⟩
 obtain ⟨b106,H107,a108,f109,q110,r111,x112,i113⟩:=al_ok H91 107 (S_a.c S_a.zero) i101.le
 have i114:=i113 _ _ i101
 have f115:=x112 _ _ f98
 have f116:=x112 _ _ f99
 have f117:=x112 _ _ f100
 obtain ⟨H119,a120,f121,u122⟩:=st_ok (M:=Mt) (t:=107) (v:=(vAgg (S_a.c (({ S_a.zero with f_Facts:=({ S_c.zero with f_First:=x0.f_Facts.f_First,f_Open:=x0.f_Facts.f_Open && x1.f_Facts.f_Open,f_Fast:=x0.f_Facts.f_Fast || (x1.f_Facts.f_Fast && x0.f_none),f_Prefix:=x0.f_Facts.f_Prefix }:S_c),f_whole:=x0.f_whole && x1.f_whole,f_none:=x0.f_none && x1.f_none }:S_a))))) (c:=S_a.c (({ S_a.zero with f_Facts:=({ S_c.zero with f_First:=x0.f_Facts.f_First,f_Open:=x0.f_Facts.f_Open && x1.f_Facts.f_Open,f_Fast:=x0.f_Facts.f_Fast || (x1.f_Facts.f_Fast && x0.f_none),f_Prefix:=x0.f_Facts.f_Prefix }:S_c),f_whole:=x0.f_whole && x1.f_whole,f_none:=x0.f_none && x1.f_none }:S_a))) (cs':=S_a.c (({ S_a.zero with f_Facts:=({ S_c.zero with f_First:=x0.f_Facts.f_First,f_Open:=x0.f_Facts.f_Open && x1.f_Facts.f_Open,f_Fast:=x0.f_Facts.f_Fast || (x1.f_Facts.f_Fast && x0.f_none),f_Prefix:=x0.f_Facts.f_Prefix }:S_c),f_whole:=x0.f_whole && x1.f_whole,f_none:=x0.f_none && x1.f_none }:S_a))) f109 (by rw [S_a.enc.len]; exact T.sz107) vAgg_cells (S_a.enc.one _) (Nat.le_trans hcn r111) (le0 S_a.enc.len) (wrs_all (eqL S_a.enc.len))
 have i123:=i114.up u122 r111
 have f124:=(u122.get _ (ne_len f98 q110)).trans f115
 have f125:=(u122.get _ (ne_len f99 q110)).trans f116
 have f126:=(u122.get _ (ne_len f100 q110)).trans f117
 simp only [C.f89r1p4,R,Nat.reduceEqDiff,bd107_0_1_2,h95,h96,h97,zs107,a108,a120]
 refine hJ _ ?_
 refine tk_seq_j (fun ⟨σ,H,_⟩=>∃ x127 x128 x129 x130,b_cf c_y c_B n x127 x128 x129 x130 = some r ∧ Lk σ 2 (.pointer (some ⟨b1,0,none⟩)) ∧ Lk σ 3 (.pointer (some ⟨b11,0,none⟩)) ∧ Lk σ 4 (.pointer (some ⟨b22,0,none⟩)) ∧ Lk σ 5 (.pointer (some ⟨b106,0,none⟩)) ∧ H[b1]? = some (.cells (S_a.c x127) 107) ∧ H[b11]? = some (.cells (S_a.c x128) 107) ∧ H[b22]? = some (.cells (S_a.c x129) 107) ∧ H[b106]? = some (.cells (S_a.c x130) 107) ∧ Iv c.nb [] H0 H) ?_ ?_
 ·skip
  rintro ⟨σ141,H131,d142⟩ ⟨x127,x128,x129,x130,hm,h132,h133,h134,h135,f136,f137,f138,f139,i140⟩
  rw [b_cf] at hm
  refine tk_seq_j (fun ⟨σ,H,_⟩=>∃ x143 x144,b_cg c_y c_B n x143 x144 = some r ∧ Lk σ 4 (.pointer (some ⟨b22,0,none⟩)) ∧ Lk σ 5 (.pointer (some ⟨b106,0,none⟩)) ∧ H[b22]? = some (.cells (S_a.c x143) 107) ∧ H[b106]? = some (.cells (S_a.c x144) 107) ∧ Iv c.nb [] H0 H) ?_ ?_
  ·skip
   rintro ⟨σ151,H145,d152⟩ ⟨x143,x144,hm,h146,h147,f148,f149,i150⟩
   rw [b_cg] at hm
   refine tk_os okM hok fun J hJ=>?_
   have a153:=ld_agg (M:=Mt) (t:=107) f149 T.ag107 (by rw [S_a.enc.len]; exact T.sz107) Seg.refl
   obtain ⟨v155,ev155,hm⟩:=bind_s hm
   have a154:=z_eS c.ro H145 x144 v155 ev155
   obtain ⟨H156,a157,f158,u159⟩:=st_ok (M:=Mt) (t:=107) (v:=(vAgg (S_a.c (v155)))) (c:=S_a.c v155) (cs':=S_a.c v155) f148 (by rw [S_a.enc.len]; exact T.sz107) vAgg_cells (S_a.enc.one _) (Nat.le_trans hcn r27) (le0 S_a.enc.len) (wrs_all (eqL S_a.enc.len))
   have i160:=i150.up u159 r27
   have f161:=(u159.get _ (ne_len f100 q110).symm).trans f149
   simp only [C.f89r6,R,Nat.reduceEqDiff,a153,h147,c_fn F121,a154,a157,h146]
   refine hJ _ ?_
   refine tk_ret okM ?_
   obtain rfl:=Option.some.inj hm
   exact end_flat (.inl rfl) (vs:=[(vAgg (S_a.c (v155)))]) (resC' (v:=(vAgg (S_a.c (v155)))) h146 (ldv_of (ld_agg (M:=Mt) (t:=107) f158 T.ag107 (by rw [S_a.enc.len]; exact T.sz107) Seg.refl)) resN) (fm_cons (flat_agg S_a.enc _) fm_nil)
  ·refine fun K n162 x163=>?_
   refine tk_os okM hok fun J hJ=>?_
   have a164:=ld_one (M:=Mt) (t:=4) f136 T.ag4 (Seg.refl.sub (S_a.seg1 x127))
   simp only [C.f89r4,R,Nat.reduceEqDiff,fa107_1,h132,a164]
   refine hJ _ ?_
   refine tk_cond (t:=x127.f_whole) rfl (fun g165=>?_) (fun g165=>?_)
   ·replace hm:=cond_t hm g165
    refine tk_oe okM hok fun J hJ=>?_
    have a166:=ld_one (M:=Mt) (t:=9) f139 T.ag9 ((Seg.refl.sub (S_a.seg0 x130)).sub (S_c.seg3 x130.f_Facts))
    have a167:=ld_one (M:=Mt) (t:=9) f137 T.ag9 ((Seg.refl.sub (S_a.seg0 x128)).sub (S_c.seg3 x128.f_Facts))
    obtain ⟨v168,ev168,hm⟩:=bind_s hm
    obtain ⟨H169,a170,f171,u172⟩:=st_ok (M:=Mt) (t:=9) (v:=(.string (v168))) (c:=cStr v168) (cs':=S_a.c ({ x130 with f_Facts:={ x130.f_Facts with f_Prefix:=v168 } })) f139 (by rw [enc_str.len]; exact T.sz9) rfl (enc_str.one _) (Nat.le_trans hcn r111) (Nat.le_trans (Nat.le_of_eq (congrArg _ (eqL enc_str.len))) ((Seg.refl.sub (S_a.seg0 x130)).sub (S_c.seg3 x130.f_Facts)).2) (by rw [wrs_in (Seg.refl.sub (S_a.seg0 x130)) (by have:=trivial; simp only [enc_str.len,S_c.enc.len]; omega),S_c.wr3 x130.f_Facts v168,Nat.zero_add,S_a.wr0 x130 ({ x130.f_Facts with f_Prefix:=v168 })])
    have i173:=i140.up u172 r111
    have f174:=(u172.get _ (ne_len f99 q110)).trans f137
    have f175:=(u172.get _ (ne_len f100 q110)).trans f138
    simp only [C.f89r5,R,Nat.reduceEqDiff,fa107_0,h135,fa54_3,a166,h133,a167,ev168,a170]
    refine hJ _ ?_
    refine n162 _ ?_
    exact ⟨x129,{ x130 with f_Facts:={ x130.f_Facts with f_Prefix:=v168 } },hm,h134,h135,f175,f171,i173⟩
   ·replace hm:=cond_f hm g165
    refine tk_skip okM ?_
    refine n162 _ ?_
    exact ⟨x129,x130,hm,h134,h135,f138,f139,i140⟩
 ·refine fun K n176 x177=>?_
  refine tk_os okM hok fun J hJ=>?_
  have a178:=ld_one (M:=Mt) (t:=4) f124 T.ag4 ((Seg.refl.sub (S_a.seg0 x0)).sub (S_c.seg1 x0.f_Facts))
  simp only [C.f89r2,R,Nat.reduceEqDiff,fa107_0,h92,fa54_1,a178]
  refine hJ _ ?_
  refine tk_cond (t:=x0.f_Facts.f_Open) rfl (fun g179=>?_) (fun g179=>?_)
  ·replace hm:=cond_t hm g179
   refine tk_oe okM hok fun J hJ=>?_
   have a180:=ld_agg (M:=Mt) (t:=25) f121 T.ag25 (by rw [S_d.enc.len]; exact T.sz25) ((Seg.refl.sub (S_a.seg0 (({ S_a.zero with f_Facts:=({ S_c.zero with f_First:=x0.f_Facts.f_First,f_Open:=x0.f_Facts.f_Open && x1.f_Facts.f_Open,f_Fast:=x0.f_Facts.f_Fast || (x1.f_Facts.f_Fast && x0.f_none),f_Prefix:=x0.f_Facts.f_Prefix }:S_c),f_whole:=x0.f_whole && x1.f_whole,f_none:=x0.f_none && x1.f_none }:S_a)))).sub (S_c.seg0 ((({ S_a.zero with f_Facts:=({ S_c.zero with f_First:=x0.f_Facts.f_First,f_Open:=x0.f_Facts.f_Open && x1.f_Facts.f_Open,f_Fast:=x0.f_Facts.f_Fast || (x1.f_Facts.f_Fast && x0.f_none),f_Prefix:=x0.f_Facts.f_Prefix }:S_c),f_whole:=x0.f_whole && x1.f_whole,f_none:=x0.f_none && x1.f_none }:S_a)).f_Facts)))
   have a181:=ld_agg (M:=Mt) (t:=25) f125 T.ag25 (by rw [S_d.enc.len]; exact T.sz25) ((Seg.refl.sub (S_a.seg0 x1)).sub (S_c.seg0 x1.f_Facts))
   obtain ⟨v183,ev183,hm⟩:=bind_s hm
   have a182:=z_c9 c.ro H119 (((({ S_a.zero with f_Facts:=({ S_c.zero with f_First:=x0.f_Facts.f_First,f_Open:=x0.f_Facts.f_Open && x1.f_Facts.f_Open,f_Fast:=x0.f_Facts.f_Fast || (x1.f_Facts.f_Fast && x0.f_none),f_Prefix:=x0.f_Facts.f_Prefix }:S_c),f_whole:=x0.f_whole && x1.f_whole,f_none:=x0.f_none && x1.f_none }:S_a)).f_Facts).f_First) x1.f_Facts.f_First v183 ev183
   obtain ⟨H184,a185,f186,u187⟩:=st_ok (M:=Mt) (t:=25) (v:=(vAgg (S_d.c (v183)))) (c:=S_d.c v183) (cs':=S_a.c (S_a.w0 (({ S_a.zero with f_Facts:=({ S_c.zero with f_First:=x0.f_Facts.f_First,f_Open:=x0.f_Facts.f_Open && x1.f_Facts.f_Open,f_Fast:=x0.f_Facts.f_Fast || (x1.f_Facts.f_Fast && x0.f_none),f_Prefix:=x0.f_Facts.f_Prefix }:S_c),f_whole:=x0.f_whole && x1.f_whole,f_none:=x0.f_none && x1.f_none }:S_a)) (S_c.w0 ((({ S_a.zero with f_Facts:=({ S_c.zero with f_First:=x0.f_Facts.f_First,f_Open:=x0.f_Facts.f_Open && x1.f_Facts.f_Open,f_Fast:=x0.f_Facts.f_Fast || (x1.f_Facts.f_Fast && x0.f_none),f_Prefix:=x0.f_Facts.f_Prefix }:S_c),f_whole:=x0.f_whole && x1.f_whole,f_none:=x0.f_none && x1.f_none }:S_a)).f_Facts) v183))) f121 (by rw [S_d.enc.len]; exact T.sz25) vAgg_cells (S_d.enc.one _) (Nat.le_trans hcn r111) (Nat.le_trans (Nat.le_of_eq (congrArg _ (eqL S_d.enc.len))) ((Seg.refl.sub (S_a.seg0 (({ S_a.zero with f_Facts:=({ S_c.zero with f_First:=x0.f_Facts.f_First,f_Open:=x0.f_Facts.f_Open && x1.f_Facts.f_Open,f_Fast:=x0.f_Facts.f_Fast || (x1.f_Facts.f_Fast && x0.f_none),f_Prefix:=x0.f_Facts.f_Prefix }:S_c),f_whole:=x0.f_whole && x1.f_whole,f_none:=x0.f_none && x1.f_none }:S_a)))).sub (S_c.seg0 ((({ S_a.zero with f_Facts:=({ S_c.zero with f_First:=x0.f_Facts.f_First,f_Open:=x0.f_Facts.f_Open && x1.f_Facts.f_Open,f_Fast:=x0.f_Facts.f_Fast || (x1.f_Facts.f_Fast && x0.f_none),f_Prefix:=x0.f_Facts.f_Prefix }:S_c),f_whole:=x0.f_whole && x1.f_whole,f_none:=x0.f_none && x1.f_none }:S_a)).f_Facts))).2) (by rw [wrs_in (Seg.refl.sub (S_a.seg0 (({ S_a.zero with f_Facts:=({ S_c.zero with f_First:=x0.f_Facts.f_First,f_Open:=x0.f_Facts.f_Open && x1.f_Facts.f_Open,f_Fast:=x0.f_Facts.f_Fast || (x1.f_Facts.f_Fast && x0.f_none),f_Prefix:=x0.f_Facts.f_Prefix }:S_c),f_whole:=x0.f_whole && x1.f_whole,f_none:=x0.f_none && x1.f_none }:S_a)))) (by have:=trivial; simp only [S_d.enc.len,S_c.enc.len]; omega),S_c.wr0 ((({ S_a.zero with f_Facts:=({ S_c.zero with f_First:=x0.f_Facts.f_First,f_Open:=x0.f_Facts.f_Open && x1.f_Facts.f_Open,f_Fast:=x0.f_Facts.f_Fast || (x1.f_Facts.f_Fast && x0.f_none),f_Prefix:=x0.f_Facts.f_Prefix }:S_c),f_whole:=x0.f_whole && x1.f_whole,f_none:=x0.f_none && x1.f_none }:S_a)).f_Facts) v183,Nat.zero_add,S_a.wr0 (({ S_a.zero with f_Facts:=({ S_c.zero with f_First:=x0.f_Facts.f_First,f_Open:=x0.f_Facts.f_Open && x1.f_Facts.f_Open,f_Fast:=x0.f_Facts.f_Fast || (x1.f_Facts.f_Fast && x0.f_none),f_Prefix:=x0.f_Facts.f_Prefix }:S_c),f_whole:=x0.f_whole && x1.f_whole,f_none:=x0.f_none && x1.f_none }:S_a)) (S_c.w0 ((({ S_a.zero with f_Facts:=({ S_c.zero with f_First:=x0.f_Facts.f_First,f_Open:=x0.f_Facts.f_Open && x1.f_Facts.f_Open,f_Fast:=x0.f_Facts.f_Fast || (x1.f_Facts.f_Fast && x0.f_none),f_Prefix:=x0.f_Facts.f_Prefix }:S_c),f_whole:=x0.f_whole && x1.f_whole,f_none:=x0.f_none && x1.f_none }:S_a)).f_Facts) v183)])
   have i188:=i123.up u187 r111
   have f189:=(u187.get _ (ne_len f98 q110)).trans f124
   have f190:=(u187.get _ (ne_len f99 q110)).trans f125
   have f191:=(u187.get _ (ne_len f100 q110)).trans f126
   simp only [C.f89r3,R,Nat.reduceEqDiff,fa107_0,fa54_0,a180,h93,a181,c_fn F38,a182,a185]
   refine hJ _ ?_
   refine n176 _ ?_
   exact ⟨x0,x1,S_a.zero,S_a.w0 (({ S_a.zero with f_Facts:=({ S_c.zero with f_First:=x0.f_Facts.f_First,f_Open:=x0.f_Facts.f_Open && x1.f_Facts.f_Open,f_Fast:=x0.f_Facts.f_Fast || (x1.f_Facts.f_Fast && x0.f_none),f_Prefix:=x0.f_Facts.f_Prefix }:S_c),f_whole:=x0.f_whole && x1.f_whole,f_none:=x0.f_none && x1.f_none }:S_a)) (S_c.w0 ((({ S_a.zero with f_Facts:=({ S_c.zero with f_First:=x0.f_Facts.f_First,f_Open:=x0.f_Facts.f_Open && x1.f_Facts.f_Open,f_Fast:=x0.f_Facts.f_Fast || (x1.f_Facts.f_Fast && x0.f_none),f_Prefix:=x0.f_Facts.f_Prefix }:S_c),f_whole:=x0.f_whole && x1.f_whole,f_none:=x0.f_none && x1.f_none }:S_a)).f_Facts) v183),hm,h92,h93,h94,rfl,f189,f190,f191,f186,i188⟩
  ·replace hm:=cond_f hm g179
   refine tk_skip okM ?_
   refine n176 _ ?_
   exact ⟨x0,x1,S_a.zero,({ S_a.zero with f_Facts:=({ S_c.zero with f_First:=x0.f_Facts.f_First,f_Open:=x0.f_Facts.f_Open && x1.f_Facts.f_Open,f_Fast:=x0.f_Facts.f_Fast || (x1.f_Facts.f_Fast && x0.f_none),f_Prefix:=x0.f_Facts.f_Prefix }:S_c),f_whole:=x0.f_whole && x1.f_whole,f_none:=x0.f_none && x1.f_none }:S_a),hm,h92,h93,h94,rfl,f124,f125,f126,f121,i123⟩
def b_dk (c_y:T_bi) (n:Nat) (x0:S_a) (x1:S_a):Option (S_a):=(c_y x0.f_Facts.f_First x1.f_Facts.f_First).bind fun v37=>some (({ S_a.zero with f_Facts:=({ S_c.zero with f_First:=v37,f_Open:=x0.f_Facts.f_Open || x1.f_Facts.f_Open,f_Fast:=x0.f_Facts.f_Fast && x1.f_Facts.f_Fast,f_Prefix:=(⟨#[]⟩:ByteArray) }:S_c),f_whole:=false,f_none:=x0.f_none && x1.f_none }:S_a))
theorem w_gO {call:CallF} (hok:CallOk Mt call) {n:Nat} {c_y:T_bi} (z_c9:A_df call c_y) {H0:Hp} {x0:S_a} {x1:S_a} {r:S_a} {ro:Nat} (hro:ro ≤ H0.length) (hm:b_dk c_y n x0 x1 = some r) :
  Pt Mt ro 90 [(vAgg (S_a.c x0)),(vAgg (S_a.c x1))] H0 (vAgg (S_a.c (r))) H0 []:=by
 refine pt_new0 okM F90d (by exact Nat.le_of_ble_eq_true rfl) ?_ hro
 intro c hnt hnb hcr
 have hcn:c.ro ≤ c.nb:=by omega
 have iv:Iv c.nb [] H0 H0:=by rw [hnb]; exact iv_refl
 rw [show args0 [(vAgg (S_a.c x0)),(vAgg (S_a.c x1))] = [(0,(vAgg (S_a.c x0))),(1,(vAgg (S_a.c x1)))] from rfl]
 rw [b_dk] at hm
 simp only [C.f90]
 refine tk_os okM hok fun J hJ=>?_
 obtain ⟨b1,H2,a3,f4,q5,r6,x7,i8⟩:=bx_ok (M:=Mt) (t:=107) (u:=(vAgg (S_a.c (x0)))) (cs:=S_a.c x0) H0 iv.le (by rw [S_a.enc.len]; exact T.sz107) vAgg_cells (S_a.enc.one _)
 have i9:=i8 _ _ iv
 obtain ⟨b11,H12,a13,f14,q15,r16,x17,i18⟩:=bx_ok (M:=Mt) (t:=107) (u:=(vAgg (S_a.c (x1)))) (cs:=S_a.c x1) H2 i9.le (by rw [S_a.enc.len]; exact T.sz107) vAgg_cells (S_a.enc.one _)
 have i19:=i18 _ _ i9
 have f20:=x17 _ _ f4
 obtain ⟨b22,H23,a24,f25,q26,r27,x28,i29⟩:=al_ok H12 107 (S_a.c S_a.zero) i19.le
 have i30:=i29 _ _ i19
 have f31:=x28 _ _ f20
 have f32:=x28 _ _ f14
 simp only [C.f90r0,R,Nat.reduceEqDiff,a3,a13,zs107,a24]
 refine hJ _ ?_
 refine tk_os okM hok fun J hJ=>?_
 rw [C.f90r1]
 have a34:=ld_agg (M:=Mt) (t:=25) f31 T.ag25 (by rw [S_d.enc.len]; exact T.sz25) ((Seg.refl.sub (S_a.seg0 x0)).sub (S_c.seg0 x0.f_Facts))
 have a35:=ld_agg (M:=Mt) (t:=25) f32 T.ag25 (by rw [S_d.enc.len]; exact T.sz25) ((Seg.refl.sub (S_a.seg0 x1)).sub (S_c.seg0 x1.f_Facts))
 obtain ⟨v37,ev37,hm⟩:=bind_s hm
 have a36:=z_c9 H23.length H23 x0.f_Facts.f_First x1.f_Facts.f_First v37 ev37
 have a38:=ld_one (M:=Mt) (t:=4) f31 T.ag4 ((Seg.refl.sub (S_a.seg0 x0)).sub (S_c.seg1 x0.f_Facts))
 refine rn_app_k (fun ⟨σ,H,_⟩=>Lk σ 2 (.pointer (some ⟨b1,0,none⟩)) ∧ Lk σ 3 (.pointer (some ⟨b11,0,none⟩)) ∧ Lk σ 4 (.pointer (some ⟨b22,0,none⟩)) ∧ Lk σ 11 (vAgg (S_d.c (v37))) ∧ Lk σ 19 (.bool (x0.f_Facts.f_Open || x1.f_Facts.f_Open)) ∧ H[b1]? = some (.cells (S_a.c x0) 107) ∧ H[b11]? = some (.cells (S_a.c x1) 107) ∧ H[b22]? = some (.cells (S_a.c S_a.zero) 107) ∧ Iv c.nb [] H0 H) (fun J hJ=>?_) ?_
 ·skip
  cases g50:x0.f_Facts.f_Open
  ·skip
   have a51:=ld_one (M:=Mt) (t:=4) f32 T.ag4 ((Seg.refl.sub (S_a.seg0 x1)).sub (S_c.seg1 x1.f_Facts))
   simp only [C.f90r1p0,R,Nat.reduceEqDiff,s_pt,s_gt,isW,Bool.false_eq_true,if_false,if_true,reduceIte,fa107_0,fa54_0,a34,a35,c_fn F38,a36,fa54_1,a38,g50,a51]
   refine hJ _ ?_
   exact ⟨rfl,rfl,rfl,(by first | rfl | (simp only [g50]; rfl) | simp only [g50,Lk,RB,Nat.reduceEqDiff,not_false_eq_true]),(by first | rfl | (simp only [g50]; rfl) | simp only [g50,Lk,RB,Nat.reduceEqDiff,not_false_eq_true]),f31,f32,f25,i30⟩
  ·skip
   simp only [C.f90r1p0,R,Nat.reduceEqDiff,s_pt,s_gt,isW,Bool.false_eq_true,if_false,if_true,reduceIte,fa107_0,fa54_0,a34,a35,c_fn F38,a36,fa54_1,a38,g50]
   refine hJ _ ?_
   exact ⟨rfl,rfl,rfl,(by first | rfl | (simp only [g50]; rfl) | simp only [g50,Lk,RB,Nat.reduceEqDiff,not_false_eq_true]),(by first | rfl | (simp only [g50]; rfl) | simp only [g50,Lk,RB,Nat.reduceEqDiff,not_false_eq_true]),f31,f32,f25,i30⟩
 rintro ⟨σ52,H40,d53⟩ ⟨h41,h42,h43,h44,h45,f46,f47,f48,i49⟩
 have a54:=ld_one (M:=Mt) (t:=4) f46 T.ag4 ((Seg.refl.sub (S_a.seg0 x0)).sub (S_c.seg2 x0.f_Facts))
 refine rn_app_k (fun ⟨σ,H,_⟩=>Lk σ 2 (.pointer (some ⟨b1,0,none⟩)) ∧ Lk σ 3 (.pointer (some ⟨b11,0,none⟩)) ∧ Lk σ 4 (.pointer (some ⟨b22,0,none⟩)) ∧ Lk σ 11 (vAgg (S_d.c (v37))) ∧ Lk σ 19 (.bool (x0.f_Facts.f_Open || x1.f_Facts.f_Open)) ∧ Lk σ 27 (.bool (x0.f_Facts.f_Fast && x1.f_Facts.f_Fast)) ∧ H[b1]? = some (.cells (S_a.c x0) 107) ∧ H[b11]? = some (.cells (S_a.c x1) 107) ∧ H[b22]? = some (.cells (S_a.c S_a.zero) 107) ∧ Iv c.nb [] H0 H) (fun J hJ=>?_) ?_
 ·skip
  cases g67:x0.f_Facts.f_Fast
  ·skip
   simp only [C.f90r1p1,R,Nat.reduceEqDiff,s_pt,s_gt,isW,Bool.false_eq_true,if_false,if_true,reduceIte,fa107_0,h41,fa54_2,a54,g67]
   refine hJ _ ?_
   exact ⟨h41,h42,h43,h44,h45,(by first | rfl | (simp only [g67]; rfl) | simp only [g67,Lk,RB,Nat.reduceEqDiff,not_false_eq_true]),f46,f47,f48,i49⟩
  ·skip
   have a68:=ld_one (M:=Mt) (t:=4) f47 T.ag4 ((Seg.refl.sub (S_a.seg0 x1)).sub (S_c.seg2 x1.f_Facts))
   simp only [C.f90r1p1,R,Nat.reduceEqDiff,s_pt,s_gt,isW,Bool.false_eq_true,if_false,if_true,reduceIte,fa107_0,h41,fa54_2,a54,g67,h42,a68]
   refine hJ _ ?_
   exact ⟨h41,h42,h43,h44,h45,(by first | rfl | (simp only [g67]; rfl) | simp only [g67,Lk,RB,Nat.reduceEqDiff,not_false_eq_true]),f46,f47,f48,i49⟩
 rintro ⟨σ69,H56,d70⟩ ⟨h57,h58,h59,h60,h61,h62,f63,f64,f65,i66⟩
 have a71:=ld_one (M:=Mt) (t:=4) f63 T.ag4 (Seg.refl.sub (S_a.seg2 x0))
 refine rn_app_k (fun ⟨σ,H,_⟩=>Lk σ 4 (.pointer (some ⟨b22,0,none⟩)) ∧ Lk σ 28 (vAgg (S_c.c (({ S_c.zero with f_First:=v37,f_Open:=x0.f_Facts.f_Open || x1.f_Facts.f_Open,f_Fast:=x0.f_Facts.f_Fast && x1.f_Facts.f_Fast,f_Prefix:=(⟨#[]⟩:ByteArray) }:S_c)))) ∧ Lk σ 34 (.bool (x0.f_none && x1.f_none)) ∧ H[b22]? = some (.cells (S_a.c S_a.zero) 107) ∧ Iv c.nb [] H0 H) (fun J hJ=>?_) ?_
 ·skip
  cases g79:x0.f_none
  ·skip
   simp only [C.f90r1p2,R,Nat.reduceEqDiff,s_pt,s_gt,isW,Bool.false_eq_true,if_false,if_true,reduceIte,bd54_0_1_2_3,h60,h61,h62,fa107_2,h57,a71,g79]
   refine hJ _ ?_
   exact ⟨h59,(by first | rfl | (simp only [g79]; rfl) | simp only [g79,Lk,RB,Nat.reduceEqDiff,not_false_eq_true]),(by first | rfl | (simp only [g79]; rfl) | simp only [g79,Lk,RB,Nat.reduceEqDiff,not_false_eq_true]),f65,i66⟩
  ·skip
   have a80:=ld_one (M:=Mt) (t:=4) f64 T.ag4 (Seg.refl.sub (S_a.seg2 x1))
   simp only [C.f90r1p2,R,Nat.reduceEqDiff,s_pt,s_gt,isW,Bool.false_eq_true,if_false,if_true,reduceIte,bd54_0_1_2_3,h60,h61,h62,fa107_2,h57,a71,g79,h58,a80]
   refine hJ _ ?_
   exact ⟨h59,(by first | rfl | (simp only [g79]; rfl) | simp only [g79,Lk,RB,Nat.reduceEqDiff,not_false_eq_true]),(by first | rfl | (simp only [g79]; rfl) | simp only [g79,Lk,RB,Nat.reduceEqDiff,not_false_eq_true]),f65,i66⟩
 rintro ⟨σ81,H73,d82⟩ ⟨h74,h75,h76,f77,i78⟩
 obtain ⟨H83,a84,f85,u86⟩:=st_ok (M:=Mt) (t:=107) (v:=(vAgg (S_a.c (({ S_a.zero with f_Facts:=({ S_c.zero with f_First:=v37,f_Open:=x0.f_Facts.f_Open || x1.f_Facts.f_Open,f_Fast:=x0.f_Facts.f_Fast && x1.f_Facts.f_Fast,f_Prefix:=(⟨#[]⟩:ByteArray) }:S_c),f_whole:=false,f_none:=x0.f_none && x1.f_none }:S_a))))) (c:=S_a.c (({ S_a.zero with f_Facts:=({ S_c.zero with f_First:=v37,f_Open:=x0.f_Facts.f_Open || x1.f_Facts.f_Open,f_Fast:=x0.f_Facts.f_Fast && x1.f_Facts.f_Fast,f_Prefix:=(⟨#[]⟩:ByteArray) }:S_c),f_whole:=false,f_none:=x0.f_none && x1.f_none }:S_a))) (cs':=S_a.c (({ S_a.zero with f_Facts:=({ S_c.zero with f_First:=v37,f_Open:=x0.f_Facts.f_Open || x1.f_Facts.f_Open,f_Fast:=x0.f_Facts.f_Fast && x1.f_Facts.f_Fast,f_Prefix:=(⟨#[]⟩:ByteArray) }:S_c),f_whole:=false,f_none:=x0.f_none && x1.f_none }:S_a))) f77 (by rw [S_a.enc.len]; exact T.sz107) vAgg_cells (S_a.enc.one _) (Nat.le_trans hcn r27) (le0 S_a.enc.len) (wrs_all (eqL S_a.enc.len))
 have i87:=i78.up u86 r27
 simp only [C.f90r1p3,R,Nat.reduceEqDiff,s_pt,s_gt,isW,Bool.false_eq_true,if_false,if_true,reduceIte,bd107_0_1_2,h75,h76,a84,h74]
 refine hJ _ ?_
 refine tk_ret okM ?_
 obtain rfl:=Option.some.inj hm
 exact end_flat (.inl rfl) (vs:=[(vAgg (S_a.c (({ S_a.zero with f_Facts:=({ S_c.zero with f_First:=v37,f_Open:=x0.f_Facts.f_Open || x1.f_Facts.f_Open,f_Fast:=x0.f_Facts.f_Fast && x1.f_Facts.f_Fast,f_Prefix:=(⟨#[]⟩:ByteArray) }:S_c),f_whole:=false,f_none:=x0.f_none && x1.f_none }:S_a))))]) (resC' (v:=(vAgg (S_a.c (({ S_a.zero with f_Facts:=({ S_c.zero with f_First:=v37,f_Open:=x0.f_Facts.f_Open || x1.f_Facts.f_Open,f_Fast:=x0.f_Facts.f_Fast && x1.f_Facts.f_Fast,f_Prefix:=(⟨#[]⟩:ByteArray) }:S_c),f_whole:=false,f_none:=x0.f_none && x1.f_none }:S_a))))) h74 (ldv_of (ld_agg (M:=Mt) (t:=107) f85 T.ag107 (by rw [S_a.enc.len]; exact T.sz107) Seg.refl)) resN) (fm_cons (flat_agg S_a.enc _) fm_nil)
def b_cb (c_h:T_M) (n:Nat) (x34:S_a) (x36:S_a):Option (S_a):=some x36
def b_bE (c_h:T_M) (n:Nat) (x171:S_a) (x172:S_a):Option (S_a):=some x172
def b_cI (c_h:T_M) (n:Nat) (x0:S_b) (x1:S_a):Option (S_a):=(c_h).bind fun v63=>bif decide (x0.f_Max = 0) then (b_cb c_h n S_a.zero v63) else (bif decide (0 < x0.f_Min) then (b_bE c_h n S_a.zero (S_a.w0 (({ S_a.zero with f_Facts:=({ S_c.zero with f_First:=x1.f_Facts.f_First,f_Open:=x1.f_Facts.f_Open || (decide (x0.f_Min = 0)),f_Fast:=x1.f_Facts.f_Fast && (decide (0 < x0.f_Min)),f_Prefix:=(⟨#[]⟩:ByteArray) }:S_c),f_whole:=(x1.f_whole && (decide (x0.f_Min = 1))) && (decide (x0.f_Max = 1)),f_none:=x1.f_none }:S_a)) (S_c.w3 ((({ S_a.zero with f_Facts:=({ S_c.zero with f_First:=x1.f_Facts.f_First,f_Open:=x1.f_Facts.f_Open || (decide (x0.f_Min = 0)),f_Fast:=x1.f_Facts.f_Fast && (decide (0 < x0.f_Min)),f_Prefix:=(⟨#[]⟩:ByteArray) }:S_c),f_whole:=(x1.f_whole && (decide (x0.f_Min = 1))) && (decide (x0.f_Max = 1)),f_none:=x1.f_none }:S_a)).f_Facts) x1.f_Facts.f_Prefix))) else (b_bE c_h n S_a.zero (({ S_a.zero with f_Facts:=({ S_c.zero with f_First:=x1.f_Facts.f_First,f_Open:=x1.f_Facts.f_Open || (decide (x0.f_Min = 0)),f_Fast:=x1.f_Facts.f_Fast && (decide (0 < x0.f_Min)),f_Prefix:=(⟨#[]⟩:ByteArray) }:S_c),f_whole:=(x1.f_whole && (decide (x0.f_Min = 1))) && (decide (x0.f_Max = 1)),f_none:=x1.f_none }:S_a))))
theorem w_fT {call:CallF} (hok:CallOk Mt call) {n:Nat} {c_h:T_M} (z_cd:A_c6 call c_h) {H0:Hp} {x0:S_b} {x1:S_a} {r:S_a} {ro:Nat} (hro:ro ≤ H0.length) (hm:b_cI c_h n x0 x1 = some r) :
  Pt Mt ro 91 [(vAgg (S_b.c x0)),(vAgg (S_a.c x1))] H0 (vAgg (S_a.c (r))) H0 []:=by
 refine pt_new0 okM F91d (by exact Nat.le_of_ble_eq_true rfl) ?_ hro
 intro c hnt hnb hcr
 have hcn:c.ro ≤ c.nb:=by omega
 have iv:Iv c.nb [] H0 H0:=by rw [hnb]; exact iv_refl
 rw [show args0 [(vAgg (S_b.c x0)),(vAgg (S_a.c x1))] = [(0,(vAgg (S_b.c x0))),(1,(vAgg (S_a.c x1)))] from rfl]
 rw [b_cI] at hm
 simp only [C.f91]
 refine tk_os okM hok fun J hJ=>?_
 obtain ⟨b1,H2,a3,f4,q5,r6,x7,i8⟩:=bx_ok (M:=Mt) (t:=72) (u:=(vAgg (S_b.c (x0)))) (cs:=S_b.c x0) H0 iv.le (by rw [S_b.enc.len]; exact T.sz72) vAgg_cells (S_b.enc.one _)
 have i9:=i8 _ _ iv
 obtain ⟨b11,H12,a13,f14,q15,r16,x17,i18⟩:=bx_ok (M:=Mt) (t:=107) (u:=(vAgg (S_a.c (x1)))) (cs:=S_a.c x1) H2 i9.le (by rw [S_a.enc.len]; exact T.sz107) vAgg_cells (S_a.enc.one _)
 have i19:=i18 _ _ i9
 have f20:=x17 _ _ f4
 obtain ⟨b22,H23,a24,f25,q26,r27,x28,i29⟩:=al_ok H12 107 (S_a.c S_a.zero) i19.le
 have i30:=i29 _ _ i19
 have f31:=x28 _ _ f20
 have f32:=x28 _ _ f14
 simp only [C.f91r0,R,Nat.reduceEqDiff,a3,a13,zs107,a24]
 refine hJ _ ?_
 refine tk_scopeJ (fun ⟨σ,H,_⟩=>∃ x34 x36 b35,b_cb c_h n x34 x36 = some r ∧ Lk σ 4 (.pointer (some ⟨b22,0,none⟩)) ∧ Lk σ 5 (.pointer (some ⟨b35,0,none⟩)) ∧ H[b22]? = some (.cells (S_a.c x34) 107) ∧ H[b35]? = some (.cells (S_a.c x36) 107) ∧ c.nb ≤ b35 ∧ b22 ≠ b35 ∧ Iv c.nb [] H0 H) ?_ ?_
 ·skip
  rintro ⟨σ48,H39,d49⟩ ⟨x34,x36,b35,hm,h41,h42,f43,f44,r45,n46,i47⟩
  rw [b_cb] at hm
  intro K n37 x38
  refine tk_seq_k fun K n50 x51=>?_
  refine tk_skip okM ?_
  refine n50 _ ?_
  refine tk_os okM hok fun J hJ=>?_
  have a52:=ld_agg (M:=Mt) (t:=107) f44 T.ag107 (by rw [S_a.enc.len]; exact T.sz107) Seg.refl
  obtain ⟨H53,a54,f55,u56⟩:=st_ok (M:=Mt) (t:=107) (v:=(vAgg (S_a.c (x36)))) (c:=S_a.c x36) (cs':=S_a.c x36) f43 (by rw [S_a.enc.len]; exact T.sz107) vAgg_cells (S_a.enc.one _) (Nat.le_trans hcn r27) (le0 S_a.enc.len) (wrs_all (eqL S_a.enc.len))
  have i57:=i47.up u56 r27
  have f58:=(u56.get _ n46.symm).trans f44
  simp only [C.f91r6,R,Nat.reduceEqDiff,a52,h42,a54,h41]
  refine hJ _ ?_
  refine tk_ret okM ?_
  refine x38 _ _ (by simp) (by simp) ?_
  obtain rfl:=Option.some.inj hm
  exact end_flat (.inl rfl) (vs:=[(vAgg (S_a.c (x36)))]) (resC' (v:=(vAgg (S_a.c (x36)))) h41 (ldv_of (ld_agg (M:=Mt) (t:=107) f55 T.ag107 (by rw [S_a.enc.len]; exact T.sz107) Seg.refl)) resN) (fm_cons (flat_agg S_a.enc _) fm_nil)
 ·refine fun K n59 x60 j61=>?_
  refine tk_os okM hok fun J hJ=>?_
  obtain ⟨v63,ev63,hm⟩:=bind_s hm
  have a62:=z_cd c.ro H23  v63 ev63
  obtain ⟨b64,H65,a66,f67,q68,r69,x70,i71⟩:=al_ok H23 107 (S_a.c S_a.zero) i30.le
  have i72:=i71 _ _ i30
  have f73:=x70 _ _ f31
  have f74:=x70 _ _ f32
  have f75:=x70 _ _ f25
  obtain ⟨H77,a78,f79,u80⟩:=st_ok (M:=Mt) (t:=107) (v:=(vAgg (S_a.c (v63)))) (c:=S_a.c v63) (cs':=S_a.c v63) f67 (by rw [S_a.enc.len]; exact T.sz107) vAgg_cells (S_a.enc.one _) (Nat.le_trans hcn r69) (le0 S_a.enc.len) (wrs_all (eqL S_a.enc.len))
  have i81:=i72.up u80 r69
  have f82:=(u80.get _ (ne_len f31 q68)).trans f73
  have f83:=(u80.get _ (ne_len f32 q68)).trans f74
  have f84:=(u80.get _ (ne_len f25 q68)).trans f75
  simp only [C.f91r1,R,Nat.reduceEqDiff,c_fn F87,a62,zs107,a66,a78]
  refine hJ _ ?_
  refine tk_seq_k fun K n85 x86=>?_
  refine tk_os okM hok fun J hJ=>?_
  have a87:=ld_one (M:=Mt) (t:=3) f82 T.ag3 (Seg.refl.sub (S_b.seg5 x0))
  simp only [C.f91r2,R,Nat.reduceEqDiff,fa72_5,a87]
  refine hJ _ ?_
  refine tk_cond (t:=decide (x0.f_Max = 0)) rfl (fun g88=>?_) (fun g88=>?_)
  ·replace hm:=cond_t hm g88
   refine tk_goto okM ?_
   refine x86 _ _ (by simp) ?_
   refine j61 _ ?_
   exact ⟨S_a.zero,v63,b64,hm,rfl,rfl,f84,f79,r69,(ne_len f25 q68),i81⟩
  ·replace hm:=cond_f hm g88
   refine tk_skip okM ?_
   refine n85 _ ?_
   refine tk_os okM hok fun J hJ=>?_
   rw [C.f91r3]
   have a89:=ld_agg (M:=Mt) (t:=25) f83 T.ag25 (by rw [S_d.enc.len]; exact T.sz25) ((Seg.refl.sub (S_a.seg0 x1)).sub (S_c.seg0 x1.f_Facts))
   have a90:=ld_one (M:=Mt) (t:=4) f83 T.ag4 ((Seg.refl.sub (S_a.seg0 x1)).sub (S_c.seg1 x1.f_Facts))
   refine rn_app_k (fun ⟨σ,H,_⟩=>Lk σ 2 (.pointer (some ⟨b1,0,none⟩)) ∧ Lk σ 3 (.pointer (some ⟨b11,0,none⟩)) ∧ Lk σ 4 (.pointer (some ⟨b22,0,none⟩)) ∧ Lk σ 5 (.pointer (some ⟨b64,0,none⟩)) ∧ Lk σ 12 (vAgg (S_d.c (x1.f_Facts.f_First))) ∧ Lk σ 20 (.bool (x1.f_Facts.f_Open || (decide (x0.f_Min = 0)))) ∧ H[b1]? = some (.cells (S_b.c x0) 72) ∧ H[b11]? = some (.cells (S_a.c x1) 107) ∧ H[b22]? = some (.cells (S_a.c S_a.zero) 107) ∧ H[b64]? = some (.cells (S_a.c v63) 107) ∧ Iv c.nb [] H0 H) (fun J hJ=>?_) ?_
   ·skip
    cases g104:x1.f_Facts.f_Open
    ·skip
     have a105:=ld_one (M:=Mt) (t:=3) f82 T.ag3 (Seg.refl.sub (S_b.seg4 x0))
     simp only [C.f91r3p0,R,Nat.reduceEqDiff,fa107_0,fa54_0,a89,fa54_1,a90,g104,fa72_4,a105]
     refine hJ _ ?_
     exact ⟨rfl,rfl,rfl,rfl,(by first | rfl | (simp only [g104]; rfl) | simp only [g104,Lk,RB,Nat.reduceEqDiff,not_false_eq_true]),(by first | rfl | (simp only [g104]; rfl) | simp only [g104,Lk,RB,Nat.reduceEqDiff,not_false_eq_true]),f82,f83,f84,f79,i81⟩
    ·skip
     simp only [C.f91r3p0,R,Nat.reduceEqDiff,fa107_0,fa54_0,a89,fa54_1,a90,g104]
     refine hJ _ ?_
     exact ⟨rfl,rfl,rfl,rfl,(by first | rfl | (simp only [g104]; rfl) | simp only [g104,Lk,RB,Nat.reduceEqDiff,not_false_eq_true]),(by first | rfl | (simp only [g104]; rfl) | simp only [g104,Lk,RB,Nat.reduceEqDiff,not_false_eq_true]),f82,f83,f84,f79,i81⟩
   rintro ⟨σ106,H92,d107⟩ ⟨h93,h94,h95,h96,h97,h98,f99,f100,f101,f102,i103⟩
   have a108:=ld_one (M:=Mt) (t:=4) f100 T.ag4 ((Seg.refl.sub (S_a.seg0 x1)).sub (S_c.seg2 x1.f_Facts))
   refine rn_app_k (fun ⟨σ,H,_⟩=>Lk σ 2 (.pointer (some ⟨b1,0,none⟩)) ∧ Lk σ 3 (.pointer (some ⟨b11,0,none⟩)) ∧ Lk σ 4 (.pointer (some ⟨b22,0,none⟩)) ∧ Lk σ 5 (.pointer (some ⟨b64,0,none⟩)) ∧ Lk σ 12 (vAgg (S_d.c (x1.f_Facts.f_First))) ∧ Lk σ 20 (.bool (x1.f_Facts.f_Open || (decide (x0.f_Min = 0)))) ∧ Lk σ 28 (.bool (x1.f_Facts.f_Fast && (decide (0 < x0.f_Min)))) ∧ H[b1]? = some (.cells (S_b.c x0) 72) ∧ H[b11]? = some (.cells (S_a.c x1) 107) ∧ H[b22]? = some (.cells (S_a.c S_a.zero) 107) ∧ H[b64]? = some (.cells (S_a.c v63) 107) ∧ Iv c.nb [] H0 H) (fun J hJ=>?_) ?_
   ·skip
    cases g123:x1.f_Facts.f_Fast
    ·skip
     simp only [C.f91r3p1,R,Nat.reduceEqDiff,fa107_0,h94,fa54_2,a108,g123]
     refine hJ _ ?_
     exact ⟨h93,h94,h95,h96,h97,h98,(by first | rfl | (simp only [g123]; rfl) | simp only [g123,Lk,RB,Nat.reduceEqDiff,not_false_eq_true]),f99,f100,f101,f102,i103⟩
    ·skip
     have a124:=ld_one (M:=Mt) (t:=3) f99 T.ag3 (Seg.refl.sub (S_b.seg4 x0))
     simp only [C.f91r3p1,R,Nat.reduceEqDiff,fa107_0,h94,fa54_2,a108,g123,fa72_4,h93,a124]
     refine hJ _ ?_
     exact ⟨h93,h94,h95,h96,h97,h98,(by first | rfl | (simp only [g123]; rfl) | simp only [g123,Lk,RB,Nat.reduceEqDiff,not_false_eq_true]),f99,f100,f101,f102,i103⟩
   rintro ⟨σ125,H110,d126⟩ ⟨h111,h112,h113,h114,h115,h116,h117,f118,f119,f120,f121,i122⟩
   have a127:=ld_one (M:=Mt) (t:=4) f119 T.ag4 (Seg.refl.sub (S_a.seg1 x1))
   refine rn_app_k (fun ⟨σ,H,_⟩=>Lk σ 2 (.pointer (some ⟨b1,0,none⟩)) ∧ Lk σ 3 (.pointer (some ⟨b11,0,none⟩)) ∧ Lk σ 4 (.pointer (some ⟨b22,0,none⟩)) ∧ Lk σ 5 (.pointer (some ⟨b64,0,none⟩)) ∧ Lk σ 29 (vAgg (S_c.c (({ S_c.zero with f_First:=x1.f_Facts.f_First,f_Open:=x1.f_Facts.f_Open || (decide (x0.f_Min = 0)),f_Fast:=x1.f_Facts.f_Fast && (decide (0 < x0.f_Min)),f_Prefix:=(⟨#[]⟩:ByteArray) }:S_c)))) ∧ Lk σ 36 (.bool (x1.f_whole && (decide (x0.f_Min = 1)))) ∧ H[b1]? = some (.cells (S_b.c x0) 72) ∧ H[b11]? = some (.cells (S_a.c x1) 107) ∧ H[b22]? = some (.cells (S_a.c S_a.zero) 107) ∧ H[b64]? = some (.cells (S_a.c v63) 107) ∧ Iv c.nb [] H0 H) (fun J hJ=>?_) ?_
   ·skip
    cases g141:x1.f_whole
    ·skip
     simp only [C.f91r3p2,R,Nat.reduceEqDiff,bd54_0_1_2_3,h115,h116,h117,fa107_1,h112,a127,g141]
     refine hJ _ ?_
     exact ⟨h111,h112,h113,h114,(by first | rfl | (simp only [g141]; rfl) | simp only [g141,Lk,RB,Nat.reduceEqDiff,not_false_eq_true]),(by first | rfl | (simp only [g141]; rfl) | simp only [g141,Lk,RB,Nat.reduceEqDiff,not_false_eq_true]),f118,f119,f120,f121,i122⟩
    ·skip
     have a142:=ld_one (M:=Mt) (t:=3) f118 T.ag3 (Seg.refl.sub (S_b.seg4 x0))
     simp only [C.f91r3p2,R,Nat.reduceEqDiff,bd54_0_1_2_3,h115,h116,h117,fa107_1,h112,a127,g141,fa72_4,h111,a142]
     refine hJ _ ?_
     exact ⟨h111,h112,h113,h114,(by first | rfl | (simp only [g141]; rfl) | simp only [g141,Lk,RB,Nat.reduceEqDiff,not_false_eq_true]),(by first | rfl | (simp only [g141]; rfl) | simp only [g141,Lk,RB,Nat.reduceEqDiff,not_false_eq_true]),f118,f119,f120,f121,i122⟩
   rintro ⟨σ143,H129,d144⟩ ⟨h130,h131,h132,h133,h134,h135,f136,f137,f138,f139,i140⟩
   refine rn_app_k (fun ⟨σ,H,_⟩=>Lk σ 2 (.pointer (some ⟨b1,0,none⟩)) ∧ Lk σ 3 (.pointer (some ⟨b11,0,none⟩)) ∧ Lk σ 4 (.pointer (some ⟨b22,0,none⟩)) ∧ Lk σ 5 (.pointer (some ⟨b64,0,none⟩)) ∧ Lk σ 29 (vAgg (S_c.c (({ S_c.zero with f_First:=x1.f_Facts.f_First,f_Open:=x1.f_Facts.f_Open || (decide (x0.f_Min = 0)),f_Fast:=x1.f_Facts.f_Fast && (decide (0 < x0.f_Min)),f_Prefix:=(⟨#[]⟩:ByteArray) }:S_c)))) ∧ Lk σ 41 (.bool ((x1.f_whole && (decide (x0.f_Min = 1))) && (decide (x0.f_Max = 1)))) ∧ H[b1]? = some (.cells (S_b.c x0) 72) ∧ H[b11]? = some (.cells (S_a.c x1) 107) ∧ H[b22]? = some (.cells (S_a.c S_a.zero) 107) ∧ H[b64]? = some (.cells (S_a.c v63) 107) ∧ Iv c.nb [] H0 H) (fun J hJ=>?_) ?_
   ·skip
    cases g158:x1.f_whole && (decide (x0.f_Min = 1))
    ·skip
     simp only [C.f91r3p3,R,Nat.reduceEqDiff,h135,g158]
     refine hJ _ ?_
     exact ⟨h130,h131,h132,h133,h134,(by first | rfl | (simp only [g158]; rfl) | simp only [g158,Lk,RB,Nat.reduceEqDiff,not_false_eq_true]),f136,f137,f138,f139,i140⟩
    ·skip
     have a159:=ld_one (M:=Mt) (t:=3) f136 T.ag3 (Seg.refl.sub (S_b.seg5 x0))
     simp only [C.f91r3p3,R,Nat.reduceEqDiff,h135,g158,fa72_5,h130,a159]
     refine hJ _ ?_
     exact ⟨h130,h131,h132,h133,h134,(by first | rfl | (simp only [g158]; rfl) | simp only [g158,Lk,RB,Nat.reduceEqDiff,not_false_eq_true]),f136,f137,f138,f139,i140⟩
   rintro ⟨σ160,H146,d161⟩ ⟨h147,h148,h149,h150,h151,h152,f153,f154,f155,f156,i157⟩
   have a162:=ld_one (M:=Mt) (t:=4) f154 T.ag4 (Seg.refl.sub (S_a.seg2 x1))
   obtain ⟨H163,a164,f165,u166⟩:=st_ok (M:=Mt) (t:=107) (v:=(vAgg (S_a.c (({ S_a.zero with f_Facts:=({ S_c.zero with f_First:=x1.f_Facts.f_First,f_Open:=x1.f_Facts.f_Open || (decide (x0.f_Min = 0)),f_Fast:=x1.f_Facts.f_Fast && (decide (0 < x0.f_Min)),f_Prefix:=(⟨#[]⟩:ByteArray) }:S_c),f_whole:=(x1.f_whole && (decide (x0.f_Min = 1))) && (decide (x0.f_Max = 1)),f_none:=x1.f_none }:S_a))))) (c:=S_a.c (({ S_a.zero with f_Facts:=({ S_c.zero with f_First:=x1.f_Facts.f_First,f_Open:=x1.f_Facts.f_Open || (decide (x0.f_Min = 0)),f_Fast:=x1.f_Facts.f_Fast && (decide (0 < x0.f_Min)),f_Prefix:=(⟨#[]⟩:ByteArray) }:S_c),f_whole:=(x1.f_whole && (decide (x0.f_Min = 1))) && (decide (x0.f_Max = 1)),f_none:=x1.f_none }:S_a))) (cs':=S_a.c (({ S_a.zero with f_Facts:=({ S_c.zero with f_First:=x1.f_Facts.f_First,f_Open:=x1.f_Facts.f_Open || (decide (x0.f_Min = 0)),f_Fast:=x1.f_Facts.f_Fast && (decide (0 < x0.f_Min)),f_Prefix:=(⟨#[]⟩:ByteArray) }:S_c),f_whole:=(x1.f_whole && (decide (x0.f_Min = 1))) && (decide (x0.f_Max = 1)),f_none:=x1.f_none }:S_a))) f156 (by rw [S_a.enc.len]; exact T.sz107) vAgg_cells (S_a.enc.one _) (Nat.le_trans hcn r69) (le0 S_a.enc.len) (wrs_all (eqL S_a.enc.len))
   have i167:=i157.up u166 r69
   have f168:=(u166.get _ (ne_len f31 q68)).trans f153
   have f169:=(u166.get _ (ne_len f32 q68)).trans f154
   have f170:=(u166.get _ (ne_len f25 q68)).trans f155
   simp only [C.f91r3p4,R,Nat.reduceEqDiff,fa107_2,h148,a162,bd107_0_1_2,h151,h152,a164,h150]
   refine hJ _ ?_
   refine tk_seq_j (fun ⟨σ,H,_⟩=>∃ x171 x172,b_bE c_h n x171 x172 = some r ∧ Lk σ 4 (.pointer (some ⟨b22,0,none⟩)) ∧ Lk σ 5 (.pointer (some ⟨b64,0,none⟩)) ∧ H[b22]? = some (.cells (S_a.c x171) 107) ∧ H[b64]? = some (.cells (S_a.c x172) 107) ∧ Iv c.nb [] H0 H) ?_ ?_
   ·skip
    rintro ⟨σ179,H173,d180⟩ ⟨x171,x172,hm,h174,h175,f176,f177,i178⟩
    rw [b_bE] at hm
    refine tk_seq_k fun K n181 x182=>?_
    refine tk_skip okM ?_
    refine n181 _ ?_
    refine tk_os okM hok fun J hJ=>?_
    have a183:=ld_agg (M:=Mt) (t:=107) f177 T.ag107 (by rw [S_a.enc.len]; exact T.sz107) Seg.refl
    obtain ⟨H184,a185,f186,u187⟩:=st_ok (M:=Mt) (t:=107) (v:=(vAgg (S_a.c (x172)))) (c:=S_a.c x172) (cs':=S_a.c x172) f176 (by rw [S_a.enc.len]; exact T.sz107) vAgg_cells (S_a.enc.one _) (Nat.le_trans hcn r27) (le0 S_a.enc.len) (wrs_all (eqL S_a.enc.len))
    have i188:=i178.up u187 r27
    have f189:=(u187.get _ (ne_len f25 q68).symm).trans f177
    simp only [C.f91r6,R,Nat.reduceEqDiff,a183,h175,a185,h174]
    refine hJ _ ?_
    refine tk_ret okM ?_
    refine x60 _ _ (by simp) (by simp) ?_
    obtain rfl:=Option.some.inj hm
    exact end_flat (.inl rfl) (vs:=[(vAgg (S_a.c (x172)))]) (resC' (v:=(vAgg (S_a.c (x172)))) h174 (ldv_of (ld_agg (M:=Mt) (t:=107) f186 T.ag107 (by rw [S_a.enc.len]; exact T.sz107) Seg.refl)) resN) (fm_cons (flat_agg S_a.enc _) fm_nil)
   ·refine fun K n190 x191=>?_
    refine tk_os okM hok fun J hJ=>?_
    have a192:=ld_one (M:=Mt) (t:=3) f168 T.ag3 (Seg.refl.sub (S_b.seg4 x0))
    simp only [C.f91r4,R,Nat.reduceEqDiff,fa72_4,h147,a192]
    refine hJ _ ?_
    refine tk_cond (t:=decide (0 < x0.f_Min)) rfl (fun g193=>?_) (fun g193=>?_)
    ·replace hm:=cond_t hm g193
     refine tk_oe okM hok fun J hJ=>?_
     have a194:=ld_one (M:=Mt) (t:=9) f169 T.ag9 ((Seg.refl.sub (S_a.seg0 x1)).sub (S_c.seg3 x1.f_Facts))
     obtain ⟨H195,a196,f197,u198⟩:=st_ok (M:=Mt) (t:=9) (v:=(.string (x1.f_Facts.f_Prefix))) (c:=cStr x1.f_Facts.f_Prefix) (cs':=S_a.c (S_a.w0 (({ S_a.zero with f_Facts:=({ S_c.zero with f_First:=x1.f_Facts.f_First,f_Open:=x1.f_Facts.f_Open || (decide (x0.f_Min = 0)),f_Fast:=x1.f_Facts.f_Fast && (decide (0 < x0.f_Min)),f_Prefix:=(⟨#[]⟩:ByteArray) }:S_c),f_whole:=(x1.f_whole && (decide (x0.f_Min = 1))) && (decide (x0.f_Max = 1)),f_none:=x1.f_none }:S_a)) (S_c.w3 ((({ S_a.zero with f_Facts:=({ S_c.zero with f_First:=x1.f_Facts.f_First,f_Open:=x1.f_Facts.f_Open || (decide (x0.f_Min = 0)),f_Fast:=x1.f_Facts.f_Fast && (decide (0 < x0.f_Min)),f_Prefix:=(⟨#[]⟩:ByteArray) }:S_c),f_whole:=(x1.f_whole && (decide (x0.f_Min = 1))) && (decide (x0.f_Max = 1)),f_none:=x1.f_none }:S_a)).f_Facts) x1.f_Facts.f_Prefix))) f165 (by rw [enc_str.len]; exact T.sz9) rfl (enc_str.one _) (Nat.le_trans hcn r69) (Nat.le_trans (Nat.le_of_eq (congrArg _ (eqL enc_str.len))) ((Seg.refl.sub (S_a.seg0 (({ S_a.zero with f_Facts:=({ S_c.zero with f_First:=x1.f_Facts.f_First,f_Open:=x1.f_Facts.f_Open || (decide (x0.f_Min = 0)),f_Fast:=x1.f_Facts.f_Fast && (decide (0 < x0.f_Min)),f_Prefix:=(⟨#[]⟩:ByteArray) }:S_c),f_whole:=(x1.f_whole && (decide (x0.f_Min = 1))) && (decide (x0.f_Max = 1)),f_none:=x1.f_none }:S_a)))).sub (S_c.seg3 ((({ S_a.zero with f_Facts:=({ S_c.zero with f_First:=x1.f_Facts.f_First,f_Open:=x1.f_Facts.f_Open || (decide (x0.f_Min = 0)),f_Fast:=x1.f_Facts.f_Fast && (decide (0 < x0.f_Min)),f_Prefix:=(⟨#[]⟩:ByteArray) }:S_c),f_whole:=(x1.f_whole && (decide (x0.f_Min = 1))) && (decide (x0.f_Max = 1)),f_none:=x1.f_none }:S_a)).f_Facts))).2) (by rw [wrs_in (Seg.refl.sub (S_a.seg0 (({ S_a.zero with f_Facts:=({ S_c.zero with f_First:=x1.f_Facts.f_First,f_Open:=x1.f_Facts.f_Open || (decide (x0.f_Min = 0)),f_Fast:=x1.f_Facts.f_Fast && (decide (0 < x0.f_Min)),f_Prefix:=(⟨#[]⟩:ByteArray) }:S_c),f_whole:=(x1.f_whole && (decide (x0.f_Min = 1))) && (decide (x0.f_Max = 1)),f_none:=x1.f_none }:S_a)))) (by have:=trivial; simp only [enc_str.len,S_c.enc.len]; omega),S_c.wr3 ((({ S_a.zero with f_Facts:=({ S_c.zero with f_First:=x1.f_Facts.f_First,f_Open:=x1.f_Facts.f_Open || (decide (x0.f_Min = 0)),f_Fast:=x1.f_Facts.f_Fast && (decide (0 < x0.f_Min)),f_Prefix:=(⟨#[]⟩:ByteArray) }:S_c),f_whole:=(x1.f_whole && (decide (x0.f_Min = 1))) && (decide (x0.f_Max = 1)),f_none:=x1.f_none }:S_a)).f_Facts) x1.f_Facts.f_Prefix,Nat.zero_add,S_a.wr0 (({ S_a.zero with f_Facts:=({ S_c.zero with f_First:=x1.f_Facts.f_First,f_Open:=x1.f_Facts.f_Open || (decide (x0.f_Min = 0)),f_Fast:=x1.f_Facts.f_Fast && (decide (0 < x0.f_Min)),f_Prefix:=(⟨#[]⟩:ByteArray) }:S_c),f_whole:=(x1.f_whole && (decide (x0.f_Min = 1))) && (decide (x0.f_Max = 1)),f_none:=x1.f_none }:S_a)) (S_c.w3 ((({ S_a.zero with f_Facts:=({ S_c.zero with f_First:=x1.f_Facts.f_First,f_Open:=x1.f_Facts.f_Open || (decide (x0.f_Min = 0)),f_Fast:=x1.f_Facts.f_Fast && (decide (0 < x0.f_Min)),f_Prefix:=(⟨#[]⟩:ByteArray) }:S_c),f_whole:=(x1.f_whole && (decide (x0.f_Min = 1))) && (decide (x0.f_Max = 1)),f_none:=x1.f_none }:S_a)).f_Facts) x1.f_Facts.f_Prefix)])
     have i199:=i167.up u198 r69
     have f200:=(u198.get _ (ne_len f32 q68)).trans f169
     have f201:=(u198.get _ (ne_len f25 q68)).trans f170
     simp only [C.f91r5,R,Nat.reduceEqDiff,fa107_0,h148,fa54_3,a194,h150,a196]
     refine hJ _ ?_
     refine n190 _ ?_
     exact ⟨S_a.zero,S_a.w0 (({ S_a.zero with f_Facts:=({ S_c.zero with f_First:=x1.f_Facts.f_First,f_Open:=x1.f_Facts.f_Open || (decide (x0.f_Min = 0)),f_Fast:=x1.f_Facts.f_Fast && (decide (0 < x0.f_Min)),f_Prefix:=(⟨#[]⟩:ByteArray) }:S_c),f_whole:=(x1.f_whole && (decide (x0.f_Min = 1))) && (decide (x0.f_Max = 1)),f_none:=x1.f_none }:S_a)) (S_c.w3 ((({ S_a.zero with f_Facts:=({ S_c.zero with f_First:=x1.f_Facts.f_First,f_Open:=x1.f_Facts.f_Open || (decide (x0.f_Min = 0)),f_Fast:=x1.f_Facts.f_Fast && (decide (0 < x0.f_Min)),f_Prefix:=(⟨#[]⟩:ByteArray) }:S_c),f_whole:=(x1.f_whole && (decide (x0.f_Min = 1))) && (decide (x0.f_Max = 1)),f_none:=x1.f_none }:S_a)).f_Facts) x1.f_Facts.f_Prefix),hm,h149,h150,f201,f197,i199⟩
    ·replace hm:=cond_f hm g193
     refine tk_skip okM ?_
     refine n190 _ ?_
     exact ⟨S_a.zero,({ S_a.zero with f_Facts:=({ S_c.zero with f_First:=x1.f_Facts.f_First,f_Open:=x1.f_Facts.f_Open || (decide (x0.f_Min = 0)),f_Fast:=x1.f_Facts.f_Fast && (decide (0 < x0.f_Min)),f_Prefix:=(⟨#[]⟩:ByteArray) }:S_c),f_whole:=(x1.f_whole && (decide (x0.f_Min = 1))) && (decide (x0.f_Max = 1)),f_none:=x1.f_none }:S_a),hm,h149,h150,f170,f165,i167⟩
def b_cq (c_bR:T_c0) (c_cF:T_de) (n:Nat) (x0:S_b):Option (Bool):=(bif (decide (x0.f_Kind < 0)) || (decide (18 ≤ x0.f_Kind)) then some true else ((c_bR x0).bind fun v26=>(c_cF x0).bind fun v29=>(c_bR v29).bind fun v31=>some (!decide (v26 = v31)))).bind fun y32=>bif y32 then (some false) else (bif !decide (x0.f_Kind = 10) then (some true) else (some (((((decide (0 ≤ x0.f_Min)) && (decide (x0.f_Min ≤ 100))) && ((decide (x0.f_Max = ((-1)))) || ((decide (x0.f_Min ≤ x0.f_Max)) && (decide (x0.f_Max ≤ 100))))) && (decide (0 ≤ x0.f_Mode))) && (decide (x0.f_Mode ≤ 2)))))
theorem w_fP {call:CallF} (hok:CallOk Mt call) {n:Nat} {c_bR:T_c0} (z_dO:A_d6 call c_bR) {c_cF:T_de} (z_fJ:A_er call c_cF) {H0:Hp} {x0:S_b} {r:Bool} {ro:Nat} (hro:ro ≤ H0.length) (hm:b_cq c_bR c_cF n x0 = some r) :
  Pt Mt ro 97 [(vAgg (S_b.c x0))] H0 (.bool (r)) H0 []:=by
 refine pt_new0 okM F97d (by exact Nat.le_of_ble_eq_true rfl) ?_ hro
 intro c hnt hnb hcr
 have hcn:c.ro ≤ c.nb:=by omega
 have iv:Iv c.nb [] H0 H0:=by rw [hnb]; exact iv_refl
 rw [show args0 [(vAgg (S_b.c x0))] = [(0,(vAgg (S_b.c x0)))] from rfl]
 rw [b_cq] at hm
 simp only [C.f97]
 refine tk_os okM hok fun J hJ=>?_
 obtain ⟨b1,H2,a3,f4,q5,r6,x7,i8⟩:=bx_ok (M:=Mt) (t:=72) (u:=(vAgg (S_b.c (x0)))) (cs:=S_b.c x0) H0 iv.le (by rw [S_b.enc.len]; exact T.sz72) vAgg_cells (S_b.enc.one _)
 have i9:=i8 _ _ iv
 simp only [C.f97r0,R,Nat.reduceEqDiff,a3]
 refine hJ _ ?_
 refine tk_seq_k fun K n11 x12=>?_
 refine tk_os okM hok fun J hJ=>?_
 rw [C.f97r1]
 have a13:=ld_one (M:=Mt) (t:=3) f4 T.ag3 (Seg.refl.sub (S_b.seg0 x0))
 refine rn_app_k (fun ⟨σ,H,_⟩=>Lk σ 1 (.pointer (some ⟨b1,0,none⟩)) ∧ Lk σ 10 (.bool ((decide (x0.f_Kind < 0)) || (decide (18 ≤ x0.f_Kind)))) ∧ H[b1]? = some (.cells (S_b.c x0) 72) ∧ Iv c.nb [] H0 H) (fun J hJ=>?_) ?_
 ·skip
  cases g20:decide (x0.f_Kind < 0)
  ·skip
   have a21:=ld_one (M:=Mt) (t:=3) f4 T.ag3 (Seg.refl.sub (S_b.seg0 x0))
   simp only [C.f97r1p0,R,Nat.reduceEqDiff,s_pt,s_gt,isW,Bool.false_eq_true,if_false,if_true,reduceIte,fa72_0,a13,g20,a21]
   refine hJ _ ?_
   exact ⟨rfl,(by first | rfl | (simp only [g20]; rfl) | simp only [g20,Lk,RB,Nat.reduceEqDiff,not_false_eq_true]),f4,i9⟩
  ·skip
   simp only [C.f97r1p0,R,Nat.reduceEqDiff,s_pt,s_gt,isW,Bool.false_eq_true,if_false,if_true,reduceIte,fa72_0,a13,g20]
   refine hJ _ ?_
   exact ⟨rfl,(by first | rfl | (simp only [g20]; rfl) | simp only [g20,Lk,RB,Nat.reduceEqDiff,not_false_eq_true]),f4,i9⟩
 rintro ⟨σ22,H15,d23⟩ ⟨h16,h17,f18,i19⟩
 obtain ⟨y32,ey32,hm⟩:=bind_s hm
 refine rn_k (fun ⟨σ,H,_⟩=>Lk σ 1 (.pointer (some ⟨b1,0,none⟩)) ∧ Lk σ 18 (.bool (y32)) ∧ H[b1]? = some (.cells (S_b.c x0) 72) ∧ Iv c.nb [] H0 H) (fun J hJ=>?_) ?_
 ·skip
  cases g38:(decide (x0.f_Kind < 0)) || (decide (18 ≤ x0.f_Kind))
  ·skip
   have ey32:=cond_f ey32 g38
   have a39:=ld_agg (M:=Mt) (t:=72) f18 T.ag72 (by rw [S_b.enc.len]; exact T.sz72) Seg.refl
   obtain ⟨v41,ev41,ey32⟩:=bind_s ey32
   have a40:=z_dO H15.length H15 x0 v41 ev41
   have a42:=ld_agg (M:=Mt) (t:=72) f18 T.ag72 (by rw [S_b.enc.len]; exact T.sz72) Seg.refl
   obtain ⟨v44,ev44,ey32⟩:=bind_s ey32
   have a43:=z_fJ H15.length H15 x0 v44 ev44
   obtain ⟨v46,ev46,ey32⟩:=bind_s ey32
   have a45:=z_dO H15.length H15 v44 v46 ev46
   obtain rfl:=Option.some.inj ey32
   simp only [C.f97r1p1,R,Nat.reduceEqDiff,s_pt,s_gt,isW,Bool.false_eq_true,if_false,if_true,reduceIte,h17,g38,a39,h16,c_fn F124,a40,a42,c_fn F125,a43,a45,neq72]
   refine hJ _ ?_
   exact ⟨h16,(by first | rfl | (simp only [g38]; rfl) | simp only [g38,Lk,RB,Nat.reduceEqDiff,not_false_eq_true]),f18,i19⟩
  ·skip
   have ey32:=cond_t ey32 g38
   obtain rfl:=Option.some.inj ey32
   simp only [C.f97r1p1,R,Nat.reduceEqDiff,s_pt,s_gt,isW,Bool.false_eq_true,if_false,if_true,reduceIte,h17,g38]
   refine hJ _ ?_
   exact ⟨h16,(by first | rfl | (simp only [g38]; rfl) | simp only [g38,Lk,RB,Nat.reduceEqDiff,not_false_eq_true]),f18,i19⟩
 rintro ⟨σ47,H33,d48⟩ ⟨h34,h35,f36,i37⟩
 refine hJ _ ?_
 refine tk_cond (t:=y32) h35 (fun g49=>?_) (fun g49=>?_)
 ·replace hm:=cond_t hm g49
  refine tk_os okM hok fun J hJ=>?_
  simp only [C.f97r2,R,Nat.reduceEqDiff]
  refine hJ _ ?_
  refine tk_ret okM ?_
  refine x12 _ _ (by simp) ?_
  obtain rfl:=Option.some.inj hm
  exact end_flat (.inl rfl) (vs:=[(.bool (false))]) (resT' (v:=(.bool (false))) rfl resN) (fm_cons rfl fm_nil)
 ·replace hm:=cond_f hm g49
  refine tk_skip okM ?_
  refine n11 _ ?_
  refine tk_seq_k fun K n50 x51=>?_
  refine tk_os okM hok fun J hJ=>?_
  have a52:=ld_one (M:=Mt) (t:=3) f36 T.ag3 (Seg.refl.sub (S_b.seg0 x0))
  simp only [C.f97r3,R,Nat.reduceEqDiff,fa72_0,h34,a52]
  refine hJ _ ?_
  refine tk_cond (t:=!decide (x0.f_Kind = 10)) rfl (fun g53=>?_) (fun g53=>?_)
  ·replace hm:=cond_t hm g53
   refine tk_os okM hok fun J hJ=>?_
   simp only [C.f97r4,R,Nat.reduceEqDiff]
   refine hJ _ ?_
   refine tk_ret okM ?_
   refine x51 _ _ (by simp) ?_
   obtain rfl:=Option.some.inj hm
   exact end_flat (.inl rfl) (vs:=[(.bool (true))]) (resT' (v:=(.bool (true))) rfl resN) (fm_cons rfl fm_nil)
  ·replace hm:=cond_f hm g53
   refine tk_skip okM ?_
   refine n50 _ ?_
   refine tk_os okM hok fun J hJ=>?_
   rw [C.f97r5]
   have a54:=ld_one (M:=Mt) (t:=3) f36 T.ag3 (Seg.refl.sub (S_b.seg4 x0))
   refine rn_app_k (fun ⟨σ,H,_⟩=>Lk σ 1 (.pointer (some ⟨b1,0,none⟩)) ∧ Lk σ 29 (.bool ((decide (0 ≤ x0.f_Min)) && (decide (x0.f_Min ≤ 100)))) ∧ H[b1]? = some (.cells (S_b.c x0) 72) ∧ Iv c.nb [] H0 H) (fun J hJ=>?_) ?_
   ·skip
    cases g61:decide (0 ≤ x0.f_Min)
    ·skip
     simp only [C.f97r5p0,R,Nat.reduceEqDiff,fa72_4,h34,a54,g61]
     refine hJ _ ?_
     exact ⟨h34,(by first | rfl | (simp only [g61]; rfl) | simp only [g61,Lk,RB,Nat.reduceEqDiff,not_false_eq_true]),f36,i37⟩
    ·skip
     have a62:=ld_one (M:=Mt) (t:=3) f36 T.ag3 (Seg.refl.sub (S_b.seg4 x0))
     simp only [C.f97r5p0,R,Nat.reduceEqDiff,fa72_4,h34,a54,g61,a62]
     refine hJ _ ?_
     exact ⟨h34,(by first | rfl | (simp only [g61]; rfl) | simp only [g61,Lk,RB,Nat.reduceEqDiff,not_false_eq_true]),f36,i37⟩
   rintro ⟨σ63,H56,d64⟩ ⟨h57,h58,f59,i60⟩
   refine rn_app_k (fun ⟨σ,H,_⟩=>Lk σ 1 (.pointer (some ⟨b1,0,none⟩)) ∧ Lk σ 46 (.bool (((decide (0 ≤ x0.f_Min)) && (decide (x0.f_Min ≤ 100))) && ((decide (x0.f_Max = ((-1)))) || ((decide (x0.f_Min ≤ x0.f_Max)) && (decide (x0.f_Max ≤ 100)))))) ∧ H[b1]? = some (.cells (S_b.c x0) 72) ∧ Iv c.nb [] H0 H) (fun J hJ=>?_) ?_
   ·skip
    cases g74:(decide (0 ≤ x0.f_Min)) && (decide (x0.f_Min ≤ 100))
    ·skip
     simp only [C.f97r5p1,R,Nat.reduceEqDiff,h58,g74]
     refine hJ _ ?_
     exact ⟨h57,(by first | rfl | (simp only [g74]; rfl) | simp only [g74,Lk,RB,Nat.reduceEqDiff,not_false_eq_true]),f59,i60⟩
    ·skip
     have a75:=ld_one (M:=Mt) (t:=3) f59 T.ag3 (Seg.refl.sub (S_b.seg5 x0))
     cases g79:decide (x0.f_Max = ((-1)))
     ·skip
      have a80:=ld_one (M:=Mt) (t:=3) f59 T.ag3 (Seg.refl.sub (S_b.seg5 x0))
      have a81:=ld_one (M:=Mt) (t:=3) f59 T.ag3 (Seg.refl.sub (S_b.seg4 x0))
      cases g83:decide (x0.f_Min ≤ x0.f_Max)
      ·skip
       simp only [C.f97r5p1,R,Nat.reduceEqDiff,h58,g74,fa72_5,h57,a75,g79,a80,fa72_4,a81,g83]
       refine hJ _ ?_
       exact ⟨h57,(by first | rfl | (simp only [g74,g79,g83]; rfl) | simp only [g74,g79,g83,Lk,RB,Nat.reduceEqDiff,not_false_eq_true]),f59,i60⟩
      ·skip
       have a84:=ld_one (M:=Mt) (t:=3) f59 T.ag3 (Seg.refl.sub (S_b.seg5 x0))
       simp only [C.f97r5p1,R,Nat.reduceEqDiff,h58,g74,fa72_5,h57,a75,g79,a80,fa72_4,a81,g83,a84]
       refine hJ _ ?_
       exact ⟨h57,(by first | rfl | (simp only [g74,g79,g83]; rfl) | simp only [g74,g79,g83,Lk,RB,Nat.reduceEqDiff,not_false_eq_true]),f59,i60⟩
     ·skip
      simp only [C.f97r5p1,R,Nat.reduceEqDiff,h58,g74,fa72_5,h57,a75,g79]
      refine hJ _ ?_
      exact ⟨h57,(by first | rfl | (simp only [g74,g79]; rfl) | simp only [g74,g79,Lk,RB,Nat.reduceEqDiff,not_false_eq_true]),f59,i60⟩
   rintro ⟨σ85,H69,d86⟩ ⟨h70,h71,f72,i73⟩
   refine rn_app_k (fun ⟨σ,H,_⟩=>Lk σ 1 (.pointer (some ⟨b1,0,none⟩)) ∧ Lk σ 51 (.bool ((((decide (0 ≤ x0.f_Min)) && (decide (x0.f_Min ≤ 100))) && ((decide (x0.f_Max = ((-1)))) || ((decide (x0.f_Min ≤ x0.f_Max)) && (decide (x0.f_Max ≤ 100))))) && (decide (0 ≤ x0.f_Mode)))) ∧ H[b1]? = some (.cells (S_b.c x0) 72) ∧ Iv c.nb [] H0 H) (fun J hJ=>?_) ?_
   ·skip
    cases g93:((decide (0 ≤ x0.f_Min)) && (decide (x0.f_Min ≤ 100))) && ((decide (x0.f_Max = ((-1)))) || ((decide (x0.f_Min ≤ x0.f_Max)) && (decide (x0.f_Max ≤ 100))))
    ·skip
     simp only [C.f97r5p2,R,Nat.reduceEqDiff,h71,g93]
     refine hJ _ ?_
     exact ⟨h70,(by first | rfl | (simp only [g93]; rfl) | simp only [g93,Lk,RB,Nat.reduceEqDiff,not_false_eq_true]),f72,i73⟩
    ·skip
     have a94:=ld_one (M:=Mt) (t:=3) f72 T.ag3 (Seg.refl.sub (S_b.seg6 x0))
     simp only [C.f97r5p2,R,Nat.reduceEqDiff,h71,g93,fa72_6,h70,a94]
     refine hJ _ ?_
     exact ⟨h70,(by first | rfl | (simp only [g93]; rfl) | simp only [g93,Lk,RB,Nat.reduceEqDiff,not_false_eq_true]),f72,i73⟩
   rintro ⟨σ95,H88,d96⟩ ⟨h89,h90,f91,i92⟩
   refine rn_app_k (fun ⟨σ,H,_⟩=>Lk σ 56 (.bool (((((decide (0 ≤ x0.f_Min)) && (decide (x0.f_Min ≤ 100))) && ((decide (x0.f_Max = ((-1)))) || ((decide (x0.f_Min ≤ x0.f_Max)) && (decide (x0.f_Max ≤ 100))))) && (decide (0 ≤ x0.f_Mode))) && (decide (x0.f_Mode ≤ 2)))) ∧ Iv c.nb [] H0 H) (fun J hJ=>?_) ?_
   ·skip
    cases g101:(((decide (0 ≤ x0.f_Min)) && (decide (x0.f_Min ≤ 100))) && ((decide (x0.f_Max = ((-1)))) || ((decide (x0.f_Min ≤ x0.f_Max)) && (decide (x0.f_Max ≤ 100))))) && (decide (0 ≤ x0.f_Mode))
    ·skip
     simp only [C.f97r5p3,R,Nat.reduceEqDiff,h90,g101]
     refine hJ _ ?_
     exact ⟨(by first | rfl | (simp only [g101]; rfl) | simp only [g101,Lk,RB,Nat.reduceEqDiff,not_false_eq_true]),i92⟩
    ·skip
     have a102:=ld_one (M:=Mt) (t:=3) f91 T.ag3 (Seg.refl.sub (S_b.seg6 x0))
     simp only [C.f97r5p3,R,Nat.reduceEqDiff,h90,g101,fa72_6,h89,a102]
     refine hJ _ ?_
     exact ⟨(by first | rfl | (simp only [g101]; rfl) | simp only [g101,Lk,RB,Nat.reduceEqDiff,not_false_eq_true]),i92⟩
   rintro ⟨σ103,H98,d104⟩ ⟨h99,i100⟩
   simp only [C.f97r5p4,R,Nat.reduceEqDiff,h99]
   refine hJ _ ?_
   refine tk_ret okM ?_
   obtain rfl:=Option.some.inj hm
   exact end_flat (.inl rfl) (vs:=[(.bool (((((decide (0 ≤ x0.f_Min)) && (decide (x0.f_Min ≤ 100))) && ((decide (x0.f_Max = ((-1)))) || ((decide (x0.f_Min ≤ x0.f_Max)) && (decide (x0.f_Max ≤ 100))))) && (decide (0 ≤ x0.f_Mode))) && (decide (x0.f_Mode ≤ 2))))]) (resT' (v:=(.bool (((((decide (0 ≤ x0.f_Min)) && (decide (x0.f_Min ≤ 100))) && ((decide (x0.f_Max = ((-1)))) || ((decide (x0.f_Min ≤ x0.f_Max)) && (decide (x0.f_Max ≤ 100))))) && (decide (0 ≤ x0.f_Mode))) && (decide (x0.f_Mode ≤ 2))))) rfl resN) (fm_cons rfl fm_nil)
def b_J (n:Nat) (x0:(Sl Int)):Nat → Int → Int → Option (Int)
 | 0,_,_=>none
 | k + 1,x3_16,x4_17=>bif decide (x4_17 < (Sl.len x0)) then ((ck (Sl.l x0).length x4_17).bind fun j35=>b_J n x0 k (max x3_16 (Sl.nth x0 j35)) (IntKind.i64.wrap (x4_17 + 1))) else (some x3_16)
def b_bk (n:Nat) (x0:(Sl Int)):Option (Int):=(ck (Sl.l x0).length 0).bind fun j7=>b_J n x0 n (Sl.nth x0 j7) 1
def b_bv (n:Nat) (x0:(Sl Int)):Option (Int):=bif decide ((Sl.len x0) < 1) then (none) else (b_bk n x0)
theorem w_eH {call:CallF} (hok:CallOk Mt call) {n:Nat} {H0:Hp} {x0:(Sl Int)} {b0:Nat} {r:Int} {ro:Nat} (hro:ro ≤ H0.length) (h0:SlH H0 (cInt .i64) 3 x0 b0) (hm:b_bv n x0 = some r) :
  Pt Mt ro 98 [(slV x0 b0)] H0 (.int .i64 (r)) H0 []:=by
 refine pt_new0 okM F98d (by exact Nat.le_of_ble_eq_true rfl) ?_ hro
 intro c hnt hnb hcr
 have hcn:c.ro ≤ c.nb:=by omega
 have l0:x0 ≠ none → b0 < c.nb:=fun h=>by rw [hnb]; exact h0.lt h
 have iv:Iv c.nb [] H0 H0:=by rw [hnb]; exact iv_refl
 rw [show args0 [(slV x0 b0)] = [(0,(slV x0 b0))] from rfl]
 rw [b_bv] at hm
 simp only [C.f98,C.f98b0]
 refine tk_os okM hok fun J hJ=>?_
 simp only [C.f98r0,R,Nat.reduceEqDiff]
 refine hJ _ ?_
 refine tk_seq_j (fun ⟨σ,H,_⟩=>b_bk n x0 = some r ∧ Lk σ 0 (slV x0 b0) ∧ Iv c.nb [] H0 H) ?_ ?_
 ·skip
  rintro ⟨σ5,H2,d6⟩ ⟨hm,h3,i4⟩
  rw [b_bk] at hm
  refine tk_os okM hok fun J hJ=>?_
  obtain ⟨j7,ej7,hm⟩:=bind_s hm
  obtain ⟨mm8,k9⟩:=(h0.iv l0 (fun _=>by simp) i4).blk (ck_lt ej7).1
  have a10:=lds_one (M:=Mt) (t:=3) k9 T.ag3 (seg_sl enc_int.len mm8 (ck_lt ej7).1)
  simp only [C.f98r3,R,Nat.reduceEqDiff,h3,ia100,ej7,a10]
  refine hJ _ ?_
  refine tk_seq_k fun K n11 x12=>?_
  refine tk_os okM hok fun J hJ=>?_
  simp only [C.f98r4,R,Nat.reduceEqDiff]
  refine hJ _ ?_
  refine tk_block_k fun K n13 e14 x15=>?_
  refine tk_loop_k (n:=n) (fun k2 ⟨σ,H,_⟩=>∃ x3_16 x4_17,b_J n x0 k2 x3_16 x4_17 = some r ∧ Lk σ 0 (slV x0 b0) ∧ Lk σ 3 (.int .i64 x3_16) ∧ Lk σ 4 (.int .i64 x4_17) ∧ Iv c.nb [] H0 H) ?_ ?_ ?_
  ·exact ⟨Sl.nth x0 j7,1,hm,h3,rfl,rfl,i4⟩
  ·rintro ⟨σ,H,d⟩ ⟨_,_,hm,_⟩
   cases hm
  ·intro k2 K n18 x19
   rintro ⟨σ25,H20,d26⟩ ⟨x3_16,x4_17,hm,h21,h22,h23,i24⟩
   rw [b_J.eq_2] at hm
   refine tk_seq_k fun K n27 x28=>?_
   refine tk_os okM hok fun J hJ=>?_
   simp only [C.f98r5,R,Nat.reduceEqDiff,h23,h21,ln100]
   refine hJ _ ?_
   refine tk_cond (t:=decide (x4_17 < (Sl.len x0))) rfl (fun g29=>?_) (fun g29=>?_)
   ·replace hm:=cond_t hm g29
    refine tk_skip okM ?_
    refine n27 _ ?_
    refine tk_seq_k fun K n30 x31=>?_
    refine tk_block_k fun K n32 e33 x34=>?_
    refine tk_oe okM hok fun J hJ=>?_
    obtain ⟨j35,ej35,hm⟩:=bind_s hm
    obtain ⟨mm36,k37⟩:=(h0.iv l0 (fun _=>by simp) i24).blk (ck_lt ej35).1
    have a38:=lds_one (M:=Mt) (t:=3) k37 T.ag3 (seg_sl enc_int.len mm36 (ck_lt ej35).1)
    simp only [C.f98r7,R,Nat.reduceEqDiff,h22,h21,h23,ia100,ej35,a38]
    refine hJ _ ?_
    refine n32 _ ?_
    refine n30 _ ?_
    refine tk_oe okM hok fun J hJ=>?_
    simp only [C.f98r6,R,Nat.reduceEqDiff,h23]
    refine hJ _ ?_
    refine n18 _ ?_
    exact ⟨max x3_16 (Sl.nth x0 j35),IntKind.i64.wrap (x4_17 + 1),hm,h21,rfl,rfl,i24⟩
   ·replace hm:=cond_f hm g29
    refine tk_exit okM ?_
    refine x28 _ _ (by simp) ?_
    refine x19 _ _ (by simp) ?_
    refine e14 _ ?_
    refine n11 _ ?_
    refine tk_os okM hok fun J hJ=>?_
    simp only [C.f98r8,R,Nat.reduceEqDiff,h22]
    refine hJ _ ?_
    refine tk_ret okM ?_
    obtain rfl:=Option.some.inj hm
    exact end_flat (.inl rfl) (vs:=[(.int .i64 (x3_16))]) (resT' (v:=(.int .i64 (x3_16))) rfl resN) (fm_cons rfl fm_nil)
 ·refine fun K n39 x40=>?_
  refine tk_os okM hok fun J hJ=>?_
  simp only [C.f98r1,R,Nat.reduceEqDiff,ln100]
  refine hJ _ ?_
  refine tk_cond (t:=decide ((Sl.len x0) < 1)) rfl (fun g41=>?_) (fun g41=>?_)
  ·replace hm:=cond_t hm g41
   cases hm
  ·replace hm:=cond_f hm g41
   refine tk_skip okM ?_
   refine n39 _ ?_
   exact ⟨hm,rfl,iv⟩
def b_dJ (n:Nat) (x0:Int) (x1:Int):Option (Int):=bif (decide (x0 = ((-1)))) || (decide (x1 = ((-1)))) then (some ((-1))) else (some (min (IntKind.i64.wrap (x0 + x1)) 1048576))
theorem w_gQ {call:CallF} (hok:CallOk Mt call) {n:Nat} {H0:Hp} {x0:Int} {x1:Int} {r:Int} {ro:Nat} (hro:ro ≤ H0.length) (hm:b_dJ n x0 x1 = some r) :
  Pt Mt ro 99 [(.int .i64 x0),(.int .i64 x1)] H0 (.int .i64 (r)) H0 []:=by
 refine pt_new0 okM F99d (by exact Nat.le_of_ble_eq_true rfl) ?_ hro
 intro c hnt hnb hcr
 have hcn:c.ro ≤ c.nb:=by omega
 have iv:Iv c.nb [] H0 H0:=by rw [hnb]; exact iv_refl
 rw [show args0 [(.int .i64 x0),(.int .i64 x1)] = [(0,(.int .i64 x0)),(1,(.int .i64 x1))] from rfl]
 rw [b_dJ] at hm
 simp only [C.f99]
 refine tk_os okM hok fun J hJ=>?_
 simp only [C.f99r0,R,Nat.reduceEqDiff]
 refine hJ _ ?_
 refine tk_seq_k fun K n1 x2=>?_
 refine tk_os okM hok fun J hJ=>?_
 refine rn_k (fun ⟨σ,H,_⟩=>Lk σ 0 (.int .i64 (x0)) ∧ Lk σ 1 (.int .i64 (x1)) ∧ Lk σ 10 (.bool ((decide (x0 = ((-1)))) || (decide (x1 = ((-1)))))) ∧ Iv c.nb [] H0 H) (fun J hJ=>?_) ?_
 ·skip
  cases g8:decide (x0 = ((-1)))
  ·skip
   simp only [C.f99r1,R,Nat.reduceEqDiff,g8]
   refine hJ _ ?_
   exact ⟨(by first | rfl | (simp only [g8]; rfl) | simp only [g8,Lk,RB,Nat.reduceEqDiff,not_false_eq_true]),(by first | rfl | (simp only [g8]; rfl) | simp only [g8,Lk,RB,Nat.reduceEqDiff,not_false_eq_true]),(by first | rfl | (simp only [g8]; rfl) | simp only [g8,Lk,RB,Nat.reduceEqDiff,not_false_eq_true]),iv⟩
  ·skip
   simp only [C.f99r1,R,Nat.reduceEqDiff,g8]
   refine hJ _ ?_
   exact ⟨(by first | rfl | (simp only [g8]; rfl) | simp only [g8,Lk,RB,Nat.reduceEqDiff,not_false_eq_true]),(by first | rfl | (simp only [g8]; rfl) | simp only [g8,Lk,RB,Nat.reduceEqDiff,not_false_eq_true]),(by first | rfl | (simp only [g8]; rfl) | simp only [g8,Lk,RB,Nat.reduceEqDiff,not_false_eq_true]),iv⟩
 rintro ⟨σ9,H3,d10⟩ ⟨h4,h5,h6,i7⟩
 refine hJ _ ?_
 refine tk_cond (t:=(decide (x0 = ((-1)))) || (decide (x1 = ((-1))))) h6 (fun g11=>?_) (fun g11=>?_)
 ·replace hm:=cond_t hm g11
  refine tk_os okM hok fun J hJ=>?_
  simp only [C.f99r2,R,Nat.reduceEqDiff]
  refine hJ _ ?_
  refine tk_ret okM ?_
  refine x2 _ _ (by simp) ?_
  obtain rfl:=Option.some.inj hm
  exact end_flat (.inl rfl) (vs:=[(.int .i64 ((-1)))]) (resT' (v:=(.int .i64 ((-1)))) rfl resN) (fm_cons rfl fm_nil)
 ·replace hm:=cond_f hm g11
  refine tk_skip okM ?_
  refine n1 _ ?_
  refine tk_os okM hok fun J hJ=>?_
  simp only [C.f99r3,R,Nat.reduceEqDiff,h4,h5]
  refine hJ _ ?_
  refine tk_ret okM ?_
  obtain rfl:=Option.some.inj hm
  exact end_flat (.inl rfl) (vs:=[(.int .i64 (min (IntKind.i64.wrap (x0 + x1)) 1048576))]) (resT' (v:=(.int .i64 (min (IntKind.i64.wrap (x0 + x1)) 1048576))) rfl resN) (fm_cons rfl fm_nil)
def b_dm (n:Nat) (x0:Int) (x1:Int):Option (Int):=bif (decide (x0 = 0)) || (decide (x1 = 0)) then (some 0) else (bif (decide (x0 = ((-1)))) || (decide (x1 = ((-1)))) then (some ((-1))) else (some (min (IntKind.i64.wrap (x0 * x1)) 1048576)))
theorem w_gN {call:CallF} (hok:CallOk Mt call) {n:Nat} {H0:Hp} {x0:Int} {x1:Int} {r:Int} {ro:Nat} (hro:ro ≤ H0.length) (hm:b_dm n x0 x1 = some r) :
  Pt Mt ro 100 [(.int .i64 x0),(.int .i64 x1)] H0 (.int .i64 (r)) H0 []:=by
 refine pt_new0 okM F100d (by exact Nat.le_of_ble_eq_true rfl) ?_ hro
 intro c hnt hnb hcr
 have hcn:c.ro ≤ c.nb:=by omega
 have iv:Iv c.nb [] H0 H0:=by rw [hnb]; exact iv_refl
 rw [show args0 [(.int .i64 x0),(.int .i64 x1)] = [(0,(.int .i64 x0)),(1,(.int .i64 x1))] from rfl]
 rw [b_dm] at hm
 simp only [C.f100]
 refine tk_os okM hok fun J hJ=>?_
 simp only [C.f100r0,R,Nat.reduceEqDiff]
 refine hJ _ ?_
 refine tk_seq_k fun K n1 x2=>?_
 refine tk_block_k fun K n3 e4 x5=>?_
 refine tk_os okM hok fun J hJ=>?_
 rw [C.f100r1]
 refine rn_app_k (fun ⟨σ,H,_⟩=>Lk σ 0 (.int .i64 (x0)) ∧ Lk σ 1 (.int .i64 (x1)) ∧ Lk σ 11 (.bool ((decide (x0 = 0)) || (decide (x1 = 0)))) ∧ Iv c.nb [] H0 H) (fun J hJ=>?_) ?_
 ·skip
  cases g11:decide (x0 = 0)
  ·skip
   simp only [C.f100r1p0,R,Nat.reduceEqDiff,g11]
   refine hJ _ ?_
   exact ⟨(by first | rfl | (simp only [g11]; rfl) | simp only [g11,Lk,RB,Nat.reduceEqDiff,not_false_eq_true]),(by first | rfl | (simp only [g11]; rfl) | simp only [g11,Lk,RB,Nat.reduceEqDiff,not_false_eq_true]),(by first | rfl | (simp only [g11]; rfl) | simp only [g11,Lk,RB,Nat.reduceEqDiff,not_false_eq_true]),iv⟩
  ·skip
   simp only [C.f100r1p0,R,Nat.reduceEqDiff,g11]
   refine hJ _ ?_
   exact ⟨(by first | rfl | (simp only [g11]; rfl) | simp only [g11,Lk,RB,Nat.reduceEqDiff,not_false_eq_true]),(by first | rfl | (simp only [g11]; rfl) | simp only [g11,Lk,RB,Nat.reduceEqDiff,not_false_eq_true]),(by first | rfl | (simp only [g11]; rfl) | simp only [g11,Lk,RB,Nat.reduceEqDiff,not_false_eq_true]),iv⟩
 rintro ⟨σ12,H6,d13⟩ ⟨h7,h8,h9,i10⟩
 simp only [C.f100r1p1,R,Nat.reduceEqDiff,h9]
 refine hJ _ ?_
 refine tk_cond (t:=(decide (x0 = 0)) || (decide (x1 = 0))) rfl (fun g14=>?_) (fun g14=>?_)
 ·replace hm:=cond_t hm g14
  refine tk_os okM hok fun J hJ=>?_
  simp only [C.f100r2,R,Nat.reduceEqDiff]
  refine hJ _ ?_
  refine tk_ret okM ?_
  refine x5 _ _ (by simp) (by simp) ?_
  refine x2 _ _ (by simp) ?_
  obtain rfl:=Option.some.inj hm
  exact end_flat (.inl rfl) (vs:=[(.int .i64 (0))]) (resT' (v:=(.int .i64 (0))) rfl resN) (fm_cons rfl fm_nil)
 ·replace hm:=cond_f hm g14
  refine tk_os okM hok fun J hJ=>?_
  rw [C.f100r3]
  refine rn_app_k (fun ⟨σ,H,_⟩=>Lk σ 0 (.int .i64 (x0)) ∧ Lk σ 1 (.int .i64 (x1)) ∧ Lk σ 18 (.bool ((decide (x0 = ((-1)))) || (decide (x1 = ((-1)))))) ∧ Iv c.nb [] H0 H) (fun J hJ=>?_) ?_
  ·skip
   cases g20:decide (x0 = ((-1)))
   ·skip
    simp only [C.f100r3p0,R,Nat.reduceEqDiff,h7,g20,h8]
    refine hJ _ ?_
    exact ⟨h7,h8,(by first | rfl | (simp only [g20]; rfl) | simp only [g20,Lk,RB,Nat.reduceEqDiff,not_false_eq_true]),i10⟩
   ·skip
    simp only [C.f100r3p0,R,Nat.reduceEqDiff,h7,g20]
    refine hJ _ ?_
    exact ⟨h7,h8,(by first | rfl | (simp only [g20]; rfl) | simp only [g20,Lk,RB,Nat.reduceEqDiff,not_false_eq_true]),i10⟩
  rintro ⟨σ21,H15,d22⟩ ⟨h16,h17,h18,i19⟩
  simp only [C.f100r3p1,R,Nat.reduceEqDiff,h18]
  refine hJ _ ?_
  refine tk_cond (t:=(decide (x0 = ((-1)))) || (decide (x1 = ((-1))))) rfl (fun g23=>?_) (fun g23=>?_)
  ·replace hm:=cond_t hm g23
   refine tk_os okM hok fun J hJ=>?_
   simp only [C.f100r4,R,Nat.reduceEqDiff]
   refine hJ _ ?_
   refine tk_ret okM ?_
   refine x5 _ _ (by simp) (by simp) ?_
   refine x2 _ _ (by simp) ?_
   obtain rfl:=Option.some.inj hm
   exact end_flat (.inl rfl) (vs:=[(.int .i64 ((-1)))]) (resT' (v:=(.int .i64 ((-1)))) rfl resN) (fm_cons rfl fm_nil)
  ·replace hm:=cond_f hm g23
   refine tk_skip okM ?_
   refine n3 _ ?_
   refine n1 _ ?_
   refine tk_os okM hok fun J hJ=>?_
   simp only [C.f100r5,R,Nat.reduceEqDiff,h16,h17]
   refine hJ _ ?_
   refine tk_ret okM ?_
   obtain rfl:=Option.some.inj hm
   exact end_flat (.inl rfl) (vs:=[(.int .i64 (min (IntKind.i64.wrap (x0 * x1)) 1048576))]) (resT' (v:=(.int .i64 (min (IntKind.i64.wrap (x0 * x1)) 1048576))) rfl resN) (fm_cons rfl fm_nil)
def b_cc (n:Nat) (x0:Int) (x1:(Sl Int)):Option (Int):=(ck (Sl.l x1).length x0).bind fun j4=>some (IntKind.i64.wrap ((IntKind.i64.wrap (x0 - (Sl.nth x1 j4))) + 1))
theorem w_fr {call:CallF} (hok:CallOk Mt call) {n:Nat} {H0:Hp} {x0:Int} {x1:(Sl Int)} {b1:Nat} {s1:Nat} {r:Int} {ro:Nat} (hro:ro ≤ H0.length) (hb1:H0[b1]? = some (.cells [slV x1 s1] 100)) (h1:SlH H0 (cInt .i64) 3 x1 s1) (hm:b_cc n x0 x1 = some r) :
  Pt Mt ro 102 [(.int .i64 x0),(.pointer (some ⟨b1,0,none⟩))] H0 (.int .i64 (r)) H0 []:=by
 refine pt_new0 okM F102d (by exact Nat.le_of_ble_eq_true rfl) ?_ hro
 intro c hnt hnb hcr
 have hcn:c.ro ≤ c.nb:=by omega
 have lb1:b1 < c.nb:=by rw [hnb]; exact get_lt hb1
 have l1:x1 ≠ none → s1 < c.nb:=fun h=>by rw [hnb]; exact h1.lt h
 have iv:Iv c.nb [] H0 H0:=by rw [hnb]; exact iv_refl
 rw [show args0 [(.int .i64 x0),(.pointer (some ⟨b1,0,none⟩))] = [(0,(.int .i64 x0)),(1,(.pointer (some ⟨b1,0,none⟩)))] from rfl]
 rw [b_cc] at hm
 simp only [C.f102]
 refine tk_os okM hok fun J hJ=>?_
 simp only [C.f102r0,R,Nat.reduceEqDiff]
 refine hJ _ ?_
 refine tk_os okM hok fun J hJ=>?_
 have a3:=ld_one (M:=Mt) (t:=100) ((iv.old b1 lb1 (by simp)).trans hb1) T.ag100 Seg.refl
 obtain ⟨j4,ej4,hm⟩:=bind_s hm
 obtain ⟨mm5,k6⟩:=(h1.iv l1 (fun _=>by simp) iv).blk (ck_lt ej4).1
 have a7:=lds_one (M:=Mt) (t:=3) k6 T.ag3 (seg_sl enc_int.len mm5 (ck_lt ej4).1)
 simp only [C.f102r1,R,Nat.reduceEqDiff,a3,ia100,ej4,a7]
 refine hJ _ ?_
 refine tk_ret okM ?_
 obtain rfl:=Option.some.inj hm
 exact end_flat (.inl rfl) (vs:=[(.int .i64 (IntKind.i64.wrap ((IntKind.i64.wrap (x0 - (Sl.nth x1 j4))) + 1)))]) (resT' (v:=(.int .i64 (IntKind.i64.wrap ((IntKind.i64.wrap (x0 - (Sl.nth x1 j4))) + 1)))) rfl resN) (fm_cons rfl fm_nil)
def b_b9 (c_bH:T_cT) (n:Nat) (x0:Int) (x1:Int) (x2:(Sl Int)) (x3:(Sl Int)):Option (Int):=(c_bH x0 x2).bind fun v10=>(c_bH x1 x2).bind fun v13=>bif !decide ((IntKind.i64.wrap (v10 - v13)) = 0) then (some (IntKind.i64.wrap (v10 - v13))) else ((ck (Sl.l x3).length x1).bind fun j16=>(ck (Sl.l x3).length x0).bind fun j21=>some (IntKind.i64.wrap ((Sl.nth x3 j16) - (Sl.nth x3 j21))))
theorem w_fq {call:CallF} (hok:CallOk Mt call) {n:Nat} {c_bH:T_cT} (z_dF:A_dW call c_bH) {H0:Hp} {x0:Int} {x1:Int} {x2:(Sl Int)} {d2:Nat} {b2:Nat} {s2:Nat} {x3:(Sl Int)} {b3:Nat} {s3:Nat} {r:Int} {ro:Nat} (hro:ro ≤ H0.length) (hd2:H0[d2]? = some (.cells [.func (.func 102) [].toArray [(.pointer (some ⟨b2,0,none⟩))].toArray] 99)) (hb2:H0[b2]? = some (.cells [slV x2 s2] 100)) (h2:SlH H0 (cInt .i64) 3 x2 s2) (hb3:H0[b3]? = some (.cells [slV x3 s3] 100)) (h3:SlH H0 (cInt .i64) 3 x3 s3) (hm:b_b9 c_bH n x0 x1 x2 x3 = some r) :
  Pt Mt ro 104 [(.int .i64 x0),(.int .i64 x1),(.pointer (some ⟨d2,0,none⟩)),(.pointer (some ⟨b3,0,none⟩))] H0 (.int .i64 (r)) H0 []:=by
 refine pt_new0 okM F104d (by exact Nat.le_of_ble_eq_true rfl) ?_ hro
 intro c hnt hnb hcr
 have hcn:c.ro ≤ c.nb:=by omega
 have lb2:b2 < c.nb:=by rw [hnb]; exact get_lt hb2
 have l2:x2 ≠ none → s2 < c.nb:=fun h=>by rw [hnb]; exact h2.lt h
 have ld2:d2 < c.nb:=by rw [hnb]; exact get_lt hd2
 have lb3:b3 < c.nb:=by rw [hnb]; exact get_lt hb3
 have l3:x3 ≠ none → s3 < c.nb:=fun h=>by rw [hnb]; exact h3.lt h
 have iv:Iv c.nb [] H0 H0:=by rw [hnb]; exact iv_refl
 rw [show args0 [(.int .i64 x0),(.int .i64 x1),(.pointer (some ⟨d2,0,none⟩)),(.pointer (some ⟨b3,0,none⟩))] = [(0,(.int .i64 x0)),(1,(.int .i64 x1)),(2,(.pointer (some ⟨d2,0,none⟩))),(3,(.pointer (some ⟨b3,0,none⟩)))] from rfl]
 rw [b_b9] at hm
 simp only [C.f104]
 refine tk_os okM hok fun J hJ=>?_
 simp only [C.f104r0,R,Nat.reduceEqDiff]
 refine hJ _ ?_
 refine tk_seq_k fun K n6 x7=>?_
 refine tk_os okM hok fun J hJ=>?_
 have a8:=ld_one (M:=Mt) (t:=99) ((iv.old d2 ld2 (by simp)).trans hd2) T.ag99 Seg.refl
 obtain ⟨v10,ev10,hm⟩:=bind_s hm
 have a9:=z_dF H0.length H0 x0 x2 b2 s2 v10 ((iv.old b2 lb2 (by simp)).trans hb2) (h2.iv l2 (fun _=>by simp) iv) ev10
 have a11:=ld_one (M:=Mt) (t:=99) ((iv.old d2 ld2 (by simp)).trans hd2) T.ag99 Seg.refl
 obtain ⟨v13,ev13,hm⟩:=bind_s hm
 have a12:=z_dF H0.length H0 x1 x2 b2 s2 v13 ((iv.old b2 lb2 (by simp)).trans hb2) (h2.iv l2 (fun _=>by simp) iv) ev13
 simp only [C.f104r1,R,Nat.reduceEqDiff,s_pt,s_gt,isW,Bool.false_eq_true,if_false,if_true,reduceIte,a8,c_cl,cl_fn F102,List.toList_toArray,List.nil_append,List.append_nil,List.cons_append,a9,a11,a12]
 refine hJ _ ?_
 refine tk_os okM hok fun J hJ=>?_
 simp only [C.f104r2,R,Nat.reduceEqDiff]
 refine hJ _ ?_
 refine tk_cond (t:=!decide ((IntKind.i64.wrap (v10 - v13)) = 0)) rfl (fun g14=>?_) (fun g14=>?_)
 ·replace hm:=cond_t hm g14
  refine tk_os okM hok fun J hJ=>?_
  simp only [C.f104r3,R,Nat.reduceEqDiff]
  refine hJ _ ?_
  refine tk_ret okM ?_
  refine x7 _ _ (by simp) ?_
  obtain rfl:=Option.some.inj hm
  exact end_flat (.inl rfl) (vs:=[(.int .i64 (IntKind.i64.wrap (v10 - v13)))]) (resT' (v:=(.int .i64 (IntKind.i64.wrap (v10 - v13)))) rfl resN) (fm_cons rfl fm_nil)
 ·replace hm:=cond_f hm g14
  refine tk_skip okM ?_
  refine n6 _ ?_
  refine tk_os okM hok fun J hJ=>?_
  have a15:=ld_one (M:=Mt) (t:=100) ((iv.old b3 lb3 (by simp)).trans hb3) T.ag100 Seg.refl
  obtain ⟨j16,ej16,hm⟩:=bind_s hm
  obtain ⟨mm17,k18⟩:=(h3.iv l3 (fun _=>by simp) iv).blk (ck_lt ej16).1
  have a19:=lds_one (M:=Mt) (t:=3) k18 T.ag3 (seg_sl enc_int.len mm17 (ck_lt ej16).1)
  have a20:=ld_one (M:=Mt) (t:=100) ((iv.old b3 lb3 (by simp)).trans hb3) T.ag100 Seg.refl
  obtain ⟨j21,ej21,hm⟩:=bind_s hm
  obtain ⟨mm22,k23⟩:=(h3.iv l3 (fun _=>by simp) iv).blk (ck_lt ej21).1
  have a24:=lds_one (M:=Mt) (t:=3) k23 T.ag3 (seg_sl enc_int.len mm22 (ck_lt ej21).1)
  simp only [C.f104r4,R,Nat.reduceEqDiff,s_pt,s_gt,isW,Bool.false_eq_true,if_false,if_true,reduceIte,a15,ia100,ej16,a19,a20,ej21,a24]
  refine hJ _ ?_
  refine tk_ret okM ?_
  obtain rfl:=Option.some.inj hm
  exact end_flat (.inl rfl) (vs:=[(.int .i64 (IntKind.i64.wrap ((Sl.nth x3 j16) - (Sl.nth x3 j21))))]) (resT' (v:=(.int .i64 (IntKind.i64.wrap ((Sl.nth x3 j16) - (Sl.nth x3 j21))))) rfl resN) (fm_cons rfl fm_nil)
def b_ca (n:Nat) (x0:S_b) (x1:(Sl Int)):Option (Bool):=some ((decide (x0.f_Kind = 12)) && ((decide (x0.f_N < 1)) || (decide ((Sl.len x1) < x0.f_N))))
theorem w_ft {call:CallF} (hok:CallOk Mt call) {n:Nat} {H0:Hp} {x0:S_b} {x1:(Sl Int)} {b1:Nat} {s1:Nat} {r:Bool} {ro:Nat} (hro:ro ≤ H0.length) (hb1:H0[b1]? = some (.cells [slV x1 s1] 100)) (h1:SlH H0 (cInt .i64) 3 x1 s1) (hm:b_ca n x0 x1 = some r) :
  Pt Mt ro 105 [(vAgg (S_b.c x0)),(.pointer (some ⟨b1,0,none⟩))] H0 (.bool (r)) H0 []:=by
 refine pt_new0 okM F105d (by exact Nat.le_of_ble_eq_true rfl) ?_ hro
 intro c hnt hnb hcr
 have hcn:c.ro ≤ c.nb:=by omega
 have lb1:b1 < c.nb:=by rw [hnb]; exact get_lt hb1
 have l1:x1 ≠ none → s1 < c.nb:=fun h=>by rw [hnb]; exact h1.lt h
 have iv:Iv c.nb [] H0 H0:=by rw [hnb]; exact iv_refl
 rw [show args0 [(vAgg (S_b.c x0)),(.pointer (some ⟨b1,0,none⟩))] = [(0,(vAgg (S_b.c x0))),(1,(.pointer (some ⟨b1,0,none⟩)))] from rfl]
 rw [b_ca] at hm
 simp only [C.f105]
 refine tk_os okM hok fun J hJ=>?_
 obtain ⟨b3,H4,a5,f6,q7,r8,x9,i10⟩:=bx_ok (M:=Mt) (t:=72) (u:=(vAgg (S_b.c (x0)))) (cs:=S_b.c x0) H0 iv.le (by rw [S_b.enc.len]; exact T.sz72) vAgg_cells (S_b.enc.one _)
 have i11:=i10 _ _ iv
 simp only [C.f105r0,R,Nat.reduceEqDiff,a5]
 refine hJ _ ?_
 refine tk_os okM hok fun J hJ=>?_
 rw [C.f105r1]
 have a13:=ld_one (M:=Mt) (t:=3) f6 T.ag3 (Seg.refl.sub (S_b.seg0 x0))
 refine rn_app_k (fun ⟨σ,H,_⟩=>Lk σ 18 (.bool ((decide (x0.f_Kind = 12)) && ((decide (x0.f_N < 1)) || (decide ((Sl.len x1) < x0.f_N))))) ∧ Iv c.nb [] H0 H) (fun J hJ=>?_) ?_
 ·skip
  cases g20:decide (x0.f_Kind = 12)
  ·skip
   simp only [C.f105r1p0,R,Nat.reduceEqDiff,fa72_0,a13,g20]
   refine hJ _ ?_
   exact ⟨(by first | rfl | (simp only [g20]; rfl) | simp only [g20,Lk,RB,Nat.reduceEqDiff,not_false_eq_true]),i11⟩
  ·skip
   have a21:=ld_one (M:=Mt) (t:=3) f6 T.ag3 (Seg.refl.sub (S_b.seg7 x0))
   cases g24:decide (x0.f_N < 1)
   ·skip
    have a25:=ld_one (M:=Mt) (t:=3) f6 T.ag3 (Seg.refl.sub (S_b.seg7 x0))
    have a26:=ld_one (M:=Mt) (t:=100) ((i11.old b1 lb1 (by simp)).trans hb1) T.ag100 Seg.refl
    simp only [C.f105r1p0,R,Nat.reduceEqDiff,fa72_0,a13,g20,fa72_7,a21,g24,a25,a26,ln100]
    refine hJ _ ?_
    exact ⟨(by first | rfl | (simp only [g20,g24]; rfl) | simp only [g20,g24,Lk,RB,Nat.reduceEqDiff,not_false_eq_true]),i11⟩
   ·skip
    simp only [C.f105r1p0,R,Nat.reduceEqDiff,fa72_0,a13,g20,fa72_7,a21,g24]
    refine hJ _ ?_
    exact ⟨(by first | rfl | (simp only [g20,g24]; rfl) | simp only [g20,g24,Lk,RB,Nat.reduceEqDiff,not_false_eq_true]),i11⟩
 rintro ⟨σ27,H17,d28⟩ ⟨h18,i19⟩
 simp only [C.f105r1p1,R,Nat.reduceEqDiff,h18]
 refine hJ _ ?_
 refine tk_ret okM ?_
 obtain rfl:=Option.some.inj hm
 exact end_flat (.inl rfl) (vs:=[(.bool ((decide (x0.f_Kind = 12)) && ((decide (x0.f_N < 1)) || (decide ((Sl.len x1) < x0.f_N)))))]) (resT' (v:=(.bool ((decide (x0.f_Kind = 12)) && ((decide (x0.f_N < 1)) || (decide ((Sl.len x1) < x0.f_N)))))) rfl resN) (fm_cons rfl fm_nil)
def b_bg (c_be:T_bI) (n:Nat) (x0:(Sl S_b)) (x1:(Sl Int)):Option (Bool):=(c_be x0 x1).bind fun v5=>some (decide (0 ≤ v5))
theorem w_d1 {call:CallF} (hok:CallOk Mt call) {n:Nat} {c_be:T_bI} (z_dY:A_cK call c_be) {H0:Hp} {x0:(Sl S_b)} {b0:Nat} {x1:(Sl Int)} {b1:Nat} {s1:Nat} {r:Bool} {ro:Nat} (hro:ro ≤ H0.length) (h0:SlH H0 S_b.c 72 x0 b0) (hb1:H0[b1]? = some (.cells [slV x1 s1] 100)) (h1:SlH H0 (cInt .i64) 3 x1 s1) (hm:b_bg c_be n x0 x1 = some r) :
  Pt Mt ro 106 [(slV x0 b0),(.func (.func 105) [].toArray [(.pointer (some ⟨b1,0,none⟩))].toArray)] H0 (.bool (r)) H0 []:=by
 refine pt_new0 okM F106d (by exact Nat.le_of_ble_eq_true rfl) ?_ hro
 intro c hnt hnb hcr
 have hcn:c.ro ≤ c.nb:=by omega
 have l0:x0 ≠ none → b0 < c.nb:=fun h=>by rw [hnb]; exact h0.lt h
 have lb1:b1 < c.nb:=by rw [hnb]; exact get_lt hb1
 have l1:x1 ≠ none → s1 < c.nb:=fun h=>by rw [hnb]; exact h1.lt h
 have iv:Iv c.nb [] H0 H0:=by rw [hnb]; exact iv_refl
 rw [show args0 [(slV x0 b0),(.func (.func 105) [].toArray [(.pointer (some ⟨b1,0,none⟩))].toArray)] = [(0,(slV x0 b0)),(1,(.func (.func 105) [].toArray [(.pointer (some ⟨b1,0,none⟩))].toArray))] from rfl]
 rw [b_bg] at hm
 simp only [C.f106]
 refine tk_os okM hok fun J hJ=>?_
 simp only [C.f106r0,R,Nat.reduceEqDiff]
 refine hJ _ ?_
 refine tk_os okM hok fun J hJ=>?_
 obtain ⟨v5,ev5,hm⟩:=bind_s hm
 have a4:=z_dY c.ro H0 x0 b0 x1 b1 s1 v5 (h0.iv l0 (fun _=>by simp) iv) ((iv.old b1 lb1 (by simp)).trans hb1) (h1.iv l1 (fun _=>by simp) iv) ev5
 simp only [C.f106r1,R,Nat.reduceEqDiff,c_fn F138,a4]
 refine hJ _ ?_
 refine tk_ret okM ?_
 obtain rfl:=Option.some.inj hm
 exact end_flat (.inl rfl) (vs:=[(.bool (decide (0 ≤ v5)))]) (resT' (v:=(.bool (decide (0 ≤ v5)))) rfl resN) (fm_cons rfl fm_nil)
def b_bZ (n:Nat):Nat → S_d → S_d → Int → Option (S_d)
 | 0,_,_,_=>none
 | k + 1,x27,x28,x4_29=>bif decide (x4_29 < 4) then ((ck 4 x4_29).bind fun j49=>b_bZ n k ({ x27 with f_W:=x27.f_W.put j49 (comI .u64 (x27.f_W.nth j49)) }) x28 (IntKind.i64.wrap (x4_29 + 1))) else (some x27)
def b_c3 (n:Nat) (x0:S_d):Option (S_d):=b_bZ n n x0 S_d.zero 0
theorem w_fG {call:CallF} (hok:CallOk Mt call) {n:Nat} {H0:Hp} {x0:S_d} {r:S_d} {ro:Nat} (hro:ro ≤ H0.length) (hm:b_c3 n x0 = some r) :
  Pt Mt ro 113 [(vAgg (S_d.c x0))] H0 (vAgg (S_d.c (r))) H0 []:=by
 refine pt_new0 okM F113d (by exact Nat.le_of_ble_eq_true rfl) ?_ hro
 intro c hnt hnb hcr
 have hcn:c.ro ≤ c.nb:=by omega
 have iv:Iv c.nb [] H0 H0:=by rw [hnb]; exact iv_refl
 rw [show args0 [(vAgg (S_d.c x0))] = [(0,(vAgg (S_d.c x0)))] from rfl]
 rw [b_c3] at hm
 simp only [C.f113,C.f113b0]
 refine tk_os okM hok fun J hJ=>?_
 obtain ⟨b1,H2,a3,f4,q5,r6,x7,i8⟩:=bx_ok (M:=Mt) (t:=25) (u:=(vAgg (S_d.c (x0)))) (cs:=S_d.c x0) H0 iv.le (by rw [S_d.enc.len]; exact T.sz25) vAgg_cells (S_d.enc.one _)
 have i9:=i8 _ _ iv
 obtain ⟨b11,H12,a13,f14,q15,r16,x17,i18⟩:=al_ok H2 25 (S_d.c S_d.zero) i9.le
 have i19:=i18 _ _ i9
 have f20:=x17 _ _ f4
 simp only [C.f113r0,R,Nat.reduceEqDiff,a3,zs25,a13]
 refine hJ _ ?_
 refine tk_seq_k fun K n22 x23=>?_
 refine tk_os okM hok fun J hJ=>?_
 simp only [C.f113r1,R,Nat.reduceEqDiff]
 refine hJ _ ?_
 refine tk_block_k fun K n24 e25 x26=>?_
 refine tk_loop_k (n:=n) (fun k1 ⟨σ,H,_⟩=>∃ x27 x28 x4_29,b_bZ n k1 x27 x28 x4_29 = some r ∧ Lk σ 1 (.pointer (some ⟨b1,0,none⟩)) ∧ Lk σ 2 (.pointer (some ⟨b11,0,none⟩)) ∧ Lk σ 4 (.int .i64 x4_29) ∧ H[b1]? = some (.cells (S_d.c x27) 25) ∧ H[b11]? = some (.cells (S_d.c x28) 25) ∧ Iv c.nb [] H0 H) ?_ ?_ ?_
 ·exact ⟨x0,S_d.zero,0,hm,rfl,rfl,rfl,f20,f14,i19⟩
 ·rintro ⟨σ,H,d⟩ ⟨_,_,_,hm,_⟩
  cases hm
 ·intro k1 K n30 x31
  rintro ⟨σ39,H32,d40⟩ ⟨x27,x28,x4_29,hm,h33,h34,h35,f36,f37,i38⟩
  rw [b_bZ.eq_2] at hm
  refine tk_os okM hok fun J hJ=>?_
  simp only [C.f113r2,R,Nat.reduceEqDiff,h35]
  refine hJ _ ?_
  refine tk_seq_k fun K n41 x42=>?_
  refine tk_cond (t:=decide (x4_29 < 4)) rfl (fun g43=>?_) (fun g43=>?_)
  ·replace hm:=cond_t hm g43
   refine tk_skip okM ?_
   refine n41 _ ?_
   refine tk_seq_k fun K n44 x45=>?_
   refine tk_block_k fun K n46 e47 x48=>?_
   refine tk_os okM hok fun J hJ=>?_
   simp only [C.f113r3,R,Nat.reduceEqDiff,h35]
   refine hJ _ ?_
   refine tk_oe okM hok fun J hJ=>?_
   obtain ⟨j49,ej49,hm⟩:=bind_s hm
   have a50:=ld_one (M:=Mt) (t:=22) f36 T.ag22 ((Seg.refl.sub (S_d.seg0 x27)).sub (sgA enc_int.len (a:=x27.f_W) (ck_lt ej49).1))
   obtain ⟨H51,a52,f53,u54⟩:=st_ok (M:=Mt) (t:=22) (v:=(.int .u64 (comI .u64 (x27.f_W.nth j49)))) (c:=(cInt .u64) (comI .u64 (x27.f_W.nth j49))) (cs':=S_d.c ({ x27 with f_W:=x27.f_W.put j49 (comI .u64 (x27.f_W.nth j49)) })) f36 (by rw [enc_int.len]; exact T.sz22) rfl (enc_int.one _) (Nat.le_trans hcn r6) (Nat.le_trans (Nat.le_of_eq (congrArg _ (eqL enc_int.len))) ((Seg.refl.sub (S_d.seg0 x27)).sub (sgA enc_int.len (a:=x27.f_W) (ck_lt ej49).1)).2) (by rw [wrs_in (Seg.refl.sub (S_d.seg0 x27)) (by have:=(ck_lt ej49).1; simp only [enc_int.len,(enc_arr (n:=4) enc_int).len]; omega),wrA enc_int.len (a:=x27.f_W) (v:=comI .u64 (x27.f_W.nth j49)) (ck_lt ej49).1,Nat.zero_add,S_d.wr0 x27 (x27.f_W.put j49 (comI .u64 (x27.f_W.nth j49)))])
   have i55:=i38.up u54 r6
   have f56:=(u54.get _ (ne_len f4 q15).symm).trans f37
   simp only [C.f113r4,R,Nat.reduceEqDiff,fa25_0,h33,ia23,ej49,a50,a52]
   refine hJ _ ?_
   refine n46 _ ?_
   refine n44 _ ?_
   refine tk_oe okM hok fun J hJ=>?_
   simp only [C.f113r5,R,Nat.reduceEqDiff,h35]
   refine hJ _ ?_
   refine n30 _ ?_
   exact ⟨{ x27 with f_W:=x27.f_W.put j49 (comI .u64 (x27.f_W.nth j49)) },x28,IntKind.i64.wrap (x4_29 + 1),hm,h33,h34,rfl,f53,f56,i55⟩
  ·replace hm:=cond_f hm g43
   refine tk_exit okM ?_
   refine x42 _ _ (by simp) ?_
   refine x31 _ _ (by simp) ?_
   refine e25 _ ?_
   refine n22 _ ?_
   refine tk_os okM hok fun J hJ=>?_
   have a57:=ld_agg (M:=Mt) (t:=25) f36 T.ag25 (by rw [S_d.enc.len]; exact T.sz25) Seg.refl
   obtain ⟨H58,a59,f60,u61⟩:=st_ok (M:=Mt) (t:=25) (v:=(vAgg (S_d.c (x27)))) (c:=S_d.c x27) (cs':=S_d.c x27) f37 (by rw [S_d.enc.len]; exact T.sz25) vAgg_cells (S_d.enc.one _) (Nat.le_trans hcn r16) (le0 S_d.enc.len) (wrs_all (eqL S_d.enc.len))
   have i62:=i38.up u61 r16
   have f63:=(u61.get _ (ne_len f4 q15)).trans f36
   simp only [C.f113r6,R,Nat.reduceEqDiff,a57,h33,a59,h34]
   refine hJ _ ?_
   refine tk_ret okM ?_
   obtain rfl:=Option.some.inj hm
   exact end_flat (.inl rfl) (vs:=[(vAgg (S_d.c (x27)))]) (resC' (v:=(vAgg (S_d.c (x27)))) h34 (ldv_of (ld_agg (M:=Mt) (t:=25) f60 T.ag25 (by rw [S_d.enc.len]; exact T.sz25) Seg.refl)) resN) (fm_cons (flat_agg S_d.enc _) fm_nil)
def b_L (c_F:T_bm) (n:Nat):Nat → (Arr Int 4) → Int → Option (Int × Bool)
 | 0,_,_=>none
 | k + 1,x7_17,x8_18=>bif decide (x8_18 < 4) then ((ck 4 x8_18).bind fun j35=>bif !decide ((x7_17.nth j35) = 0) then ((c_F (x7_17.nth j35)).bind fun v38=>some (IntKind.u8.wrap (IntKind.i64.wrap ((IntKind.i64.wrap (x8_18 * 64)) + v38)),true)) else (b_L c_F n k x7_17 (IntKind.i64.wrap (x8_18 + 1)))) else (some (0,false))
def b_Y (c_F:T_bm) (n:Nat) (x0:S_d):Option (Int × Bool):=b_L c_F n n x0.f_W 0
theorem w_fL {call:CallF} (hok:CallOk Mt call) {n:Nat} {c_F:T_bm} (z_d3:A_cM call c_F) {H0:Hp} {x0:S_d} {r:Int × Bool} {ro:Nat} (hro:ro ≤ H0.length) (hm:b_Y c_F n x0 = some r) (hG1:TabH1 H0) :
  Pt Mt ro 120 [(vAgg (S_d.c x0))] H0 (.tuple [(.int .u8 (r.1)),(.bool (r.2))].toArray) H0 []:=by
 refine pt_new0 okM F120d (by exact Nat.le_of_ble_eq_true rfl) ?_ hro
 intro c hnt hnb hcr
 have hcn:c.ro ≤ c.nb:=by omega
 have iv:Iv c.nb [] H0 H0:=by rw [hnb]; exact iv_refl
 rw [show args0 [(vAgg (S_d.c x0))] = [(0,(vAgg (S_d.c x0)))] from rfl]
 rw [b_Y] at hm
 simp only [C.f120,C.f120b0]
 refine tk_os okM hok fun J hJ=>?_
 obtain ⟨b1,H2,a3,f4,q5,r6,x7,i8⟩:=bx_ok (M:=Mt) (t:=25) (u:=(vAgg (S_d.c (x0)))) (cs:=S_d.c x0) H0 iv.le (by rw [S_d.enc.len]; exact T.sz25) vAgg_cells (S_d.enc.one _)
 have i9:=i8 _ _ iv
 simp only [C.f120r0,R,Nat.reduceEqDiff,a3]
 refine hJ _ ?_
 refine tk_seq_k fun K n11 x12=>?_
 refine tk_os okM hok fun J hJ=>?_
 have a13:=ld_agg (M:=Mt) (t:=23) f4 T.ag23 (by rw [(enc_arr (n:=4) enc_int).len]; exact T.sz23) (Seg.refl.sub (S_d.seg0 x0))
 simp only [C.f120r1,R,Nat.reduceEqDiff,fa25_0,a13]
 refine hJ _ ?_
 refine tk_block_k fun K n14 e15 x16=>?_
 refine tk_loop_k (n:=n) (fun k1 ⟨σ,H,_⟩=>∃ x7_17 x8_18,b_L c_F n k1 x7_17 x8_18 = some r ∧ Lk σ 7 (vAgg ((cArr (n:=4) (cInt .u64)) x7_17)) ∧ Lk σ 8 (.int .i64 x8_18) ∧ Iv c.nb [] H0 H) ?_ ?_ ?_
 ·exact ⟨x0.f_W,0,hm,rfl,rfl,i9⟩
 ·rintro ⟨σ,H,d⟩ ⟨_,_,hm,_⟩
  cases hm
 ·intro k1 K n19 x20
  rintro ⟨σ25,H21,d26⟩ ⟨x7_17,x8_18,hm,h22,h23,i24⟩
  rw [b_L.eq_2] at hm
  refine tk_os okM hok fun J hJ=>?_
  simp only [C.f120r2,R,Nat.reduceEqDiff,h23]
  refine hJ _ ?_
  refine tk_seq_k fun K n27 x28=>?_
  refine tk_cond (t:=decide (x8_18 < 4)) rfl (fun g29=>?_) (fun g29=>?_)
  ·replace hm:=cond_t hm g29
   refine tk_skip okM ?_
   refine n27 _ ?_
   refine tk_seq_k fun K n30 x31=>?_
   refine tk_block_k fun K n32 e33 x34=>?_
   refine tk_os okM hok fun J hJ=>?_
   obtain ⟨j35,ej35,hm⟩:=bind_s hm
   simp only [C.f120r3,R,Nat.reduceEqDiff,h23,ix23,ej35,h22]
   refine hJ _ ?_
   refine tk_os okM hok fun J hJ=>?_
   simp only [C.f120r4,R,Nat.reduceEqDiff]
   refine hJ _ ?_
   refine tk_cond (t:=!decide ((x7_17.nth j35) = 0)) rfl (fun g36=>?_) (fun g36=>?_)
   ·replace hm:=cond_t hm g36
    refine tk_os okM hok fun J hJ=>?_
    obtain ⟨v38,ev38,hm⟩:=bind_s hm
    have a37:=z_d3 c.ro H21 (x7_17.nth j35) v38 (tabIv1 i24 hnb hG1) ev38
    simp only [C.f120r5,R,Nat.reduceEqDiff,c_fn F152,a37,cv_int (M:=Mt) Tryz.underlying3 Tryz.underlying5]
    refine hJ _ ?_
    refine tk_ret okM ?_
    refine x34 _ _ (by simp) (by simp) ?_
    refine x31 _ _ (by simp) ?_
    refine x20 _ _ (by simp) ?_
    refine x16 _ _ (by simp) (by simp) ?_
    refine x12 _ _ (by simp) ?_
    obtain rfl:=Option.some.inj hm
    exact end_flat (.inl rfl) (vs:=[(.int .u8 (IntKind.u8.wrap (IntKind.i64.wrap ((IntKind.i64.wrap (x8_18 * 64)) + v38)))),(.bool (true))]) (resT' (v:=(.int .u8 (IntKind.u8.wrap (IntKind.i64.wrap ((IntKind.i64.wrap (x8_18 * 64)) + v38))))) rfl (resT' (v:=(.bool (true))) rfl resN)) (fm_cons rfl (fm_cons rfl fm_nil))
   ·replace hm:=cond_f hm g36
    refine tk_skip okM ?_
    refine n32 _ ?_
    refine n30 _ ?_
    refine tk_oe okM hok fun J hJ=>?_
    simp only [C.f120r6,R,Nat.reduceEqDiff,h23]
    refine hJ _ ?_
    refine n19 _ ?_
    exact ⟨x7_17,IntKind.i64.wrap (x8_18 + 1),hm,h22,rfl,i24⟩
  ·replace hm:=cond_f hm g29
   refine tk_exit okM ?_
   refine x28 _ _ (by simp) ?_
   refine x20 _ _ (by simp) ?_
   refine e15 _ ?_
   refine n11 _ ?_
   refine tk_os okM hok fun J hJ=>?_
   simp only [C.f120r7,R,Nat.reduceEqDiff]
   refine hJ _ ?_
   refine tk_ret okM ?_
   obtain rfl:=Option.some.inj hm
   exact end_flat (.inl rfl) (vs:=[(.int .u8 (0)),(.bool (false))]) (resT' (v:=(.int .u8 (0))) rfl (resT' (v:=(.bool (false))) rfl resN)) (fm_cons rfl (fm_cons rfl fm_nil))
def b_bh (n:Nat) (x22:S_a) (x23:S_a):Option (S_a):=some x22
def b_b0 (n:Nat) (x0:S_a):Option (S_a):=bif decide (100 < ((x0.f_Facts.f_Prefix.size:Int))) then ((sub x0.f_Facts.f_Prefix 0 100).bind fun v44=>b_bh n (S_a.w1 ({ x0 with f_Facts:={ x0.f_Facts with f_Prefix:=v44 } }) false) S_a.zero) else (b_bh n x0 S_a.zero)
theorem w_fb {call:CallF} (hok:CallOk Mt call) {n:Nat} {H0:Hp} {x0:S_a} {r:S_a} {ro:Nat} (hro:ro ≤ H0.length) (hm:b_b0 n x0 = some r) :
  Pt Mt ro 121 [(vAgg (S_a.c x0))] H0 (vAgg (S_a.c (r))) H0 []:=by
 refine pt_new0 okM F121d (by exact Nat.le_of_ble_eq_true rfl) ?_ hro
 intro c hnt hnb hcr
 have hcn:c.ro ≤ c.nb:=by omega
 have iv:Iv c.nb [] H0 H0:=by rw [hnb]; exact iv_refl
 rw [show args0 [(vAgg (S_a.c x0))] = [(0,(vAgg (S_a.c x0)))] from rfl]
 rw [b_b0] at hm
 simp only [C.f121]
 refine tk_os okM hok fun J hJ=>?_
 obtain ⟨b1,H2,a3,f4,q5,r6,x7,i8⟩:=bx_ok (M:=Mt) (t:=107) (u:=(vAgg (S_a.c (x0)))) (cs:=S_a.c x0) H0 iv.le (by rw [S_a.enc.len]; exact T.sz107) vAgg_cells (S_a.enc.one _)
 have i9:=i8 _ _ iv
 obtain ⟨b11,H12,a13,f14,q15,r16,x17,i18⟩:=al_ok H2 107 (S_a.c S_a.zero) i9.le
 have i19:=i18 _ _ i9
 have f20:=x17 _ _ f4
 simp only [C.f121r0,R,Nat.reduceEqDiff,a3,zs107,a13]
 refine hJ _ ?_
 refine tk_seq_j (fun ⟨σ,H,_⟩=>∃ x22 x23,b_bh n x22 x23 = some r ∧ Lk σ 1 (.pointer (some ⟨b1,0,none⟩)) ∧ Lk σ 2 (.pointer (some ⟨b11,0,none⟩)) ∧ H[b1]? = some (.cells (S_a.c x22) 107) ∧ H[b11]? = some (.cells (S_a.c x23) 107) ∧ Iv c.nb [] H0 H) ?_ ?_
 ·skip
  rintro ⟨σ30,H24,d31⟩ ⟨x22,x23,hm,h25,h26,f27,f28,i29⟩
  rw [b_bh] at hm
  refine tk_os okM hok fun J hJ=>?_
  have a32:=ld_agg (M:=Mt) (t:=107) f27 T.ag107 (by rw [S_a.enc.len]; exact T.sz107) Seg.refl
  obtain ⟨H33,a34,f35,u36⟩:=st_ok (M:=Mt) (t:=107) (v:=(vAgg (S_a.c (x22)))) (c:=S_a.c x22) (cs':=S_a.c x22) f28 (by rw [S_a.enc.len]; exact T.sz107) vAgg_cells (S_a.enc.one _) (Nat.le_trans hcn r16) (le0 S_a.enc.len) (wrs_all (eqL S_a.enc.len))
  have i37:=i29.up u36 r16
  have f38:=(u36.get _ (ne_len f4 q15)).trans f27
  simp only [C.f121r3,R,Nat.reduceEqDiff,a32,h25,a34,h26]
  refine hJ _ ?_
  refine tk_ret okM ?_
  obtain rfl:=Option.some.inj hm
  exact end_flat (.inl rfl) (vs:=[(vAgg (S_a.c (x22)))]) (resC' (v:=(vAgg (S_a.c (x22)))) h26 (ldv_of (ld_agg (M:=Mt) (t:=107) f35 T.ag107 (by rw [S_a.enc.len]; exact T.sz107) Seg.refl)) resN) (fm_cons (flat_agg S_a.enc _) fm_nil)
 ·refine fun K n39 x40=>?_
  refine tk_os okM hok fun J hJ=>?_
  have a41:=ld_one (M:=Mt) (t:=9) f20 T.ag9 ((Seg.refl.sub (S_a.seg0 x0)).sub (S_c.seg3 x0.f_Facts))
  simp only [C.f121r1,R,Nat.reduceEqDiff,fa107_0,fa54_3,a41,len_str (M:=Mt) Tryz.underlying9]
  refine hJ _ ?_
  refine tk_cond (t:=decide (100 < ((x0.f_Facts.f_Prefix.size:Int)))) rfl (fun g42=>?_) (fun g42=>?_)
  ·replace hm:=cond_t hm g42
   refine tk_oe okM hok fun J hJ=>?_
   have a43:=ld_one (M:=Mt) (t:=9) f20 T.ag9 ((Seg.refl.sub (S_a.seg0 x0)).sub (S_c.seg3 x0.f_Facts))
   obtain ⟨v44,ev44,hm⟩:=bind_s hm
   obtain ⟨H45,a46,f47,u48⟩:=st_ok (M:=Mt) (t:=9) (v:=(.string (v44))) (c:=cStr v44) (cs':=S_a.c ({ x0 with f_Facts:={ x0.f_Facts with f_Prefix:=v44 } })) f20 (by rw [enc_str.len]; exact T.sz9) rfl (enc_str.one _) (Nat.le_trans hcn r6) (Nat.le_trans (Nat.le_of_eq (congrArg _ (eqL enc_str.len))) ((Seg.refl.sub (S_a.seg0 x0)).sub (S_c.seg3 x0.f_Facts)).2) (by rw [wrs_in (Seg.refl.sub (S_a.seg0 x0)) (by have:=trivial; simp only [enc_str.len,S_c.enc.len]; omega),S_c.wr3 x0.f_Facts v44,Nat.zero_add,S_a.wr0 x0 ({ x0.f_Facts with f_Prefix:=v44 })])
   have i49:=i19.up u48 r6
   have f50:=(u48.get _ (ne_len f4 q15).symm).trans f14
   obtain ⟨H51,a52,f53,u54⟩:=st_ok (M:=Mt) (t:=4) (v:=(.bool (false))) (c:=cBool false) (cs':=S_a.c (S_a.w1 ({ x0 with f_Facts:={ x0.f_Facts with f_Prefix:=v44 } }) false)) f47 (by rw [enc_bool.len]; exact T.sz4) rfl (enc_bool.one _) (Nat.le_trans hcn r6) (Nat.le_trans (Nat.le_of_eq (congrArg _ (eqL enc_bool.len))) (Seg.refl.sub (S_a.seg1 ({ x0 with f_Facts:={ x0.f_Facts with f_Prefix:=v44 } }))).2) (by rw [Nat.zero_add,S_a.wr1 ({ x0 with f_Facts:={ x0.f_Facts with f_Prefix:=v44 } }) false])
   have i55:=i49.up u54 r6
   have f56:=(u54.get _ (ne_len f4 q15).symm).trans f50
   simp only [C.f121r2,R,Nat.reduceEqDiff,fa107_0,fa54_3,a43,sl_str3 (M:=Mt) Tryz.underlying9,ev44,a46,fa107_1,a52]
   refine hJ _ ?_
   refine n39 _ ?_
   exact ⟨S_a.w1 ({ x0 with f_Facts:={ x0.f_Facts with f_Prefix:=v44 } }) false,S_a.zero,hm,rfl,rfl,f53,f56,i55⟩
  ·replace hm:=cond_f hm g42
   refine tk_skip okM ?_
   refine n39 _ ?_
   exact ⟨x0,S_a.zero,hm,rfl,rfl,f20,f14,i19⟩
def b_cs (n:Nat) (x0:S_b):Option (S_b):=some (S_b.w2 (S_b.w1 ({ x0 with f_Kind:=0 }) 0) 0)
theorem w_fN {call:CallF} (hok:CallOk Mt call) {n:Nat} {H0:Hp} {x0:S_b} {r:S_b} {ro:Nat} (hro:ro ≤ H0.length) (hm:b_cs n x0 = some r) :
  Pt Mt ro 124 [(vAgg (S_b.c x0))] H0 (vAgg (S_b.c (r))) H0 []:=by
 refine pt_new0 okM F124d (by exact Nat.le_of_ble_eq_true rfl) ?_ hro
 intro c hnt hnb hcr
 have hcn:c.ro ≤ c.nb:=by omega
 have iv:Iv c.nb [] H0 H0:=by rw [hnb]; exact iv_refl
 rw [show args0 [(vAgg (S_b.c x0))] = [(0,(vAgg (S_b.c x0)))] from rfl]
 rw [b_cs] at hm
 simp only [C.f124]
 refine tk_os okM hok fun J hJ=>?_
 obtain ⟨b1,H2,a3,f4,q5,r6,x7,i8⟩:=bx_ok (M:=Mt) (t:=72) (u:=(vAgg (S_b.c (x0)))) (cs:=S_b.c x0) H0 iv.le (by rw [S_b.enc.len]; exact T.sz72) vAgg_cells (S_b.enc.one _)
 have i9:=i8 _ _ iv
 obtain ⟨b11,H12,a13,f14,q15,r16,x17,i18⟩:=al_ok H2 72 (S_b.c S_b.zero) i9.le
 have i19:=i18 _ _ i9
 have f20:=x17 _ _ f4
 simp only [C.f124r0,R,Nat.reduceEqDiff,a3,zs72,a13]
 refine hJ _ ?_
 refine tk_os okM hok fun J hJ=>?_
 obtain ⟨H22,a23,f24,u25⟩:=st_ok (M:=Mt) (t:=3) (v:=(.int .i64 (0))) (c:=(cInt .i64) 0) (cs':=S_b.c ({ x0 with f_Kind:=0 })) f20 (by rw [enc_int.len]; exact T.sz3) rfl (enc_int.one _) (Nat.le_trans hcn r6) (Nat.le_trans (Nat.le_of_eq (congrArg _ (eqL enc_int.len))) (Seg.refl.sub (S_b.seg0 x0)).2) (by rw [Nat.zero_add,S_b.wr0 x0 0])
 have i26:=i19.up u25 r6
 have f27:=(u25.get _ (ne_len f4 q15).symm).trans f14
 obtain ⟨H28,a29,f30,u31⟩:=st_ok (M:=Mt) (t:=3) (v:=(.int .i64 (0))) (c:=(cInt .i64) 0) (cs':=S_b.c (S_b.w1 ({ x0 with f_Kind:=0 }) 0)) f24 (by rw [enc_int.len]; exact T.sz3) rfl (enc_int.one _) (Nat.le_trans hcn r6) (Nat.le_trans (Nat.le_of_eq (congrArg _ (eqL enc_int.len))) (Seg.refl.sub (S_b.seg1 ({ x0 with f_Kind:=0 }))).2) (by rw [Nat.zero_add,S_b.wr1 ({ x0 with f_Kind:=0 }) 0])
 have i32:=i26.up u31 r6
 have f33:=(u31.get _ (ne_len f4 q15).symm).trans f27
 obtain ⟨H34,a35,f36,u37⟩:=st_ok (M:=Mt) (t:=3) (v:=(.int .i64 (0))) (c:=(cInt .i64) 0) (cs':=S_b.c (S_b.w2 (S_b.w1 ({ x0 with f_Kind:=0 }) 0) 0)) f30 (by rw [enc_int.len]; exact T.sz3) rfl (enc_int.one _) (Nat.le_trans hcn r6) (Nat.le_trans (Nat.le_of_eq (congrArg _ (eqL enc_int.len))) (Seg.refl.sub (S_b.seg2 (S_b.w1 ({ x0 with f_Kind:=0 }) 0))).2) (by rw [Nat.zero_add,S_b.wr2 (S_b.w1 ({ x0 with f_Kind:=0 }) 0) 0])
 have i38:=i32.up u37 r6
 have f39:=(u37.get _ (ne_len f4 q15).symm).trans f33
 simp only [C.f124r1,R,Nat.reduceEqDiff,fa72_0,a23,fa72_1,a29,fa72_2,a35]
 refine hJ _ ?_
 refine tk_os okM hok fun J hJ=>?_
 have a40:=ld_agg (M:=Mt) (t:=72) f36 T.ag72 (by rw [S_b.enc.len]; exact T.sz72) Seg.refl
 obtain ⟨H41,a42,f43,u44⟩:=st_ok (M:=Mt) (t:=72) (v:=(vAgg (S_b.c (S_b.w2 (S_b.w1 ({ x0 with f_Kind:=0 }) 0) 0)))) (c:=S_b.c (S_b.w2 (S_b.w1 ({ x0 with f_Kind:=0 }) 0) 0)) (cs':=S_b.c (S_b.w2 (S_b.w1 ({ x0 with f_Kind:=0 }) 0) 0)) f39 (by rw [S_b.enc.len]; exact T.sz72) vAgg_cells (S_b.enc.one _) (Nat.le_trans hcn r16) (le0 S_b.enc.len) (wrs_all (eqL S_b.enc.len))
 have i45:=i38.up u44 r16
 have f46:=(u44.get _ (ne_len f4 q15)).trans f36
 simp only [C.f124r2,R,Nat.reduceEqDiff,a40,a42]
 refine hJ _ ?_
 refine tk_ret okM ?_
 obtain rfl:=Option.some.inj hm
 exact end_flat (.inl rfl) (vs:=[(vAgg (S_b.c (S_b.w2 (S_b.w1 ({ x0 with f_Kind:=0 }) 0) 0)))]) (resC' (v:=(vAgg (S_b.c (S_b.w2 (S_b.w1 ({ x0 with f_Kind:=0 }) 0) 0)))) rfl (ldv_of (ld_agg (M:=Mt) (t:=72) f43 T.ag72 (by rw [S_b.enc.len]; exact T.sz72) Seg.refl)) resN) (fm_cons (flat_agg S_b.enc _) fm_nil)
def b_E (c_V:T_b5) (n:Nat) (x0:(Sl S_b)) (x1:(Sl Int)):Nat → Int → Int → Option (Int)
 | 0,_,_=>none
 | k + 1,x7_9,x8_10=>bif decide (x8_10 < x7_9) then ((ck (Sl.l x0).length x8_10).bind fun j29=>(c_V (Sl.nth x0 j29) x1).bind fun v34=>bif v34 then (some x8_10) else (b_E c_V n x0 x1 k x7_9 (IntKind.i64.wrap (x8_10 + 1)))) else (some ((-1)))
def b_bd (c_V:T_b5) (n:Nat) (x0:(Sl S_b)) (x1:(Sl Int)):Option (Int):=b_E c_V n x0 x1 n (Sl.len x0) 0
theorem w_d2 {call:CallF} (hok:CallOk Mt call) {n:Nat} {c_V:T_b5} (z_e9:A_dS call c_V) {H0:Hp} {x0:(Sl S_b)} {b0:Nat} {x1:(Sl Int)} {b1:Nat} {s1:Nat} {r:Int} {ro:Nat} (hro:ro ≤ H0.length) (h0:SlH H0 S_b.c 72 x0 b0) (hb1:H0[b1]? = some (.cells [slV x1 s1] 100)) (h1:SlH H0 (cInt .i64) 3 x1 s1) (hm:b_bd c_V n x0 x1 = some r) :
  Pt Mt ro 138 [(slV x0 b0),(.func (.func 105) [].toArray [(.pointer (some ⟨b1,0,none⟩))].toArray)] H0 (.int .i64 (r)) H0 []:=by
 refine pt_new0 okM F138d (by exact Nat.le_of_ble_eq_true rfl) ?_ hro
 intro c hnt hnb hcr
 have hcn:c.ro ≤ c.nb:=by omega
 have l0:x0 ≠ none → b0 < c.nb:=fun h=>by rw [hnb]; exact h0.lt h
 have lb1:b1 < c.nb:=by rw [hnb]; exact get_lt hb1
 have l1:x1 ≠ none → s1 < c.nb:=fun h=>by rw [hnb]; exact h1.lt h
 have iv:Iv c.nb [] H0 H0:=by rw [hnb]; exact iv_refl
 rw [show args0 [(slV x0 b0),(.func (.func 105) [].toArray [(.pointer (some ⟨b1,0,none⟩))].toArray)] = [(0,(slV x0 b0)),(1,(.func (.func 105) [].toArray [(.pointer (some ⟨b1,0,none⟩))].toArray))] from rfl]
 rw [b_bd] at hm
 simp only [C.f138,C.f138b0]
 refine tk_os okM hok fun J hJ=>?_
 simp only [C.f138r0,R,Nat.reduceEqDiff]
 refine hJ _ ?_
 refine tk_seq_k fun K n4 x5=>?_
 refine tk_os okM hok fun J hJ=>?_
 simp only [C.f138r1,R,Nat.reduceEqDiff,ln35]
 refine hJ _ ?_
 refine tk_block_k fun K n6 e7 x8=>?_
 refine tk_loop_k (n:=n) (fun k1 ⟨σ,H,_⟩=>∃ x7_9 x8_10,b_E c_V n x0 x1 k1 x7_9 x8_10 = some r ∧ Lk σ 0 (slV x0 b0) ∧ Lk σ 1 (.func (.func 105) [].toArray [(.pointer (some ⟨b1,0,none⟩))].toArray) ∧ Lk σ 7 (.int .i64 x7_9) ∧ Lk σ 8 (.int .i64 x8_10) ∧ Iv c.nb [] H0 H) ?_ ?_ ?_
 ·exact ⟨Sl.len x0,0,hm,rfl,rfl,rfl,rfl,iv⟩
 ·rintro ⟨σ,H,d⟩ ⟨_,_,hm,_⟩
  cases hm
 ·intro k1 K n11 x12
  rintro ⟨σ19,H13,d20⟩ ⟨x7_9,x8_10,hm,h14,h15,h16,h17,i18⟩
  rw [b_E.eq_2] at hm
  refine tk_os okM hok fun J hJ=>?_
  simp only [C.f138r2,R,Nat.reduceEqDiff,h17,h16]
  refine hJ _ ?_
  refine tk_seq_k fun K n21 x22=>?_
  refine tk_cond (t:=decide (x8_10 < x7_9)) rfl (fun g23=>?_) (fun g23=>?_)
  ·replace hm:=cond_t hm g23
   refine tk_skip okM ?_
   refine n21 _ ?_
   refine tk_seq_k fun K n24 x25=>?_
   refine tk_block_k fun K n26 e27 x28=>?_
   refine tk_os okM hok fun J hJ=>?_
   simp only [C.f138r3,R,Nat.reduceEqDiff,h17]
   refine hJ _ ?_
   refine tk_os okM hok fun J hJ=>?_
   obtain ⟨j29,ej29,hm⟩:=bind_s hm
   obtain ⟨mm30,k31⟩:=(h0.iv l0 (fun _=>by simp) i18).blk (ck_lt ej29).1
   have a32:=lds_agg (M:=Mt) (t:=72) k31 T.ag72 (by rw [S_b.enc.len]; exact T.sz72) (seg_sl S_b.enc.len mm30 (ck_lt ej29).1)
   obtain ⟨v34,ev34,hm⟩:=bind_s hm
   have a33:=z_e9 c.ro H13 (Sl.nth x0 j29) x1 b1 s1 v34 ((i18.old b1 lb1 (by simp)).trans hb1) (h1.iv l1 (fun _=>by simp) i18) ev34
   simp only [C.f138r4,R,Nat.reduceEqDiff,h15,h14,ia35,ej29,a32,c_cl,cl_fn F105,List.toList_toArray,List.nil_append,List.append_nil,List.cons_append,a33]
   refine hJ _ ?_
   refine tk_cond (t:=v34) rfl (fun g35=>?_) (fun g35=>?_)
   ·replace hm:=cond_t hm g35
    refine tk_os okM hok fun J hJ=>?_
    simp only [C.f138r5,R,Nat.reduceEqDiff]
    refine hJ _ ?_
    refine tk_ret okM ?_
    refine x28 _ _ (by simp) (by simp) ?_
    refine x25 _ _ (by simp) ?_
    refine x12 _ _ (by simp) ?_
    refine x8 _ _ (by simp) (by simp) ?_
    refine x5 _ _ (by simp) ?_
    obtain rfl:=Option.some.inj hm
    exact end_flat (.inl rfl) (vs:=[(.int .i64 (x8_10))]) (resT' (v:=(.int .i64 (x8_10))) rfl resN) (fm_cons rfl fm_nil)
   ·replace hm:=cond_f hm g35
    refine tk_skip okM ?_
    refine n26 _ ?_
    refine n24 _ ?_
    refine tk_oe okM hok fun J hJ=>?_
    simp only [C.f138r6,R,Nat.reduceEqDiff,h17]
    refine hJ _ ?_
    refine n11 _ ?_
    exact ⟨x7_9,IntKind.i64.wrap (x8_10 + 1),hm,h14,h15,h16,rfl,i18⟩
  ·replace hm:=cond_f hm g23
   refine tk_exit okM ?_
   refine x22 _ _ (by simp) ?_
   refine x12 _ _ (by simp) ?_
   refine e7 _ ?_
   refine n4 _ ?_
   refine tk_os okM hok fun J hJ=>?_
   simp only [C.f138r7,R,Nat.reduceEqDiff]
   refine hJ _ ?_
   refine tk_ret okM ?_
   obtain rfl:=Option.some.inj hm
   exact end_flat (.inl rfl) (vs:=[(.int .i64 ((-1)))]) (resT' (v:=(.int .i64 ((-1)))) rfl resN) (fm_cons rfl fm_nil)
def b_bl (n:Nat) (x0:Int):Option (Int):=bif decide (x0 = 0) then (some 64) else ((shrO .u64 (IntKind.u64.wrap ((andI .u64 x0 (IntKind.u64.wrap (0 - x0))) * 285870213051353865)) 58).bind fun v4=>(ck 64 v4).bind fun j5=>some (IntKind.i64.wrap (tabN1 j5)))
theorem w_eh {call:CallF} (hok:CallOk Mt call) {n:Nat} {H0:Hp} {x0:Int} {r:Int} {ro:Nat} (hro:ro ≤ H0.length) (hm:b_bl n x0 = some r) (hG1:TabH1 H0) :
  Pt Mt ro 152 [(.int .u64 x0)] H0 (.int .i64 (r)) H0 []:=by
 refine pt_new0 okM F152d (by exact Nat.le_of_ble_eq_true rfl) ?_ hro
 intro c hnt hnb hcr
 have hcn:c.ro ≤ c.nb:=by omega
 have iv:Iv c.nb [] H0 H0:=by rw [hnb]; exact iv_refl
 rw [show args0 [(.int .u64 x0)] = [(0,(.int .u64 x0))] from rfl]
 rw [b_bl] at hm
 simp only [C.f152]
 refine tk_os okM hok fun J hJ=>?_
 simp only [C.f152r0,R,Nat.reduceEqDiff]
 refine hJ _ ?_
 refine tk_seq_k fun K n1 x2=>?_
 refine tk_os okM hok fun J hJ=>?_
 simp only [C.f152r1,R,Nat.reduceEqDiff]
 refine hJ _ ?_
 refine tk_cond (t:=decide (x0 = 0)) rfl (fun g3=>?_) (fun g3=>?_)
 ·replace hm:=cond_t hm g3
  refine tk_os okM hok fun J hJ=>?_
  simp only [C.f152r2,R,Nat.reduceEqDiff]
  refine hJ _ ?_
  refine tk_ret okM ?_
  refine x2 _ _ (by simp) ?_
  obtain rfl:=Option.some.inj hm
  exact end_flat (.inl rfl) (vs:=[(.int .i64 (64))]) (resT' (v:=(.int .i64 (64))) rfl resN) (fm_cons rfl fm_nil)
 ·replace hm:=cond_f hm g3
  refine tk_skip okM ?_
  refine n1 _ ?_
  refine tk_os okM hok fun J hJ=>?_
  obtain ⟨v4,ev4,hm⟩:=bind_s hm
  obtain ⟨j5,ej5,hm⟩:=bind_s hm
  have a6:=ld_tab (M:=Mt) (t:=5) (tabIv1 iv hnb hG1) T.ag5 (tabG1 (ck_lt ej5).1)
  simp only [C.f152r3,R,Nat.reduceEqDiff,ev4,ia206,ej5,a6,cv_int (M:=Mt) Tryz.underlying5 Tryz.underlying3]
  refine hJ _ ?_
  refine tk_ret okM ?_
  obtain rfl:=Option.some.inj hm
  exact end_flat (.inl rfl) (vs:=[(.int .i64 (IntKind.i64.wrap (tabN1 j5)))]) (resT' (v:=(.int .i64 (IntKind.i64.wrap (tabN1 j5)))) rfl resN) (fm_cons rfl fm_nil)
end Go.Proofs.YtaadjlpfdajggaaGreatDoor
