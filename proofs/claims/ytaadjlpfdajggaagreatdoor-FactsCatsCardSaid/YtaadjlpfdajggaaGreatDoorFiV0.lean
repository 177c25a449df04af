import Derived.Test.YtaadjlpfdajggaaGreatDoorFiBase
set_option maxRecDepth 100000
set_option linter.unusedVariables false
set_option linter.unusedSimpArgs false
namespace Go.Proofs.YtaadjlpfdajggaaGreatDoor
open Go Go.AM
attribute [local congr] bind_first map_first
def b_bq (c_bu:T_dA) (c_bj:T_d2) (c_8:T_c5) (c_bF:T_dY) (c_bg:T_dg) (c_bH:T_dW) (c_p:T_R) (n:Nat) (x0:(Sl S_b)) (x1:(Sl S_b)) (x308:S_c) (x309:S_c) (x310:S_c) (x10_311:Int) (x312:S_c) (x12_313:Int) (x314:S_d):Option (Bool):=(bif (((decide (x10_311 = 0)) && (decide (x12_313 = 0))) && (decide (x310.f_First = x314))) && (decide (x310.f_Open = (x308.f_Open && x309.f_Open))) then ((c_p x308.f_First x309.f_First).bind fun v391=>some (decide (x312.f_First = v391))) else some false).bind fun y392=>(bif (((y392 && (decide (x312.f_Open = (x308.f_Open || x309.f_Open)))) && (decide (x312.f_Prefix = ((⟨#[]⟩:ByteArray))))) && ((!x308.f_Fast) || x310.f_Fast)) && (decide (x312.f_Fast = (x308.f_Fast && x309.f_Fast))) then ((c_8).bind fun v483=>some v483) else some false).bind fun y484=>some y484
def b_b9 (c_bu:T_dA) (c_bj:T_d2) (c_8:T_c5) (c_bF:T_dY) (c_bg:T_dg) (c_bH:T_dW) (c_p:T_R) (n:Nat) (x0:(Sl S_b)) (x1:(Sl S_b)):Option (Bool):=(c_bu x0 60).bind fun v26=>(c_bu x1 60).bind fun v41=>(c_bj v26).bind fun v56=>(c_bj v41).bind fun v78=>(bif (!decide (v56.2 = 0)) || (!decide (v78.2 = 0)) then some true else ((c_bg v26).bind fun v119=>(c_bg v41).bind fun v122=>some (decide (0 < (IntKind.i64.wrap (v119 + v122)))))).bind fun y123=>(bif y123 then some true else ((c_bF v26).bind fun v147=>(c_bF v41).bind fun v150=>some (decide (40 ≤ (max v147 v150))))).bind fun y151=>bif y151 then ((bif (decide (v56.2 = 0)) || (decide (v56.1 = S_c.zero)) then ((c_8).bind fun v183=>some v183) else some false).bind fun y184=>some y184) else ((c_bH v26 v41 8).bind fun v196=>(c_bj v196).bind fun v211=>(c_bH v26 v41 9).bind fun v240=>(c_bj v240).bind fun v256=>bif v56.1.f_Open then ((c_p v56.1.f_First v78.1.f_First).bind fun v500=>b_bq c_bu c_bj c_8 c_bF c_bg c_bH c_p n x0 x1 v56.1 v78.1 v211.1 v211.2 v256.1 v256.2 v500) else (b_bq c_bu c_bj c_8 c_bF c_bg c_bH c_p n x0 x1 v56.1 v78.1 v211.1 v211.2 v256.1 v256.2 v56.1.f_First))
theorem w_fk {call:CallF} (hok:CallOk Mt call) {n:Nat} {c_bu:T_dA} (z_fe:A_fw call c_bu) {c_bj:T_d2} (z_dB:A_f0 call c_bj) {c_8:T_c5} (z_eJ:A_eY call c_8) {c_bF:T_dY} (z_fu:A_f7 call c_bF) {c_bg:T_dg} (z_eV:A_fg call c_bg) {c_bH:T_dW} (z_fz:A_fS call c_bH) {c_p:T_R} (z_by:A_cR call c_p) {H0:Hp} {x0:(Sl S_b)} {b0:Nat} {x1:(Sl S_b)} {b1:Nat} {r:Bool} {ro:Nat} (hro:ro ≤ H0.length) (h0:SlH H0 S_b.c 72 x0 b0) (h1:SlH H0 S_b.c 72 x1 b1) (hm:b_b9 c_bu c_bj c_8 c_bF c_bg c_bH c_p n x0 x1 = some r) (hG1:TabH1 H0) :
  Pt Mt ro 12 [(vAgg [slV x0 b0]),(vAgg [slV x1 b1])] H0 (.bool (r)) H0 []:=by
 refine pt_new0 okM F12d (by exact Nat.le_of_ble_eq_true rfl) ?_ hro
 intro c hnt hnb hcr
 have hcn:c.ro ≤ c.nb:=by omega
 have l0:x0 ≠ none → b0 < c.nb:=fun h=>by rw [hnb]; exact h0.lt h
 have l1:x1 ≠ none → b1 < c.nb:=fun h=>by rw [hnb]; exact h1.lt h
 have iv:Iv c.nb [] H0 H0:=by rw [hnb]; exact iv_refl
 rw [show args0 [(vAgg [slV x0 b0]),(vAgg [slV x1 b1])] = [(0,(vAgg [slV x0 b0])),(1,(vAgg [slV x1 b1]))] from rfl]
 rw [b_b9] at hm
 simp only [C.f12]
 refine tk_os okM hok fun J hJ=>?_
 obtain ⟨b3,H4,a5,f6,q7,r8,x9,i10⟩:=bx_ok (M:=Mt) (t:=37) (u:=(vAgg [(slV x0 b0)])) (cs:=[(slV x0 b0)]) H0 iv.le T.sz37 vAgg_cells one_sl
 have i11:=i10 _ _ iv
 obtain ⟨b13,H14,a15,f16,q17,r18,x19,i20⟩:=bx_ok (M:=Mt) (t:=37) (u:=(vAgg [(slV x1 b1)])) (cs:=[(slV x1 b1)]) H4 i11.le T.sz37 vAgg_cells one_sl
 have i21:=i20 _ _ i11
 have f22:=x19 _ _ f6
 simp only [C.f12r0,R,Nat.reduceEqDiff,a5,a15]
 refine hJ _ ?_
 refine tk_os okM hok fun J hJ=>?_
 have a24:=ld_agg (M:=Mt) (t:=37) (off:=0) (c:=[(slV x0 b0)]) f22 T.ag37 T.sz37 Seg.refl
 obtain ⟨v26,ev26,hm⟩:=bind_s hm
 have a25:=z_fe c.ro H14 x0 b0 60 v26 (h0.iv l0 (fun _=>by simp) i21) ev26
 obtain ⟨a29,l28,f27⟩:=a25
 have f30:=f27 _ _ h0
 have l31:=fun h=>l0 (l28 h)
 obtain ⟨H33,a34,f35,u36⟩:=st_ok (M:=Mt) (t:=37) (off:=0) (ro:=c.ro) (v:=(vAgg [(slV v26 b0)])) (c:=[(slV v26 b0)]) (cs':=[(slV v26 b0)]) f22 T.sz37 vAgg_cells one_sl (Nat.le_trans hcn r8) (Nat.le_refl _) rfl
 have i37:=i21.up u36 r8
 have f38:=(u36.get _ (ne_len f6 q17).symm).trans f16
 simp only [C.f12r1,R,Nat.reduceEqDiff,a24,c_fn F18,a29,a34]
 refine hJ _ ?_
 refine tk_os okM hok fun J hJ=>?_
 have a39:=ld_agg (M:=Mt) (t:=37) (off:=0) (c:=[(slV x1 b1)]) f38 T.ag37 T.sz37 Seg.refl
 obtain ⟨v41,ev41,hm⟩:=bind_s hm
 have a40:=z_fe c.ro H33 x1 b1 60 v41 (h1.iv l1 (fun _=>by simp) i37) ev41
 obtain ⟨a44,l43,f42⟩:=a40
 have f45:=f42 _ _ h1
 have l46:=fun h=>l1 (l43 h)
 obtain ⟨H48,a49,f50,u51⟩:=st_ok (M:=Mt) (t:=37) (off:=0) (ro:=c.ro) (v:=(vAgg [(slV v41 b1)])) (c:=[(slV v41 b1)]) (cs':=[(slV v41 b1)]) f38 T.sz37 vAgg_cells one_sl (Nat.le_trans hcn r18) (Nat.le_refl _) rfl
 have i52:=i37.up u51 r18
 have f53:=(u51.get _ (ne_len f6 q17)).trans f35
 simp only [C.f12r2,R,Nat.reduceEqDiff,a39,c_fn F18,a44,a49]
 refine hJ _ ?_
 refine tk_os okM hok fun J hJ=>?_
 have a54:=ld_agg (M:=Mt) (t:=37) (off:=0) (c:=[(slV v26 b0)]) f53 T.ag37 T.sz37 Seg.refl
 obtain ⟨v56,ev56,hm⟩:=bind_s hm
 have a55:=z_dB c.ro H48 v26 b0 v56 (f30.iv l31 (fun _=>by simp) i52) (tabIv1 i52 hnb hG1) ev56
 obtain ⟨b57,H58,a59,f60,q61,r62,x63,i64⟩:=al_ok H48 54 (S_c.c S_c.zero) i52.le
 have i65:=i64 _ _ i52
 have f66:=x63 _ _ f53
 have f67:=x63 _ _ f50
 obtain ⟨H69,a70,f71,u72⟩:=st_ok (M:=Mt) (t:=54) (v:=(vAgg (S_c.c (v56.1)))) (c:=S_c.c v56.1) (cs':=S_c.c v56.1) f60 (by rw [S_c.enc.len]; exact T.sz54) vAgg_cells (S_c.enc.one _) (Nat.le_trans hcn r62) (le0 S_c.enc.len) (wrs_all (eqL S_c.enc.len))
 have i73:=i65.up u72 r62
 have f74:=(u72.get _ (ne_len f53 q61)).trans f66
 have f75:=(u72.get _ (ne_len f50 q61)).trans f67
 simp only [C.f12r3,R,Nat.reduceEqDiff,a54,c_fn F26,a55,zs54,a59,a70]
 refine hJ _ ?_
 refine tk_os okM hok fun J hJ=>?_
 have a76:=ld_agg (M:=Mt) (t:=37) (off:=0) (c:=[(slV v41 b1)]) f75 T.ag37 T.sz37 Seg.refl
 obtain ⟨v78,ev78,hm⟩:=bind_s hm
 have a77:=z_dB c.ro H69 v41 b1 v78 (f45.iv l46 (fun _=>by simp) i73) (tabIv1 i73 hnb hG1) ev78
 obtain ⟨b79,H80,a81,f82,q83,r84,x85,i86⟩:=al_ok H69 54 (S_c.c S_c.zero) i73.le
 have i87:=i86 _ _ i73
 have f88:=x85 _ _ f74
 have f89:=x85 _ _ f75
 have f90:=x85 _ _ f71
 obtain ⟨H92,a93,f94,u95⟩:=st_ok (M:=Mt) (t:=54) (v:=(vAgg (S_c.c (v78.1)))) (c:=S_c.c v78.1) (cs':=S_c.c v78.1) f82 (by rw [S_c.enc.len]; exact T.sz54) vAgg_cells (S_c.enc.one _) (Nat.le_trans hcn r84) (le0 S_c.enc.len) (wrs_all (eqL S_c.enc.len))
 have i96:=i87.up u95 r84
 have f97:=(u95.get _ (ne_len f74 q83)).trans f88
 have f98:=(u95.get _ (ne_len f75 q83)).trans f89
 have f99:=(u95.get _ (ne_len f71 q83)).trans f90
 simp only [C.f12r4,R,Nat.reduceEqDiff,a76,c_fn F26,a77,zs54,a81,a93]
 refine hJ _ ?_
 refine tk_seq_k fun K n100 x101=>?_
 refine tk_os okM hok fun J hJ=>?_
 rw [C.f12r5]
 refine rn_app_k (fun ⟨σ,H,_⟩=>Lk σ 2 (.pointer (some ⟨b3,0,none⟩)) ∧ Lk σ 3 (.pointer (some ⟨b13,0,none⟩)) ∧ Lk σ 5 (.pointer (some ⟨b57,0,none⟩)) ∧ Lk σ 6 (.int .i64 (v56.2)) ∧ Lk σ 7 (.pointer (some ⟨b79,0,none⟩)) ∧ Lk σ 33 (.bool ((!decide (v56.2 = 0)) || (!decide (v78.2 = 0)))) ∧ H[b3]? = some (.cells [(slV v26 b0)] 37) ∧ H[b13]? = some (.cells [(slV v41 b1)] 37) ∧ H[b57]? = some (.cells (S_c.c v56.1) 54) ∧ H[b79]? = some (.cells (S_c.c v78.1) 54) ∧ Iv c.nb [] H0 H) (fun J hJ=>?_) ?_
 ·skip
  cases g114:!decide (v56.2 = 0)
  ·skip
   simp only [C.f12r5p0,R,Nat.reduceEqDiff,s_pt,s_gt,isW,Bool.false_eq_true,if_false,if_true,reduceIte,g114]
   refine hJ _ ?_
   exact ⟨rfl,rfl,rfl,(by first | rfl | (simp only [g114]; rfl) | simp only [g114,Lk,RB,Nat.reduceEqDiff,not_false_eq_true]),rfl,(by first | rfl | (simp only [g114]; rfl) | simp only [g114,Lk,RB,Nat.reduceEqDiff,not_false_eq_true]),f97,f98,f99,f94,i96⟩
  ·skip
   simp only [C.f12r5p0,R,Nat.reduceEqDiff,s_pt,s_gt,isW,Bool.false_eq_true,if_false,if_true,reduceIte,g114]
   refine hJ _ ?_
   exact ⟨rfl,rfl,rfl,(by first | rfl | (simp only [g114]; rfl) | simp only [g114,Lk,RB,Nat.reduceEqDiff,not_false_eq_true]),rfl,(by first | rfl | (simp only [g114]; rfl) | simp only [g114,Lk,RB,Nat.reduceEqDiff,not_false_eq_true]),f97,f98,f99,f94,i96⟩
 rintro ⟨σ115,H102,d116⟩ ⟨h103,h104,h105,h106,h107,h108,f109,f110,f111,f112,i113⟩
 obtain ⟨y123,ey123,hm⟩:=bind_s hm
 refine rn_app_k (fun ⟨σ,H,_⟩=>Lk σ 2 (.pointer (some ⟨b3,0,none⟩)) ∧ Lk σ 3 (.pointer (some ⟨b13,0,none⟩)) ∧ Lk σ 5 (.pointer (some ⟨b57,0,none⟩)) ∧ Lk σ 6 (.int .i64 (v56.2)) ∧ Lk σ 7 (.pointer (some ⟨b79,0,none⟩)) ∧ Lk σ 41 (.bool (y123)) ∧ H[b3]? = some (.cells [(slV v26 b0)] 37) ∧ H[b13]? = some (.cells [(slV v41 b1)] 37) ∧ H[b57]? = some (.cells (S_c.c v56.1) 54) ∧ H[b79]? = some (.cells (S_c.c v78.1) 54) ∧ Iv c.nb [] H0 H) (fun J hJ=>?_) ?_
 ·skip
  cases g136:(!decide (v56.2 = 0)) || (!decide (v78.2 = 0))
  ·skip
   have ey123:=cond_f ey123 g136
   have a137:=ld_agg (M:=Mt) (t:=37) (off:=0) (c:=[(slV v26 b0)]) f109 T.ag37 T.sz37 Seg.refl
   obtain ⟨v139,ev139,ey123⟩:=bind_s ey123
   have a138:=z_eV H102.length H102 v26 b0 v139 (f30.iv l31 (fun _=>by simp) i113) ev139
   have a140:=ld_agg (M:=Mt) (t:=37) (off:=0) (c:=[(slV v41 b1)]) f110 T.ag37 T.sz37 Seg.refl
   obtain ⟨v142,ev142,ey123⟩:=bind_s ey123
   have a141:=z_eV H102.length H102 v41 b1 v142 (f45.iv l46 (fun _=>by simp) i113) ev142
   obtain rfl:=Option.some.inj ey123
   simp only [C.f12r5p1,R,Nat.reduceEqDiff,s_pt,s_gt,isW,Bool.false_eq_true,if_false,if_true,reduceIte,h108,g136,a137,h103,c_fn F36,a138,a140,h104,a141]
   refine hJ _ ?_
   exact ⟨h103,h104,h105,h106,h107,(by first | rfl | (simp only [g136]; rfl) | simp only [g136,Lk,RB,Nat.reduceEqDiff,not_false_eq_true]),f109,f110,f111,f112,i113⟩
  ·skip
   have ey123:=cond_t ey123 g136
   obtain rfl:=Option.some.inj ey123
   simp only [C.f12r5p1,R,Nat.reduceEqDiff,s_pt,s_gt,isW,Bool.false_eq_true,if_false,if_true,reduceIte,h108,g136]
   refine hJ _ ?_
   exact ⟨h103,h104,h105,h106,h107,(by first | rfl | (simp only [g136]; rfl) | simp only [g136,Lk,RB,Nat.reduceEqDiff,not_false_eq_true]),f109,f110,f111,f112,i113⟩
 rintro ⟨σ143,H124,d144⟩ ⟨h125,h126,h127,h128,h129,h130,f131,f132,f133,f134,i135⟩
 obtain ⟨y151,ey151,hm⟩:=bind_s hm
 refine rn_k (fun ⟨σ,H,_⟩=>Lk σ 2 (.pointer (some ⟨b3,0,none⟩)) ∧ Lk σ 3 (.pointer (some ⟨b13,0,none⟩)) ∧ Lk σ 5 (.pointer (some ⟨b57,0,none⟩)) ∧ Lk σ 6 (.int .i64 (v56.2)) ∧ Lk σ 7 (.pointer (some ⟨b79,0,none⟩)) ∧ Lk σ 49 (.bool (y151)) ∧ H[b3]? = some (.cells [(slV v26 b0)] 37) ∧ H[b13]? = some (.cells [(slV v41 b1)] 37) ∧ H[b57]? = some (.cells (S_c.c v56.1) 54) ∧ H[b79]? = some (.cells (S_c.c v78.1) 54) ∧ Iv c.nb [] H0 H) (fun J hJ=>?_) ?_
 ·skip
  cases g164:y123
  ·skip
   have ey151:=cond_f ey151 g164
   have a165:=ld_agg (M:=Mt) (t:=37) (off:=0) (c:=[(slV v26 b0)]) f131 T.ag37 T.sz37 Seg.refl
   obtain ⟨v167,ev167,ey151⟩:=bind_s ey151
   have a166:=z_fu H124.length H124 v26 b0 v167 (f30.iv l31 (fun _=>by simp) i135) ev167
   have a168:=ld_agg (M:=Mt) (t:=37) (off:=0) (c:=[(slV v41 b1)]) f132 T.ag37 T.sz37 Seg.refl
   obtain ⟨v170,ev170,ey151⟩:=bind_s ey151
   have a169:=z_fu H124.length H124 v41 b1 v170 (f45.iv l46 (fun _=>by simp) i135) ev170
   obtain rfl:=Option.some.inj ey151
   simp only [C.f12r5p2,R,Nat.reduceEqDiff,s_pt,s_gt,isW,Bool.false_eq_true,if_false,if_true,reduceIte,h130,g164,a165,h125,c_fn F32,a166,a168,h126,a169]
   refine hJ _ ?_
   exact ⟨h125,h126,h127,h128,h129,(by first | rfl | (simp only [g164]; rfl) | simp only [g164,Lk,RB,Nat.reduceEqDiff,not_false_eq_true]),f131,f132,f133,f134,i135⟩
  ·skip
   have ey151:=cond_t ey151 g164
   obtain rfl:=Option.some.inj ey151
   simp only [C.f12r5p2,R,Nat.reduceEqDiff,s_pt,s_gt,isW,Bool.false_eq_true,if_false,if_true,reduceIte,h130,g164]
   refine hJ _ ?_
   exact ⟨h125,h126,h127,h128,h129,(by first | rfl | (simp only [g164]; rfl) | simp only [g164,Lk,RB,Nat.reduceEqDiff,not_false_eq_true]),f131,f132,f133,f134,i135⟩
 rintro ⟨σ171,H152,d172⟩ ⟨h153,h154,h155,h156,h157,h158,f159,f160,f161,f162,i163⟩
 refine hJ _ ?_
 refine tk_cond (t:=y151) h158 (fun g173=>?_) (fun g173=>?_)
 ·replace hm:=cond_t hm g173
  refine tk_os okM hok fun J hJ=>?_
  rw [C.f12r6]
  refine rn_app_k (fun ⟨σ,H,_⟩=>Lk σ 56 (.bool ((decide (v56.2 = 0)) || (decide (v56.1 = S_c.zero)))) ∧ Iv c.nb [] H0 H) (fun J hJ=>?_) ?_
  ·skip
   cases g178:decide (v56.2 = 0)
   ·skip
    have a179:=ld_agg (M:=Mt) (t:=54) f161 T.ag54 (by rw [S_c.enc.len]; exact T.sz54) Seg.refl
    simp only [C.f12r6p0,R,Nat.reduceEqDiff,h156,g178,a179,h155,bd54_,eql54]
    refine hJ _ ?_
    exact ⟨(by first | rfl | (simp only [g178]; rfl) | simp only [g178,Lk,RB,Nat.reduceEqDiff,not_false_eq_true]),i163⟩
   ·skip
    simp only [C.f12r6p0,R,Nat.reduceEqDiff,h156,g178]
    refine hJ _ ?_
    exact ⟨(by first | rfl | (simp only [g178]; rfl) | simp only [g178,Lk,RB,Nat.reduceEqDiff,not_false_eq_true]),i163⟩
  rintro ⟨σ180,H175,d181⟩ ⟨h176,i177⟩
  obtain ⟨y184,ey184,hm⟩:=bind_s hm
  refine rn_app_k (fun ⟨σ,H,_⟩=>Lk σ 59 (.bool (y184)) ∧ Iv c.nb [] H0 H) (fun J hJ=>?_) ?_
  ·skip
   cases g188:(decide (v56.2 = 0)) || (decide (v56.1 = S_c.zero))
   ·skip
    have ey184:=cond_f ey184 g188
    obtain rfl:=Option.some.inj ey184
    simp only [C.f12r6p1,R,Nat.reduceEqDiff,h176,g188]
    refine hJ _ ?_
    exact ⟨(by first | rfl | (simp only [g188]; rfl) | simp only [g188,Lk,RB,Nat.reduceEqDiff,not_false_eq_true]),i177⟩
   ·skip
    have ey184:=cond_t ey184 g188
    obtain ⟨v190,ev190,ey184⟩:=bind_s ey184
    have a189:=z_eJ c.ro H175  v190 (tabIv1 i177 hnb hG1) ev190
    obtain rfl:=Option.some.inj ey184
    simp only [C.f12r6p1,R,Nat.reduceEqDiff,h176,g188,c_fn F29,a189]
    refine hJ _ ?_
    exact ⟨(by first | rfl | (simp only [g188]; rfl) | simp only [g188,Lk,RB,Nat.reduceEqDiff,not_false_eq_true]),i177⟩
  rintro ⟨σ191,H185,d192⟩ ⟨h186,i187⟩
  simp only [C.f12r6p2,R,Nat.reduceEqDiff,h186]
  refine hJ _ ?_
  refine tk_ret okM ?_
  refine x101 _ _ (by simp) ?_
  obtain rfl:=Option.some.inj hm
  exact end_flat (.inl rfl) (vs:=[(.bool (y184))]) (resT' (v:=(.bool (y184))) rfl resN) (fm_cons rfl fm_nil)
 ·replace hm:=cond_f hm g173
  refine tk_skip okM ?_
  refine n100 _ ?_
  refine tk_os okM hok fun J hJ=>?_
  have a193:=ld_agg (M:=Mt) (t:=37) (off:=0) (c:=[(slV v26 b0)]) f159 T.ag37 T.sz37 Seg.refl
  have a194:=ld_agg (M:=Mt) (t:=37) (off:=0) (c:=[(slV v41 b1)]) f160 T.ag37 T.sz37 Seg.refl
  obtain ⟨v196,ev196,hm⟩:=bind_s hm
  have a195:=z_fz c.ro H152 v26 b0 v41 b1 8 v196 (f30.iv l31 (fun _=>by simp) i163) (f45.iv l46 (fun _=>by simp) i163) ev196
  obtain ⟨H197,q198⟩:∃ x,x = H152 ++ slB S_b.c 72 v196:=⟨_,rfl⟩
  obtain ⟨b199,q200⟩:∃ b,b = H152.length:=⟨_,rfl⟩
  rw [← q198,← q200] at a195
  have x204:Ex H152 H197:=by rw [q198]; exact ex_app
  have i202:Iv c.nb [] H0 H197:=by rw [q198]; exact i163.app
  have f201:SlO c.nb H197 S_b.c 72 v196 b199:=by rw [q198,q200]; exact slB_own i163.le
  have r203:c.nb ≤ b199:=by rw [q200]; exact i163.le
  have f205:=x204 _ _ f159
  have f206:=x204 _ _ f160
  have f207:=x204 _ _ f161
  have f208:=x204 _ _ f162
  obtain ⟨v211,ev211,hm⟩:=bind_s hm
  have a210:=z_dB c.ro H197 v196 b199 v211 f201.h (tabIv1 i202 hnb hG1) ev211
  obtain ⟨b212,H213,a214,f215,q216,r217,x218,i219⟩:=al_ok H197 54 (S_c.c S_c.zero) i202.le
  have i220:=i219 _ _ i202
  have f221:=x218 _ _ f205
  have f222:=x218 _ _ f206
  have f223:=x218 _ _ f207
  have f224:=x218 _ _ f208
  have f225:=f201.ex x218
  obtain ⟨H227,a228,f229,u230⟩:=st_ok (M:=Mt) (t:=54) (v:=(vAgg (S_c.c (v211.1)))) (c:=S_c.c v211.1) (cs':=S_c.c v211.1) f215 (by rw [S_c.enc.len]; exact T.sz54) vAgg_cells (S_c.enc.one _) (Nat.le_trans hcn r217) (le0 S_c.enc.len) (wrs_all (eqL S_c.enc.len))
  have i231:=i220.up u230 r217
  have f232:=(u230.get _ (ne_len f205 q216)).trans f221
  have f233:=(u230.get _ (ne_len f206 q216)).trans f222
  have f234:=(u230.get _ (ne_len f207 q216)).trans f223
  have f235:=(u230.get _ (ne_len f208 q216)).trans f224
  have f236:=f225.up u230 (f201.h.ne q216)
  simp only [C.f12r7,R,Nat.reduceEqDiff,a193,h153,a194,h154,c_fn F37,a195,c_fn F26,a210,zs54,a214,a228]
  refine hJ _ ?_
  refine tk_os okM hok fun J hJ=>?_
  have a237:=ld_agg (M:=Mt) (t:=37) (off:=0) (c:=[(slV v26 b0)]) f232 T.ag37 T.sz37 Seg.refl
  have a238:=ld_agg (M:=Mt) (t:=37) (off:=0) (c:=[(slV v41 b1)]) f233 T.ag37 T.sz37 Seg.refl
  obtain ⟨v240,ev240,hm⟩:=bind_s hm
  have a239:=z_fz c.ro H227 v26 b0 v41 b1 9 v240 (f30.iv l31 (fun _=>by simp) i231) (f45.iv l46 (fun _=>by simp) i231) ev240
  obtain ⟨H241,q242⟩:∃ x,x = H227 ++ slB S_b.c 72 v240:=⟨_,rfl⟩
  obtain ⟨b243,q244⟩:∃ b,b = H227.length:=⟨_,rfl⟩
  rw [← q242,← q244] at a239
  have x248:Ex H227 H241:=by rw [q242]; exact ex_app
  have i246:Iv c.nb [] H0 H241:=by rw [q242]; exact i231.app
  have f245:SlO c.nb H241 S_b.c 72 v240 b243:=by rw [q242,q244]; exact slB_own i231.le
  have r247:c.nb ≤ b243:=by rw [q244]; exact i231.le
  have f249:=x248 _ _ f232
  have f250:=x248 _ _ f233
  have f251:=x248 _ _ f234
  have f252:=x248 _ _ f235
  have f253:=x248 _ _ f229
  obtain ⟨v256,ev256,hm⟩:=bind_s hm
  have a255:=z_dB c.ro H241 v240 b243 v256 f245.h (tabIv1 i246 hnb hG1) ev256
  obtain ⟨b257,H258,a259,f260,q261,r262,x263,i264⟩:=al_ok H241 54 (S_c.c S_c.zero) i246.le
  have i265:=i264 _ _ i246
  have f266:=x263 _ _ f249
  have f267:=x263 _ _ f250
  have f268:=x263 _ _ f251
  have f269:=x263 _ _ f252
  have f270:=x263 _ _ f253
  have f271:=f245.ex x263
  obtain ⟨H273,a274,f275,u276⟩:=st_ok (M:=Mt) (t:=54) (v:=(vAgg (S_c.c (v256.1)))) (c:=S_c.c v256.1) (cs':=S_c.c v256.1) f260 (by rw [S_c.enc.len]; exact T.sz54) vAgg_cells (S_c.enc.one _) (Nat.le_trans hcn r262) (le0 S_c.enc.len) (wrs_all (eqL S_c.enc.len))
  have i277:=i265.up u276 r262
  have f278:=(u276.get _ (ne_len f249 q261)).trans f266
  have f279:=(u276.get _ (ne_len f250 q261)).trans f267
  have f280:=(u276.get _ (ne_len f251 q261)).trans f268
  have f281:=(u276.get _ (ne_len f252 q261)).trans f269
  have f282:=(u276.get _ (ne_len f253 q261)).trans f270
  have f283:=f271.up u276 (f245.h.ne q261)
  simp only [C.f12r8,R,Nat.reduceEqDiff,a237,h153,a238,h154,c_fn F37,a239,c_fn F26,a255,zs54,a259,a274]
  refine hJ _ ?_
  refine tk_os okM hok fun J hJ=>?_
  have a284:=ld_agg (M:=Mt) (t:=25) f280 T.ag25 (by rw [S_d.enc.len]; exact T.sz25) (Seg.refl.sub (S_c.seg0 v56.1))
  obtain ⟨b285,H286,a287,f288,q289,r290,x291,i292⟩:=al_ok H273 25 (S_d.c S_d.zero) i277.le
  have i293:=i292 _ _ i277
  have f294:=x291 _ _ f280
  have f295:=x291 _ _ f281
  have f296:=x291 _ _ f282
  have f297:=x291 _ _ f275
  obtain ⟨H299,a300,f301,u302⟩:=st_ok (M:=Mt) (t:=25) (v:=(vAgg (S_d.c (v56.1.f_First)))) (c:=S_d.c v56.1.f_First) (cs':=S_d.c v56.1.f_First) f288 (by rw [S_d.enc.len]; exact T.sz25) vAgg_cells (S_d.enc.one _) (Nat.le_trans hcn r290) (le0 S_d.enc.len) (wrs_all (eqL S_d.enc.len))
  have i303:=i293.up u302 r290
  have f304:=(u302.get _ (ne_len f280 q289)).trans f294
  have f305:=(u302.get _ (ne_len f281 q289)).trans f295
  have f306:=(u302.get _ (ne_len f282 q289)).trans f296
  have f307:=(u302.get _ (ne_len f275 q289)).trans f297
  simp only [C.f12r9,R,Nat.reduceEqDiff,fa54_0,h155,a284,zs25,a287,a300]
  refine hJ _ ?_
  refine tk_seq_j (fun ⟨σ,H,_⟩=>∃ x308 x309 x310 x10_311 x312 x12_313 x314,b_bq c_bu c_bj c_8 c_bF c_bg c_bH c_p n x0 x1 x308 x309 x310 x10_311 x312 x12_313 x314 = some r ∧ Lk σ 5 (.pointer (some ⟨b57,0,none⟩)) ∧ Lk σ 7 (.pointer (some ⟨b79,0,none⟩)) ∧ Lk σ 9 (.pointer (some ⟨b212,0,none⟩)) ∧ Lk σ 10 (.int .i64 x10_311) ∧ Lk σ 11 (.pointer (some ⟨b257,0,none⟩)) ∧ Lk σ 12 (.int .i64 x12_313) ∧ Lk σ 13 (.pointer (some ⟨b285,0,none⟩)) ∧ H[b57]? = some (.cells (S_c.c x308) 54) ∧ H[b79]? = some (.cells (S_c.c x309) 54) ∧ H[b212]? = some (.cells (S_c.c x310) 54) ∧ H[b257]? = some (.cells (S_c.c x312) 54) ∧ H[b285]? = some (.cells (S_d.c x314) 25) ∧ Iv c.nb [] H0 H) ?_ ?_
  ·skip
   rintro ⟨σ329,H315,d330⟩ ⟨x308,x309,x310,x10_311,x312,x12_313,x314,hm,h316,h317,h318,h319,h320,h321,h322,f323,f324,f325,f326,f327,i328⟩
   rw [b_bq] at hm
   refine tk_os okM hok fun J hJ=>?_
   rw [C.f12r12]
   refine rn_app_k (fun ⟨σ,H,_⟩=>Lk σ 5 (.pointer (some ⟨b57,0,none⟩)) ∧ Lk σ 7 (.pointer (some ⟨b79,0,none⟩)) ∧ Lk σ 9 (.pointer (some ⟨b212,0,none⟩)) ∧ Lk σ 11 (.pointer (some ⟨b257,0,none⟩)) ∧ Lk σ 13 (.pointer (some ⟨b285,0,none⟩)) ∧ Lk σ 87 (.bool ((decide (x10_311 = 0)) && (decide (x12_313 = 0)))) ∧ H[b57]? = some (.cells (S_c.c x308) 54) ∧ H[b79]? = some (.cells (S_c.c x309) 54) ∧ H[b212]? = some (.cells (S_c.c x310) 54) ∧ H[b257]? = some (.cells (S_c.c x312) 54) ∧ H[b285]? = some (.cells (S_d.c x314) 25) ∧ Iv c.nb [] H0 H) (fun J hJ=>?_) ?_
   ·skip
    cases g344:decide (x10_311 = 0)
    ·skip
     simp only [C.f12r12p0,R,Nat.reduceEqDiff,s_pt,s_gt,isW,Bool.false_eq_true,if_false,if_true,reduceIte,h319,g344]
     refine hJ _ ?_
     exact ⟨h316,h317,h318,h320,h322,(by first | rfl | (simp only [g344]; rfl) | simp only [g344,Lk,RB,Nat.reduceEqDiff,not_false_eq_true]),f323,f324,f325,f326,f327,i328⟩
    ·skip
     simp only [C.f12r12p0,R,Nat.reduceEqDiff,s_pt,s_gt,isW,Bool.false_eq_true,if_false,if_true,reduceIte,h319,g344,h321]
     refine hJ _ ?_
     exact ⟨h316,h317,h318,h320,h322,(by first | rfl | (simp only [g344]; rfl) | simp only [g344,Lk,RB,Nat.reduceEqDiff,not_false_eq_true]),f323,f324,f325,f326,f327,i328⟩
   rintro ⟨σ345,H331,d346⟩ ⟨h332,h333,h334,h335,h336,h337,f338,f339,f340,f341,f342,i343⟩
   refine rn_app_k (fun ⟨σ,H,_⟩=>Lk σ 5 (.pointer (some ⟨b57,0,none⟩)) ∧ Lk σ 7 (.pointer (some ⟨b79,0,none⟩)) ∧ Lk σ 9 (.pointer (some ⟨b212,0,none⟩)) ∧ Lk σ 11 (.pointer (some ⟨b257,0,none⟩)) ∧ Lk σ 93 (.bool (((decide (x10_311 = 0)) && (decide (x12_313 = 0))) && (decide (x310.f_First = x314)))) ∧ H[b57]? = some (.cells (S_c.c x308) 54) ∧ H[b79]? = some (.cells (S_c.c x309) 54) ∧ H[b212]? = some (.cells (S_c.c x310) 54) ∧ H[b257]? = some (.cells (S_c.c x312) 54) ∧ Iv c.nb [] H0 H) (fun J hJ=>?_) ?_
   ·skip
    cases g360:(decide (x10_311 = 0)) && (decide (x12_313 = 0))
    ·skip
     simp only [C.f12r12p1,R,Nat.reduceEqDiff,s_pt,s_gt,isW,Bool.false_eq_true,if_false,if_true,reduceIte,h337,g360]
     refine hJ _ ?_
     exact ⟨h332,h333,h334,h335,(by first | rfl | (simp only [g360]; rfl) | simp only [g360,Lk,RB,Nat.reduceEqDiff,not_false_eq_true]),f338,f339,f340,f341,i343⟩
    ·skip
     have a361:=ld_agg (M:=Mt) (t:=25) f340 T.ag25 (by rw [S_d.enc.len]; exact T.sz25) (Seg.refl.sub (S_c.seg0 x310))
     have a362:=ld_agg (M:=Mt) (t:=25) f342 T.ag25 (by rw [S_d.enc.len]; exact T.sz25) Seg.refl
     simp only [C.f12r12p1,R,Nat.reduceEqDiff,s_pt,s_gt,isW,Bool.false_eq_true,if_false,if_true,reduceIte,h337,g360,fa54_0,h334,a361,a362,h336,eql25]
     refine hJ _ ?_
     exact ⟨h332,h333,h334,h335,(by first | rfl | (simp only [g360]; rfl) | simp only [g360,Lk,RB,Nat.reduceEqDiff,not_false_eq_true]),f338,f339,f340,f341,i343⟩
   rintro ⟨σ363,H349,d364⟩ ⟨h350,h351,h352,h353,h354,f355,f356,f357,f358,i359⟩
   refine rn_app_k (fun ⟨σ,H,_⟩=>Lk σ 5 (.pointer (some ⟨b57,0,none⟩)) ∧ Lk σ 7 (.pointer (some ⟨b79,0,none⟩)) ∧ Lk σ 9 (.pointer (some ⟨b212,0,none⟩)) ∧ Lk σ 11 (.pointer (some ⟨b257,0,none⟩)) ∧ Lk σ 104 (.bool ((((decide (x10_311 = 0)) && (decide (x12_313 = 0))) && (decide (x310.f_First = x314))) && (decide (x310.f_Open = (x308.f_Open && x309.f_Open))))) ∧ H[b57]? = some (.cells (S_c.c x308) 54) ∧ H[b79]? = some (.cells (S_c.c x309) 54) ∧ H[b212]? = some (.cells (S_c.c x310) 54) ∧ H[b257]? = some (.cells (S_c.c x312) 54) ∧ Iv c.nb [] H0 H) (fun J hJ=>?_) ?_
   ·skip
    cases g379:((decide (x10_311 = 0)) && (decide (x12_313 = 0))) && (decide (x310.f_First = x314))
    ·skip
     simp only [C.f12r12p2,R,Nat.reduceEqDiff,s_pt,s_gt,isW,Bool.false_eq_true,if_false,if_true,reduceIte,h354,g379]
     refine hJ _ ?_
     exact ⟨h350,h351,h352,h353,(by first | rfl | (simp only [g379]; rfl) | simp only [g379,Lk,RB,Nat.reduceEqDiff,not_false_eq_true]),f355,f356,f357,f358,i359⟩
    ·skip
     have a380:=ld_one (M:=Mt) (t:=4) f357 T.ag4 (Seg.refl.sub (S_c.seg1 x310))
     have a381:=ld_one (M:=Mt) (t:=4) f355 T.ag4 (Seg.refl.sub (S_c.seg1 x308))
     cases g383:x308.f_Open
     ·skip
      simp only [C.f12r12p2,R,Nat.reduceEqDiff,s_pt,s_gt,isW,Bool.false_eq_true,if_false,if_true,reduceIte,h354,g379,fa54_1,h352,a380,h350,a381,g383,bin_beq (P:=Mt.P) Tryz.underlying4]
      refine hJ _ ?_
      exact ⟨h350,h351,h352,h353,(by first | rfl | (simp only [g379,g383]; rfl) | simp only [g379,g383,Lk,RB,Nat.reduceEqDiff,not_false_eq_true]),f355,f356,f357,f358,i359⟩
     ·skip
      have a384:=ld_one (M:=Mt) (t:=4) f356 T.ag4 (Seg.refl.sub (S_c.seg1 x309))
      simp only [C.f12r12p2,R,Nat.reduceEqDiff,s_pt,s_gt,isW,Bool.false_eq_true,if_false,if_true,reduceIte,h354,g379,fa54_1,h352,a380,h350,a381,g383,h351,a384,bin_beq (P:=Mt.P) Tryz.underlying4]
      refine hJ _ ?_
      exact ⟨h350,h351,h352,h353,(by first | rfl | (simp only [g379,g383]; rfl) | simp only [g379,g383,Lk,RB,Nat.reduceEqDiff,not_false_eq_true]),f355,f356,f357,f358,i359⟩
   rintro ⟨σ385,H368,d386⟩ ⟨h369,h370,h371,h372,h373,f374,f375,f376,f377,i378⟩
   obtain ⟨y392,ey392,hm⟩:=bind_s hm
   refine rn_app_k (fun ⟨σ,H,_⟩=>Lk σ 5 (.pointer (some ⟨b57,0,none⟩)) ∧ Lk σ 7 (.pointer (some ⟨b79,0,none⟩)) ∧ Lk σ 9 (.pointer (some ⟨b212,0,none⟩)) ∧ Lk σ 11 (.pointer (some ⟨b257,0,none⟩)) ∧ Lk σ 114 (.bool (y392)) ∧ H[b57]? = some (.cells (S_c.c x308) 54) ∧ H[b79]? = some (.cells (S_c.c x309) 54) ∧ H[b212]? = some (.cells (S_c.c x310) 54) ∧ H[b257]? = some (.cells (S_c.c x312) 54) ∧ Iv c.nb [] H0 H) (fun J hJ=>?_) ?_
   ·skip
    cases g404:(((decide (x10_311 = 0)) && (decide (x12_313 = 0))) && (decide (x310.f_First = x314))) && (decide (x310.f_Open = (x308.f_Open && x309.f_Open)))
    ·skip
     have ey392:=cond_f ey392 g404
     obtain rfl:=Option.some.inj ey392
     simp only [C.f12r12p3,R,Nat.reduceEqDiff,s_pt,s_gt,isW,Bool.false_eq_true,if_false,if_true,reduceIte,h373,g404]
     refine hJ _ ?_
     exact ⟨h369,h370,h371,h372,(by first | rfl | (simp only [g404]; rfl) | simp only [g404,Lk,RB,Nat.reduceEqDiff,not_false_eq_true]),f374,f375,f376,f377,i378⟩
    ·skip
     have ey392:=cond_t ey392 g404
     have a405:=ld_agg (M:=Mt) (t:=25) f377 T.ag25 (by rw [S_d.enc.len]; exact T.sz25) (Seg.refl.sub (S_c.seg0 x312))
     have a406:=ld_agg (M:=Mt) (t:=25) f374 T.ag25 (by rw [S_d.enc.len]; exact T.sz25) (Seg.refl.sub (S_c.seg0 x308))
     have a407:=ld_agg (M:=Mt) (t:=25) f375 T.ag25 (by rw [S_d.enc.len]; exact T.sz25) (Seg.refl.sub (S_c.seg0 x309))
     obtain ⟨v409,ev409,ey392⟩:=bind_s ey392
     have a408:=z_by H368.length H368 x308.f_First x309.f_First v409 ev409
     obtain rfl:=Option.some.inj ey392
     simp only [C.f12r12p3,R,Nat.reduceEqDiff,s_pt,s_gt,isW,Bool.false_eq_true,if_false,if_true,reduceIte,h373,g404,fa54_0,h372,a405,h369,a406,h370,a407,c_fn F38,a408,eql25]
     refine hJ _ ?_
     exact ⟨h369,h370,h371,h372,(by first | rfl | (simp only [g404]; rfl) | simp only [g404,Lk,RB,Nat.reduceEqDiff,not_false_eq_true]),f374,f375,f376,f377,i378⟩
   rintro ⟨σ410,H393,d411⟩ ⟨h394,h395,h396,h397,h398,f399,f400,f401,f402,i403⟩
   refine rn_app_k (fun ⟨σ,H,_⟩=>Lk σ 5 (.pointer (some ⟨b57,0,none⟩)) ∧ Lk σ 7 (.pointer (some ⟨b79,0,none⟩)) ∧ Lk σ 9 (.pointer (some ⟨b212,0,none⟩)) ∧ Lk σ 11 (.pointer (some ⟨b257,0,none⟩)) ∧ Lk σ 125 (.bool (y392 && (decide (x312.f_Open = (x308.f_Open || x309.f_Open))))) ∧ H[b57]? = some (.cells (S_c.c x308) 54) ∧ H[b79]? = some (.cells (S_c.c x309) 54) ∧ H[b212]? = some (.cells (S_c.c x310) 54) ∧ H[b257]? = some (.cells (S_c.c x312) 54) ∧ Iv c.nb [] H0 H) (fun J hJ=>?_) ?_
   ·skip
    cases g426:y392
    ·skip
     simp only [C.f12r12p4,R,Nat.reduceEqDiff,s_pt,s_gt,isW,Bool.false_eq_true,if_false,if_true,reduceIte,h398,g426]
     refine hJ _ ?_
     exact ⟨h394,h395,h396,h397,(by first | rfl | (simp only [g426]; rfl) | simp only [g426,Lk,RB,Nat.reduceEqDiff,not_false_eq_true]),f399,f400,f401,f402,i403⟩
    ·skip
     have a427:=ld_one (M:=Mt) (t:=4) f402 T.ag4 (Seg.refl.sub (S_c.seg1 x312))
     have a428:=ld_one (M:=Mt) (t:=4) f399 T.ag4 (Seg.refl.sub (S_c.seg1 x308))
     cases g430:x308.f_Open
     ·skip
      have a431:=ld_one (M:=Mt) (t:=4) f400 T.ag4 (Seg.refl.sub (S_c.seg1 x309))
      simp only [C.f12r12p4,R,Nat.reduceEqDiff,s_pt,s_gt,isW,Bool.false_eq_true,if_false,if_true,reduceIte,h398,g426,fa54_1,h397,a427,h394,a428,g430,h395,a431,bin_beq (P:=Mt.P) Tryz.underlying4]
      refine hJ _ ?_
      exact ⟨h394,h395,h396,h397,(by first | rfl | (simp only [g426,g430]; rfl) | simp only [g426,g430,Lk,RB,Nat.reduceEqDiff,not_false_eq_true]),f399,f400,f401,f402,i403⟩
     ·skip
      simp only [C.f12r12p4,R,Nat.reduceEqDiff,s_pt,s_gt,isW,Bool.false_eq_true,if_false,if_true,reduceIte,h398,g426,fa54_1,h397,a427,h394,a428,g430,bin_beq (P:=Mt.P) Tryz.underlying4]
      refine hJ _ ?_
      exact ⟨h394,h395,h396,h397,(by first | rfl | (simp only [g426,g430]; rfl) | simp only [g426,g430,Lk,RB,Nat.reduceEqDiff,not_false_eq_true]),f399,f400,f401,f402,i403⟩
   rintro ⟨σ432,H415,d433⟩ ⟨h416,h417,h418,h419,h420,f421,f422,f423,f424,i425⟩
   refine rn_app_k (fun ⟨σ,H,_⟩=>Lk σ 5 (.pointer (some ⟨b57,0,none⟩)) ∧ Lk σ 7 (.pointer (some ⟨b79,0,none⟩)) ∧ Lk σ 9 (.pointer (some ⟨b212,0,none⟩)) ∧ Lk σ 11 (.pointer (some ⟨b257,0,none⟩)) ∧ Lk σ 130 (.bool ((y392 && (decide (x312.f_Open = (x308.f_Open || x309.f_Open)))) && (decide (x312.f_Prefix = ((⟨#[]⟩:ByteArray)))))) ∧ H[b57]? = some (.cells (S_c.c x308) 54) ∧ H[b79]? = some (.cells (S_c.c x309) 54) ∧ H[b212]? = some (.cells (S_c.c x310) 54) ∧ H[b257]? = some (.cells (S_c.c x312) 54) ∧ Iv c.nb [] H0 H) (fun J hJ=>?_) ?_
   ·skip
    cases g446:y392 && (decide (x312.f_Open = (x308.f_Open || x309.f_Open)))
    ·skip
     simp only [C.f12r12p5,R,Nat.reduceEqDiff,s_pt,s_gt,isW,Bool.false_eq_true,if_false,if_true,reduceIte,h420,g446]
     refine hJ _ ?_
     exact ⟨h416,h417,h418,h419,(by first | rfl | (simp only [g446]; rfl) | simp only [g446,Lk,RB,Nat.reduceEqDiff,not_false_eq_true]),f421,f422,f423,f424,i425⟩
    ·skip
     have a447:=ld_one (M:=Mt) (t:=9) f424 T.ag9 (Seg.refl.sub (S_c.seg3 x312))
     simp only [C.f12r12p5,R,Nat.reduceEqDiff,s_pt,s_gt,isW,Bool.false_eq_true,if_false,if_true,reduceIte,h420,g446,fa54_3,h419,a447]
     refine hJ _ ?_
     exact ⟨h416,h417,h418,h419,(by first | rfl | (simp only [g446]; rfl) | simp only [g446,Lk,RB,Nat.reduceEqDiff,not_false_eq_true]),f421,f422,f423,f424,i425⟩
   rintro ⟨σ448,H435,d449⟩ ⟨h436,h437,h438,h439,h440,f441,f442,f443,f444,i445⟩
   refine rn_app_k (fun ⟨σ,H,_⟩=>Lk σ 5 (.pointer (some ⟨b57,0,none⟩)) ∧ Lk σ 7 (.pointer (some ⟨b79,0,none⟩)) ∧ Lk σ 11 (.pointer (some ⟨b257,0,none⟩)) ∧ Lk σ 139 (.bool (((y392 && (decide (x312.f_Open = (x308.f_Open || x309.f_Open)))) && (decide (x312.f_Prefix = ((⟨#[]⟩:ByteArray))))) && ((!x308.f_Fast) || x310.f_Fast))) ∧ H[b57]? = some (.cells (S_c.c x308) 54) ∧ H[b79]? = some (.cells (S_c.c x309) 54) ∧ H[b257]? = some (.cells (S_c.c x312) 54) ∧ Iv c.nb [] H0 H) (fun J hJ=>?_) ?_
   ·skip
    cases g461:(y392 && (decide (x312.f_Open = (x308.f_Open || x309.f_Open)))) && (decide (x312.f_Prefix = ((⟨#[]⟩:ByteArray))))
    ·skip
     simp only [C.f12r12p6,R,Nat.reduceEqDiff,s_pt,s_gt,isW,Bool.false_eq_true,if_false,if_true,reduceIte,h440,g461]
     refine hJ _ ?_
     exact ⟨h436,h437,h439,(by first | rfl | (simp only [g461]; rfl) | simp only [g461,Lk,RB,Nat.reduceEqDiff,not_false_eq_true]),f441,f442,f444,i445⟩
    ·skip
     have a462:=ld_one (M:=Mt) (t:=4) f441 T.ag4 (Seg.refl.sub (S_c.seg2 x308))
     cases g464:!x308.f_Fast
     ·skip
      have a465:=ld_one (M:=Mt) (t:=4) f443 T.ag4 (Seg.refl.sub (S_c.seg2 x310))
      simp only [C.f12r12p6,R,Nat.reduceEqDiff,s_pt,s_gt,isW,Bool.false_eq_true,if_false,if_true,reduceIte,h440,g461,fa54_2,h436,a462,g464,h438,a465]
      refine hJ _ ?_
      exact ⟨h436,h437,h439,(by first | rfl | (simp only [g461,g464]; rfl) | simp only [g461,g464,Lk,RB,Nat.reduceEqDiff,not_false_eq_true]),f441,f442,f444,i445⟩
     ·skip
      simp only [C.f12r12p6,R,Nat.reduceEqDiff,s_pt,s_gt,isW,Bool.false_eq_true,if_false,if_true,reduceIte,h440,g461,fa54_2,h436,a462,g464]
      refine hJ _ ?_
      exact ⟨h436,h437,h439,(by first | rfl | (simp only [g461,g464]; rfl) | simp only [g461,g464,Lk,RB,Nat.reduceEqDiff,not_false_eq_true]),f441,f442,f444,i445⟩
   rintro ⟨σ466,H452,d467⟩ ⟨h453,h454,h455,h456,f457,f458,f459,i460⟩
   refine rn_app_k (fun ⟨σ,H,_⟩=>Lk σ 150 (.bool ((((y392 && (decide (x312.f_Open = (x308.f_Open || x309.f_Open)))) && (decide (x312.f_Prefix = ((⟨#[]⟩:ByteArray))))) && ((!x308.f_Fast) || x310.f_Fast)) && (decide (x312.f_Fast = (x308.f_Fast && x309.f_Fast))))) ∧ Iv c.nb [] H0 H) (fun J hJ=>?_) ?_
   ·skip
    cases g474:((y392 && (decide (x312.f_Open = (x308.f_Open || x309.f_Open)))) && (decide (x312.f_Prefix = ((⟨#[]⟩:ByteArray))))) && ((!x308.f_Fast) || x310.f_Fast)
    ·skip
     simp only [C.f12r12p7,R,Nat.reduceEqDiff,s_pt,s_gt,isW,Bool.false_eq_true,if_false,if_true,reduceIte,h456,g474]
     refine hJ _ ?_
     exact ⟨(by first | rfl | (simp only [g474]; rfl) | simp only [g474,Lk,RB,Nat.reduceEqDiff,not_false_eq_true]),i460⟩
    ·skip
     have a475:=ld_one (M:=Mt) (t:=4) f459 T.ag4 (Seg.refl.sub (S_c.seg2 x312))
     have a476:=ld_one (M:=Mt) (t:=4) f457 T.ag4 (Seg.refl.sub (S_c.seg2 x308))
     cases g478:x308.f_Fast
     ·skip
      rw [g478] at g474
      simp only [C.f12r12p7,R,Nat.reduceEqDiff,s_pt,s_gt,isW,Bool.false_eq_true,if_false,if_true,reduceIte,h456,g474,fa54_2,h455,a475,h453,a476,g478,bin_beq (P:=Mt.P) Tryz.underlying4]
      refine hJ _ ?_
      exact ⟨(by first | rfl | (simp only [g474,g478]; rfl) | simp only [g474,g478,Lk,RB,Nat.reduceEqDiff,not_false_eq_true]),i460⟩
     ·skip
      rw [g478] at g474
      have a479:=ld_one (M:=Mt) (t:=4) f458 T.ag4 (Seg.refl.sub (S_c.seg2 x309))
      simp only [C.f12r12p7,R,Nat.reduceEqDiff,s_pt,s_gt,isW,Bool.false_eq_true,if_false,if_true,reduceIte,h456,g474,fa54_2,h455,a475,h453,a476,g478,h454,a479,bin_beq (P:=Mt.P) Tryz.underlying4]
      refine hJ _ ?_
      exact ⟨(by first | rfl | (simp only [g474,g478]; rfl) | simp only [g474,g478,Lk,RB,Nat.reduceEqDiff,not_false_eq_true]),i460⟩
   rintro ⟨σ480,H471,d481⟩ ⟨h472,i473⟩
   obtain ⟨y484,ey484,hm⟩:=bind_s hm
   refine rn_app_k (fun ⟨σ,H,_⟩=>Lk σ 153 (.bool (y484)) ∧ Iv c.nb [] H0 H) (fun J hJ=>?_) ?_
   ·skip
    cases g488:(((y392 && (decide (x312.f_Open = (x308.f_Open || x309.f_Open)))) && (decide (x312.f_Prefix = ((⟨#[]⟩:ByteArray))))) && ((!x308.f_Fast) || x310.f_Fast)) && (decide (x312.f_Fast = (x308.f_Fast && x309.f_Fast)))
    ·skip
     have ey484:=cond_f ey484 g488
     obtain rfl:=Option.some.inj ey484
     simp only [C.f12r12p8,R,Nat.reduceEqDiff,s_pt,s_gt,isW,Bool.false_eq_true,if_false,if_true,reduceIte,h472,g488]
     refine hJ _ ?_
     exact ⟨(by first | rfl | (simp only [g488]; rfl) | simp only [g488,Lk,RB,Nat.reduceEqDiff,not_false_eq_true]),i473⟩
    ·skip
     have ey484:=cond_t ey484 g488
     obtain ⟨v490,ev490,ey484⟩:=bind_s ey484
     have a489:=z_eJ H471.length H471  v490 (tabIv1 i473 hnb hG1) ev490
     obtain rfl:=Option.some.inj ey484
     simp only [C.f12r12p8,R,Nat.reduceEqDiff,s_pt,s_gt,isW,Bool.false_eq_true,if_false,if_true,reduceIte,h472,g488,c_fn F29,a489]
     refine hJ _ ?_
     exact ⟨(by first | rfl | (simp only [g488]; rfl) | simp only [g488,Lk,RB,Nat.reduceEqDiff,not_false_eq_true]),i473⟩
   rintro ⟨σ491,H485,d492⟩ ⟨h486,i487⟩
   simp only [C.f12r12p9,R,Nat.reduceEqDiff,s_pt,s_gt,isW,Bool.false_eq_true,if_false,if_true,reduceIte,h486]
   refine hJ _ ?_
   refine tk_ret okM ?_
   obtain rfl:=Option.some.inj hm
   exact end_flat (.inl rfl) (vs:=[(.bool (y484))]) (resT' (v:=(.bool (y484))) rfl resN) (fm_cons rfl fm_nil)
  ·refine fun K n493 x494=>?_
   refine tk_os okM hok fun J hJ=>?_
   have a495:=ld_one (M:=Mt) (t:=4) f304 T.ag4 (Seg.refl.sub (S_c.seg1 v56.1))
   simp only [C.f12r10,R,Nat.reduceEqDiff,fa54_1,h155,a495]
   refine hJ _ ?_
   refine tk_cond (t:=v56.1.f_Open) rfl (fun g496=>?_) (fun g496=>?_)
   ·replace hm:=cond_t hm g496
    refine tk_oe okM hok fun J hJ=>?_
    have a497:=ld_agg (M:=Mt) (t:=25) f301 T.ag25 (by rw [S_d.enc.len]; exact T.sz25) Seg.refl
    have a498:=ld_agg (M:=Mt) (t:=25) f305 T.ag25 (by rw [S_d.enc.len]; exact T.sz25) (Seg.refl.sub (S_c.seg0 v78.1))
    obtain ⟨v500,ev500,hm⟩:=bind_s hm
    have a499:=z_by c.ro H299 v56.1.f_First v78.1.f_First v500 ev500
    obtain ⟨H501,a502,f503,u504⟩:=st_ok (M:=Mt) (t:=25) (v:=(vAgg (S_d.c (v500)))) (c:=S_d.c v500) (cs':=S_d.c v500) f301 (by rw [S_d.enc.len]; exact T.sz25) vAgg_cells (S_d.enc.one _) (Nat.le_trans hcn r290) (le0 S_d.enc.len) (wrs_all (eqL S_d.enc.len))
    have i505:=i303.up u504 r290
    have f506:=(u504.get _ (ne_len f280 q289)).trans f304
    have f507:=(u504.get _ (ne_len f281 q289)).trans f305
    have f508:=(u504.get _ (ne_len f282 q289)).trans f306
    have f509:=(u504.get _ (ne_len f275 q289)).trans f307
    simp only [C.f12r11,R,Nat.reduceEqDiff,a497,fa54_0,h157,a498,c_fn F38,a499,a502]
    refine hJ _ ?_
    refine n493 _ ?_
    exact ⟨v56.1,v78.1,v211.1,v211.2,v256.1,v256.2,v500,hm,h155,h157,rfl,rfl,rfl,rfl,rfl,f506,f507,f508,f509,f503,i505⟩
   ·replace hm:=cond_f hm g496
    refine tk_skip okM ?_
    refine n493 _ ?_
    exact ⟨v56.1,v78.1,v211.1,v211.2,v256.1,v256.2,v56.1.f_First,hm,h155,h157,rfl,rfl,rfl,rfl,rfl,f304,f305,f306,f307,f301,i303⟩
def b_c1 (n:Nat) (x0:(Sl S_b)) (x1:Int):Option ((Sl S_b)):=(Sl.upto x0 (min (Sl.len x0) x1)).bind fun l25=>some l25
theorem w_g3 {call:CallF} (hok:CallOk Mt call) {n:Nat} {H0:Hp} {x0:(Sl S_b)} {b0:Nat} {x1:Int} {r:(Sl S_b)} {ro:Nat} (hro:ro ≤ H0.length) (h0:SlH H0 S_b.c 72 x0 b0) (hm:b_c1 n x0 x1 = some r) :
  Pt Mt ro 18 [(vAgg [slV x0 b0]),(.int .i64 x1)] H0 (vAgg [slV r b0]) H0 []:=by
 refine pt_new0 okM F18d (by exact Nat.le_of_ble_eq_true rfl) ?_ hro
 intro c hnt hnb hcr
 have hcn:c.ro ≤ c.nb:=by omega
 have l0:x0 ≠ none → b0 < c.nb:=fun h=>by rw [hnb]; exact h0.lt h
 have iv:Iv c.nb [] H0 H0:=by rw [hnb]; exact iv_refl
 rw [show args0 [(vAgg [slV x0 b0]),(.int .i64 x1)] = [(0,(vAgg [slV x0 b0])),(1,(.int .i64 x1))] from rfl]
 rw [b_c1] at hm
 simp only [C.f18]
 refine tk_os okM hok fun J hJ=>?_
 obtain ⟨b2,H3,a4,f5,q6,r7,x8,i9⟩:=bx_ok (M:=Mt) (t:=37) (u:=(vAgg [(slV x0 b0)])) (cs:=[(slV x0 b0)]) H0 iv.le T.sz37 vAgg_cells one_sl
 have i10:=i9 _ _ iv
 obtain ⟨b12,H13,a14,f15,q16,r17,x18,i19⟩:=al_ok H3 37 [.slice none 0 0] i10.le
 have i20:=i19 _ _ i10
 have f21:=x18 _ _ f5
 simp only [C.f18r0,R,Nat.reduceEqDiff,a4,(show zc Mt.P 37 = _ from T.zc37),a14]
 refine hJ _ ?_
 refine tk_os okM hok fun J hJ=>?_
 have a23:=ld_one (M:=Mt) (t:=35) (off:=0 + 0) f21 T.ag35 Seg.refl
 have a24:=ld_one (M:=Mt) (t:=35) (off:=0 + 0) f21 T.ag35 Seg.refl
 obtain ⟨l25,el25,hm⟩:=bind_s hm
 have f26:=h0.upto el25
 have l27:=fun h=>l0 (Sl.upto_none el25 h)
 obtain ⟨H29,a30,f31,u32⟩:=st_ok (M:=Mt) (t:=37) (off:=0) (ro:=c.ro) (v:=(vAgg [(slV l25 b0)])) (c:=[(slV l25 b0)]) (cs':=[(slV l25 b0)]) f15 T.sz37 vAgg_cells one_sl (Nat.le_trans hcn r17) (Nat.le_refl _) rfl
 have i33:=i20.up u32 r17
 have f34:=(u32.get _ (ne_len f5 q16)).trans f21
 simp only [C.f18r1,R,Nat.reduceEqDiff,fa37_0,a23,a24,ln35,sl_upto (M:=Mt) Tryz.underlying35 T.sz72 (by decide) S_b.enc.len (h0.iv l0 (fun _=>by simp) i20) el25,bd_wr (M:=Mt) (x:=l25) (b:=b0) (show zc Mt.P 37 = _ from T.zc37) pl37,a30]
 refine hJ _ ?_
 refine tk_ret okM ?_
 obtain rfl:=Option.some.inj hm
 refine end_old (.inl rfl) (vs:=[(vAgg [(slV l25 b0)])]) (resC' (v:=(vAgg [(slV l25 b0)])) rfl (ldv_of (ld_agg (M:=Mt) (t:=37) (c:=[(slV l25 b0)]) f31 T.ag37 T.sz37 Seg.refl)) resN) ?_
 intro v hv i hi
 simp only [List.mem_singleton] at hv; subst hv
 rw [← hnb]; exact slV_lt l27 i (by simpa [vAgg] using hi)
def b_d4 (c_dz:T_eD) (c_dG:T_ew) (n:Nat) (x0:(Sl S_b)):Option (S_c × Int):=(c_dz x0).bind fun v27=>bif !decide (v27 = 0) then (some (S_c.zero,v27)) else ((c_dG x0).bind fun v39=>(ck (Sl.l v39).length (IntKind.i64.wrap ((Sl.len x0) - 1))).bind fun j52=>some ((Sl.nth v39 j52).f_Facts,0))
theorem w_g6 {call:CallF} (hok:CallOk Mt call) {n:Nat} {c_dz:T_eD} (z_gF:A_fr call c_dz) {c_dG:T_ew} (z_gQ:A_fv call c_dG) {H0:Hp} {x0:(Sl S_b)} {b0:Nat} {r:S_c × Int} {ro:Nat} (hro:ro ≤ H0.length) (h0:SlH H0 S_b.c 72 x0 b0) (hm:b_d4 c_dz c_dG n x0 = some r) (hG1:TabH1 H0) :
  Pt Mt ro 26 [(vAgg [slV x0 b0])] H0 (.tuple [(vAgg (S_c.c (r.1))),(.int .i64 (r.2))].toArray) H0 []:=by
 refine pt_new0 okM F26d (by exact Nat.le_of_ble_eq_true rfl) ?_ hro
 intro c hnt hnb hcr
 have hcn:c.ro ≤ c.nb:=by omega
 have l0:x0 ≠ none → b0 < c.nb:=fun h=>by rw [hnb]; exact h0.lt h
 have iv:Iv c.nb [] H0 H0:=by rw [hnb]; exact iv_refl
 rw [show args0 [(vAgg [slV x0 b0])] = [(0,(vAgg [slV x0 b0]))] from rfl]
 rw [b_d4] at hm
 simp only [C.f26]
 refine tk_os okM hok fun J hJ=>?_
 obtain ⟨b2,H3,a4,f5,q6,r7,x8,i9⟩:=bx_ok (M:=Mt) (t:=37) (u:=(vAgg [(slV x0 b0)])) (cs:=[(slV x0 b0)]) H0 iv.le T.sz37 vAgg_cells one_sl
 have i10:=i9 _ _ iv
 obtain ⟨b12,H13,a14,f15,q16,r17,x18,i19⟩:=al_ok H3 54 (S_c.c S_c.zero) i10.le
 have i20:=i19 _ _ i10
 have f21:=x18 _ _ f5
 simp only [C.f26r0,R,Nat.reduceEqDiff,a4,zs54,a14]
 refine hJ _ ?_
 refine tk_seq_k fun K n23 x24=>?_
 refine tk_os okM hok fun J hJ=>?_
 have a25:=ld_agg (M:=Mt) (t:=37) (off:=0) (c:=[(slV x0 b0)]) f21 T.ag37 T.sz37 Seg.refl
 obtain ⟨v27,ev27,hm⟩:=bind_s hm
 have a26:=z_gF c.ro H13 x0 b0 v27 (h0.iv l0 (fun _=>by simp) i20) ev27
 simp only [C.f26r1,R,Nat.reduceEqDiff,a25,c_fn F40,a26]
 refine hJ _ ?_
 refine tk_os okM hok fun J hJ=>?_
 simp only [C.f26r2,R,Nat.reduceEqDiff]
 refine hJ _ ?_
 refine tk_cond (t:=!decide (v27 = 0)) rfl (fun g28=>?_) (fun g28=>?_)
 ·replace hm:=cond_t hm g28
  refine tk_os okM hok fun J hJ=>?_
  obtain ⟨H29,a30,f31,u32⟩:=st_ok (M:=Mt) (t:=54) (v:=(vAgg (S_c.c (S_c.zero)))) (c:=S_c.c S_c.zero) (cs':=S_c.c S_c.zero) f15 (by rw [S_c.enc.len]; exact T.sz54) vAgg_cells (S_c.enc.one _) (Nat.le_trans hcn r17) (le0 S_c.enc.len) (wrs_all (eqL S_c.enc.len))
  have i33:=i20.up u32 r17
  have f34:=(u32.get _ (ne_len f5 q16)).trans f21
  simp only [C.f26r3,R,Nat.reduceEqDiff,bd54_,a30]
  refine hJ _ ?_
  refine tk_ret okM ?_
  refine x24 _ _ (by simp) ?_
  obtain rfl:=Option.some.inj hm
  exact end_flat (.inl rfl) (vs:=[(vAgg (S_c.c (S_c.zero))),(.int .i64 (v27))]) (resC' (v:=(vAgg (S_c.c (S_c.zero)))) rfl (ldv_of (ld_agg (M:=Mt) (t:=54) f31 T.ag54 (by rw [S_c.enc.len]; exact T.sz54) Seg.refl)) (resT' (v:=(.int .i64 (v27))) rfl resN)) (fm_cons (flat_agg S_c.enc _) (fm_cons rfl fm_nil))
 ·replace hm:=cond_f hm g28
  refine tk_skip okM ?_
  refine n23 _ ?_
  refine tk_os okM hok fun J hJ=>?_
  have a35:=ld_agg (M:=Mt) (t:=37) (off:=0) (c:=[(slV x0 b0)]) f21 T.ag37 T.sz37 Seg.refl
  obtain ⟨R37,q38⟩:∃ b,b = H13.length:=⟨_,rfl⟩
  obtain ⟨v39,ev39,hm⟩:=bind_s hm
  have a36:=z_gQ R37 H13 x0 b0 v39 (h0.iv l0 (fun _=>by simp) i20) (tabIv1 i20 hnb hG1) ev39
  obtain ⟨H40,q41⟩:∃ x,x = H13 ++ slB S_a.c 107 v39:=⟨_,rfl⟩
  obtain ⟨b42,q43⟩:∃ b,b = H13.length:=⟨_,rfl⟩
  rw [← q41,← q43] at a36
  have x47:Ex H13 H40:=by rw [q41]; exact ex_app
  have i45:Iv c.nb [] H0 H40:=by rw [q41]; exact i20.app
  have f44:SlO c.nb H40 S_a.c 107 v39 b42:=by rw [q41,q43]; exact slB_own i20.le
  have r46:c.nb ≤ b42:=by rw [q43]; exact i20.le
  rw [q38] at a36
  have f48:=x47 _ _ f21
  have f49:=x47 _ _ f15
  have a51:=ld_one (M:=Mt) (t:=35) (off:=0 + 0) f48 T.ag35 Seg.refl
  obtain ⟨j52,ej52,hm⟩:=bind_s hm
  obtain ⟨mm53,k54⟩:=f44.h.blk (ck_lt ej52).1
  have a55:=lds_agg (M:=Mt) (t:=54) k54 T.ag54 (by rw [S_c.enc.len]; exact T.sz54) ((seg_sl S_a.enc.len mm53 (ck_lt ej52).1).sub (S_a.seg0 (Sl.nth v39 j52)))
  obtain ⟨H56,a57,f58,u59⟩:=st_ok (M:=Mt) (t:=54) (v:=(vAgg (S_c.c ((Sl.nth v39 j52).f_Facts)))) (c:=S_c.c ((Sl.nth v39 j52).f_Facts)) (cs':=S_c.c ((Sl.nth v39 j52).f_Facts)) f49 (by rw [S_c.enc.len]; exact T.sz54) vAgg_cells (S_c.enc.one _) (Nat.le_trans hcn r17) (le0 S_c.enc.len) (wrs_all (eqL S_c.enc.len))
  have i60:=i45.up u59 r17
  have f61:=(u59.get _ (ne_len f5 q16)).trans f48
  have f62:=f44.up u59 (fun _=>(ne_len f15 q43).symm)
  simp only [C.f26r4,R,Nat.reduceEqDiff,s_pt,s_gt,isW,Bool.false_eq_true,if_false,if_true,reduceIte,a35,c_fn F57,a36,fa37_0,a51,ln35,ia108,ej52,fa107_0,a55,a57]
  refine hJ _ ?_
  refine tk_ret okM ?_
  obtain rfl:=Option.some.inj hm
  exact end_flat (.inl rfl) (vs:=[(vAgg (S_c.c ((Sl.nth v39 j52).f_Facts))),(.int .i64 (0))]) (resC' (v:=(vAgg (S_c.c ((Sl.nth v39 j52).f_Facts)))) rfl (ldv_of (ld_agg (M:=Mt) (t:=54) f58 T.ag54 (by rw [S_c.enc.len]; exact T.sz54) Seg.refl)) (resT' (v:=(.int .i64 (0))) rfl resN)) (fm_cons (flat_agg S_c.enc _) (fm_cons rfl fm_nil))
def b_dV (c_w:T_be) (c_bf:T_cG) (n:Nat) (x0:(Sl S_b)):Option (Int):=bif decide (500 < (Sl.len x0)) then (some 0) else ((c_w x0).bind fun v20=>bif !v20.2 then (some 0) else ((c_bf x0).bind fun v36=>(ck (Sl.l v36).length (IntKind.i64.wrap ((Sl.len x0) - 1))).bind fun j48=>some (Sl.nth v36 j48)))
theorem w_g7 {call:CallF} (hok:CallOk Mt call) {n:Nat} {c_w:T_be} (z_cJ:A_dD call c_w) {c_bf:T_cG} (z_dM:A_ea call c_bf) {H0:Hp} {x0:(Sl S_b)} {b0:Nat} {r:Int} {ro:Nat} (hro:ro ≤ H0.length) (h0:SlH H0 S_b.c 72 x0 b0) (hm:b_dV c_w c_bf n x0 = some r) :
  Pt Mt ro 32 [(vAgg [slV x0 b0])] H0 (.int .i64 (r)) H0 []:=by
 refine pt_new0 okM F32d (by exact Nat.le_of_ble_eq_true rfl) ?_ hro
 intro c hnt hnb hcr
 have hcn:c.ro ≤ c.nb:=by omega
 have l0:x0 ≠ none → b0 < c.nb:=fun h=>by rw [hnb]; exact h0.lt h
 have iv:Iv c.nb [] H0 H0:=by rw [hnb]; exact iv_refl
 rw [show args0 [(vAgg [slV x0 b0])] = [(0,(vAgg [slV x0 b0]))] from rfl]
 rw [b_dV] at hm
 simp only [C.f32]
 refine tk_os okM hok fun J hJ=>?_
 obtain ⟨b2,H3,a4,f5,q6,r7,x8,i9⟩:=bx_ok (M:=Mt) (t:=37) (u:=(vAgg [(slV x0 b0)])) (cs:=[(slV x0 b0)]) H0 iv.le T.sz37 vAgg_cells one_sl
 have i10:=i9 _ _ iv
 simp only [C.f32r0,R,Nat.reduceEqDiff,a4]
 refine hJ _ ?_
 refine tk_seq_k fun K n12 x13=>?_
 refine tk_os okM hok fun J hJ=>?_
 have a14:=ld_one (M:=Mt) (t:=35) (off:=0 + 0) f5 T.ag35 Seg.refl
 simp only [C.f32r1,R,Nat.reduceEqDiff,fa37_0,a14,ln35]
 refine hJ _ ?_
 refine tk_cond (t:=decide (500 < (Sl.len x0))) rfl (fun g15=>?_) (fun g15=>?_)
 ·replace hm:=cond_t hm g15
  refine tk_os okM hok fun J hJ=>?_
  simp only [C.f32r2,R,Nat.reduceEqDiff]
  refine hJ _ ?_
  refine tk_ret okM ?_
  refine x13 _ _ (by simp) ?_
  obtain rfl:=Option.some.inj hm
  exact end_flat (.inl rfl) (vs:=[(.int .i64 (0))]) (resT' (v:=(.int .i64 (0))) rfl resN) (fm_cons rfl fm_nil)
 ·replace hm:=cond_f hm g15
  refine tk_skip okM ?_
  refine n12 _ ?_
  refine tk_seq_k fun K n16 x17=>?_
  refine tk_os okM hok fun J hJ=>?_
  have a18:=ld_agg (M:=Mt) (t:=37) (off:=0) (c:=[(slV x0 b0)]) f5 T.ag37 T.sz37 Seg.refl
  obtain ⟨v20,ev20,hm⟩:=bind_s hm
  have a19:=z_cJ c.ro H3 x0 b0 v20 (h0.iv l0 (fun _=>by simp) i10) ev20
  obtain ⟨H21,q22⟩:∃ x,x = H3 ++ slB (cInt .i64) 3 v20.1:=⟨_,rfl⟩
  obtain ⟨b23,q24⟩:∃ b,b = H3.length:=⟨_,rfl⟩
  rw [← q22,← q24] at a19
  have x28:Ex H3 H21:=by rw [q22]; exact ex_app
  have i26:Iv c.nb [] H0 H21:=by rw [q22]; exact i10.app
  have f25:SlO c.nb H21 (cInt .i64) 3 v20.1 b23:=by rw [q22,q24]; exact slB_own i10.le
  have r27:c.nb ≤ b23:=by rw [q24]; exact i10.le
  have f29:=x28 _ _ f5
  simp only [C.f32r3,R,Nat.reduceEqDiff,a18,c_fn F62,a19]
  refine hJ _ ?_
  refine tk_os okM hok fun J hJ=>?_
  simp only [C.f32r4,R,Nat.reduceEqDiff]
  refine hJ _ ?_
  refine tk_cond (t:=!v20.2) rfl (fun g31=>?_) (fun g31=>?_)
  ·replace hm:=cond_t hm g31
   refine tk_os okM hok fun J hJ=>?_
   simp only [C.f32r5,R,Nat.reduceEqDiff]
   refine hJ _ ?_
   refine tk_ret okM ?_
   refine x17 _ _ (by simp) ?_
   obtain rfl:=Option.some.inj hm
   exact end_flat (.inl rfl) (vs:=[(.int .i64 (0))]) (resT' (v:=(.int .i64 (0))) rfl resN) (fm_cons rfl fm_nil)
  ·replace hm:=cond_f hm g31
   refine tk_skip okM ?_
   refine n16 _ ?_
   refine tk_os okM hok fun J hJ=>?_
   have a32:=ld_agg (M:=Mt) (t:=37) (off:=0) (c:=[(slV x0 b0)]) f29 T.ag37 T.sz37 Seg.refl
   obtain ⟨R34,q35⟩:∃ b,b = H21.length:=⟨_,rfl⟩
   obtain ⟨v36,ev36,hm⟩:=bind_s hm
   have a33:=z_dM R34 H21 x0 b0 v36 (h0.iv l0 (fun _=>by simp) i26) ev36
   obtain ⟨H37,q38⟩:∃ x,x = H21 ++ slB (cInt .i64) 3 v36:=⟨_,rfl⟩
   obtain ⟨b39,q40⟩:∃ b,b = H21.length:=⟨_,rfl⟩
   rw [← q38,← q40] at a33
   have x44:Ex H21 H37:=by rw [q38]; exact ex_app
   have i42:Iv c.nb [] H0 H37:=by rw [q38]; exact i26.app
   have f41:SlO c.nb H37 (cInt .i64) 3 v36 b39:=by rw [q38,q40]; exact slB_own i26.le
   have r43:c.nb ≤ b39:=by rw [q40]; exact i26.le
   rw [q35] at a33
   have f45:=x44 _ _ f29
   have a47:=ld_one (M:=Mt) (t:=35) (off:=0 + 0) f45 T.ag35 Seg.refl
   obtain ⟨j48,ej48,hm⟩:=bind_s hm
   obtain ⟨mm49,k50⟩:=f41.h.blk (ck_lt ej48).1
   have a51:=lds_one (M:=Mt) (t:=3) k50 T.ag3 (seg_sl enc_int.len mm49 (ck_lt ej48).1)
   simp only [C.f32r6,R,Nat.reduceEqDiff,s_pt,s_gt,isW,Bool.false_eq_true,if_false,if_true,reduceIte,a32,c_fn F63,a33,fa37_0,a47,ln35,ia100,ej48,a51]
   refine hJ _ ?_
   refine tk_ret okM ?_
   obtain rfl:=Option.some.inj hm
   exact end_flat (.inl rfl) (vs:=[(.int .i64 (Sl.nth v36 j48))]) (resT' (v:=(.int .i64 (Sl.nth v36 j48))) rfl resN) (fm_cons rfl fm_nil)
def b_cc (n:Nat) (q1:Int → Int → Int → Option (Int)) (x0:(Sl S_b)) (x3_34:Int) (x8_35:Int) (x9_36:Int):Option (Int):=q1 x3_34 x8_35 (IntKind.i64.wrap (x9_36 + 1))
def b_1 (n:Nat) (x0:(Sl S_b)):Nat → Int → Int → Int → Option (Int)
 | 0,_,_,_=>none
 | k + 1,x3_18,x8_19,x9_20=>bif decide (x9_20 < x8_19) then ((ck (Sl.l x0).length x9_20).bind fun j50=>bif decide (((Sl.nth x0 j50).f_Kind) = 11) then (b_cc n (b_1 n x0 k) x0 (IntKind.i64.wrap (x3_18 + 1)) x8_19 x9_20) else (b_cc n (b_1 n x0 k) x0 x3_18 x8_19 x9_20)) else (some x3_18)
def b_de (n:Nat) (x0:(Sl S_b)):Option (Int):=b_1 n x0 n 0 (Sl.len x0) 0
theorem w_gG {call:CallF} (hok:CallOk Mt call) {n:Nat} {H0:Hp} {x0:(Sl S_b)} {b0:Nat} {r:Int} {ro:Nat} (hro:ro ≤ H0.length) (h0:SlH H0 S_b.c 72 x0 b0) (hm:b_de n x0 = some r) :
  Pt Mt ro 36 [(vAgg [slV x0 b0])] H0 (.int .i64 (r)) H0 []:=by
 refine pt_new0 okM F36d (by exact Nat.le_of_ble_eq_true rfl) ?_ hro
 intro c hnt hnb hcr
 have hcn:c.ro ≤ c.nb:=by omega
 have l0:x0 ≠ none → b0 < c.nb:=fun h=>by rw [hnb]; exact h0.lt h
 have iv:Iv c.nb [] H0 H0:=by rw [hnb]; exact iv_refl
 rw [show args0 [(vAgg [slV x0 b0])] = [(0,(vAgg [slV x0 b0]))] from rfl]
 rw [b_de] at hm
 simp only [C.f36,C.f36b0]
 refine tk_os okM hok fun J hJ=>?_
 obtain ⟨b2,H3,a4,f5,q6,r7,x8,i9⟩:=bx_ok (M:=Mt) (t:=37) (u:=(vAgg [(slV x0 b0)])) (cs:=[(slV x0 b0)]) H0 iv.le T.sz37 vAgg_cells one_sl
 have i10:=i9 _ _ iv
 simp only [C.f36r0,R,Nat.reduceEqDiff,a4]
 refine hJ _ ?_
 refine tk_os okM hok fun J hJ=>?_
 simp only [C.f36r1,R,Nat.reduceEqDiff]
 refine hJ _ ?_
 refine tk_seq_k fun K n12 x13=>?_
 refine tk_os okM hok fun J hJ=>?_
 have a14:=ld_one (M:=Mt) (t:=35) (off:=0 + 0) f5 T.ag35 Seg.refl
 simp only [C.f36r2,R,Nat.reduceEqDiff,fa37_0,a14,ln35]
 refine hJ _ ?_
 refine tk_block_k fun K n15 e16 x17=>?_
 refine tk_loop_k (n:=n) (fun k1 ⟨σ,H,_⟩=>∃ x3_18 x8_19 x9_20,b_1 n x0 k1 x3_18 x8_19 x9_20 = some r ∧ Lk σ 3 (.int .i64 x3_18) ∧ Lk σ 7 (slV x0 b0) ∧ Lk σ 8 (.int .i64 x8_19) ∧ Lk σ 9 (.int .i64 x9_20) ∧ Iv c.nb [] H0 H) ?_ ?_ ?_
 ·exact ⟨0,Sl.len x0,0,hm,rfl,rfl,rfl,rfl,i10⟩
 ·rintro ⟨σ,H,d⟩ ⟨_,_,_,hm,_⟩
  cases hm
 ·intro k1 K n21 x22
  rintro ⟨σ29,H23,d30⟩ ⟨x3_18,x8_19,x9_20,hm,h24,h25,h26,h27,i28⟩
  rw [b_1.eq_2] at hm
  refine tk_os okM hok fun J hJ=>?_
  simp only [C.f36r3,R,Nat.reduceEqDiff,h27,h26]
  refine hJ _ ?_
  refine tk_seq_k fun K n31 x32=>?_
  refine tk_cond (t:=decide (x9_20 < x8_19)) rfl (fun g33=>?_) (fun g33=>?_)
  ·replace hm:=cond_t hm g33
   refine tk_skip okM ?_
   refine n31 _ ?_
   refine tk_seq_j (fun ⟨σ,H,_⟩=>∃ x3_34 x8_35 x9_36,b_cc n (b_1 n x0 k1) x0 x3_34 x8_35 x9_36 = some r ∧ Lk σ 3 (.int .i64 x3_34) ∧ Lk σ 7 (slV x0 b0) ∧ Lk σ 8 (.int .i64 x8_35) ∧ Lk σ 9 (.int .i64 x9_36) ∧ Iv c.nb [] H0 H) ?_ ?_
   ·skip
    rintro ⟨σ43,H37,d44⟩ ⟨x3_34,x8_35,x9_36,hm,h38,h39,h40,h41,i42⟩
    rw [b_cc] at hm
    refine tk_oe okM hok fun J hJ=>?_
    simp only [C.f36r7,R,Nat.reduceEqDiff,h41]
    refine hJ _ ?_
    refine n21 _ ?_
    exact ⟨x3_34,x8_35,IntKind.i64.wrap (x9_36 + 1),hm,h38,h39,h40,rfl,i42⟩
   ·refine fun K n45 x46=>?_
    refine tk_block_k fun K n47 e48 x49=>?_
    refine tk_os okM hok fun J hJ=>?_
    obtain ⟨j50,ej50,hm⟩:=bind_s hm
    obtain ⟨mm51,k52⟩:=(h0.iv l0 (fun _=>by simp) i28).blk (ck_lt ej50).1
    have a53:=lds_agg (M:=Mt) (t:=72) k52 T.ag72 (by rw [S_b.enc.len]; exact T.sz72) (seg_sl S_b.enc.len mm51 (ck_lt ej50).1)
    obtain ⟨b54,H55,a56,f57,q58,r59,x60,i61⟩:=al_ok H23 72 (S_b.c S_b.zero) i28.le
    have i62:=i61 _ _ i28
    obtain ⟨H64,a65,f66,u67⟩:=st_ok (M:=Mt) (t:=72) (v:=(vAgg (S_b.c (Sl.nth x0 j50)))) (c:=S_b.c (Sl.nth x0 j50)) (cs':=S_b.c (Sl.nth x0 j50)) f57 (by rw [S_b.enc.len]; exact T.sz72) vAgg_cells (S_b.enc.one _) (Nat.le_trans hcn r59) (le0 S_b.enc.len) (wrs_all (eqL S_b.enc.len))
    have i68:=i62.up u67 r59
    simp only [C.f36r4,R,Nat.reduceEqDiff,ia35,ej50,h25,h27,a53,zs72,a56,a65]
    refine hJ _ ?_
    refine tk_os okM hok fun J hJ=>?_
    have a69:=ld_one (M:=Mt) (t:=3) f66 T.ag3 (Seg.refl.sub (S_b.seg0 (Sl.nth x0 j50)))
    simp only [C.f36r5,R,Nat.reduceEqDiff,fa72_0,a69]
    refine hJ _ ?_
    refine tk_cond (t:=decide (((Sl.nth x0 j50).f_Kind) = 11)) rfl (fun g70=>?_) (fun g70=>?_)
    ·replace hm:=cond_t hm g70
     refine tk_oe okM hok fun J hJ=>?_
     simp only [C.f36r6,R,Nat.reduceEqDiff,h24]
     refine hJ _ ?_
     refine n47 _ ?_
     refine n45 _ ?_
     exact ⟨IntKind.i64.wrap (x3_18 + 1),x8_19,x9_20,hm,rfl,h25,h26,h27,i68⟩
    ·replace hm:=cond_f hm g70
     refine tk_skip okM ?_
     refine n47 _ ?_
     refine n45 _ ?_
     exact ⟨x3_18,x8_19,x9_20,hm,h24,h25,h26,h27,i68⟩
  ·replace hm:=cond_f hm g33
   refine tk_exit okM ?_
   refine x32 _ _ (by simp) ?_
   refine x22 _ _ (by simp) ?_
   refine e16 _ ?_
   refine n12 _ ?_
   refine tk_os okM hok fun J hJ=>?_
   simp only [C.f36r8,R,Nat.reduceEqDiff,h24]
   refine hJ _ ?_
   refine tk_ret okM ?_
   obtain rfl:=Option.some.inj hm
   exact end_flat (.inl rfl) (vs:=[(.int .i64 (x3_18))]) (resT' (v:=(.int .i64 (x3_18))) rfl resN) (fm_cons rfl fm_nil)
def b_bQ (c_i:T_W) (n:Nat) (q1:Int → Sl S_b → Int → Sl S_b → Int → Int → Option ((Sl S_b))) (x0:(Sl S_b)) (x1:(Sl S_b)) (x2_164:Int) (l165:Sl S_b) (x7_167:Int) (l168:Sl S_b) (x9_170:Int) (x171:S_b) (x32_172:Int) (x33_173:Int):Option ((Sl S_b)):=(ck (Sl.l l168).length (IntKind.i64.wrap (x7_167 + x9_170))).bind fun j199=>q1 x2_164 l165 x7_167 (Sl.put l168 j199 x171) x32_172 (IntKind.i64.wrap (x33_173 + 1))
def b_cI (c_i:T_W) (n:Nat) (q1:Int → Sl S_b → Int → Sl S_b → Int → Int → Option ((Sl S_b))) (x0:(Sl S_b)) (x1:(Sl S_b)) (x2_130:Int) (l131:Sl S_b) (x7_133:Int) (l134:Sl S_b) (x9_136:Int) (x137:S_b) (x32_138:Int) (x33_139:Int):Option ((Sl S_b)):=(c_i x137.f_Kind).bind fun v213=>bif decide (1 < v213) then (b_bQ c_i n q1 x0 x1 x2_130 l131 x7_133 l134 x9_136 ({ x137 with f_B:=IntKind.i64.wrap (x137.f_B + x7_133) }) x32_138 x33_139) else (b_bQ c_i n q1 x0 x1 x2_130 l131 x7_133 l134 x9_136 x137 x32_138 x33_139)
def b_X (c_i:T_W) (n:Nat) (x0:(Sl S_b)) (x1:(Sl S_b)):Nat → Int → Sl S_b → Int → Sl S_b → Int → Int → Option ((Sl S_b))
 | 0,_,_,_,_,_,_=>none
 | k + 1,x2_68,l69,x7_71,l72,x32_74,x33_75=>bif decide (x33_75 < x32_74) then ((ck (Sl.l x1).length x33_75).bind fun j105=>(c_i ((Sl.nth x1 j105).f_Kind)).bind fun v228=>bif decide (0 < v228) then (b_cI c_i n (b_X c_i n x0 x1 k) x0 x1 x2_68 l69 x7_71 l72 x33_75 (S_b.w1 (Sl.nth x1 j105) (IntKind.i64.wrap (((Sl.nth x1 j105).f_A) + x7_71))) x32_74 x33_75) else (b_cI c_i n (b_X c_i n x0 x1 k) x0 x1 x2_68 l69 x7_71 l72 x33_75 (Sl.nth x1 j105) x32_74 x33_75)) else ((Sl.app 96 l72 (some ([({ S_b.zero with f_Kind:=x2_68,f_A:=IntKind.i64.wrap (x7_71 - 1),f_B:=IntKind.i64.wrap ((Sl.len l72) - 1) }:S_b)]:List S_b))).bind fun v252=>some v252)
def b_dX (c_i:T_W) (n:Nat) (x0:(Sl S_b)) (x1:(Sl S_b)) (x2:Int):Option ((Sl S_b)):=(Sl.make 96 (IntKind.i64.wrap ((Sl.len x0) + (Sl.len x1))) (IntKind.i64.wrap ((IntKind.i64.wrap ((Sl.len x0) + (Sl.len x1))) + 1)) (S_b.zero:S_b)).bind fun l39=>b_X c_i n x0 x1 n x2 none (Sl.len x0) (Sl.copy l39 x0) (Sl.len x1) 0
theorem w_ha {call:CallF} (hok:CallOk Mt call) {n:Nat} {c_i:T_W} (z_cw:A_dU call c_i) {H0:Hp} {x0:(Sl S_b)} {b0:Nat} {x1:(Sl S_b)} {b1:Nat} {x2:Int} {r:(Sl S_b)} {ro:Nat} (hro:ro ≤ H0.length) (h0:SlH H0 S_b.c 72 x0 b0) (h1:SlH H0 S_b.c 72 x1 b1) (hm:b_dX c_i n x0 x1 x2 = some r) :
  Pt Mt ro 37 [(vAgg [slV x0 b0]),(vAgg [slV x1 b1]),(.int .i64 x2)] H0 (vAgg [slV r H0.length]) (H0 ++ slB S_b.c 72 r) []:=by
 refine pt_new okM F37d (by exact Nat.le_of_ble_eq_true rfl) ?_ hro
 intro c hnt hnb hcr
 have hcn:c.ro ≤ c.nb:=by omega
 have l0:x0 ≠ none → b0 < c.nb:=fun h=>by rw [hnb]; exact h0.lt h
 have l1:x1 ≠ none → b1 < c.nb:=fun h=>by rw [hnb]; exact h1.lt h
 have iv:Iv c.nb [] H0 H0:=by rw [hnb]; exact iv_refl
 rw [show args0 [(vAgg [slV x0 b0]),(vAgg [slV x1 b1]),(.int .i64 x2)] = [(0,(vAgg [slV x0 b0])),(1,(vAgg [slV x1 b1])),(2,(.int .i64 x2))] from rfl]
 rw [b_dX] at hm
 simp only [C.f37,C.f37b0]
 refine tk_os okM hok fun J hJ=>?_
 obtain ⟨b3,H4,a5,f6,q7,r8,x9,i10⟩:=bx_ok (M:=Mt) (t:=37) (u:=(vAgg [(slV x0 b0)])) (cs:=[(slV x0 b0)]) H0 iv.le T.sz37 vAgg_cells one_sl
 have i11:=i10 _ _ iv
 obtain ⟨b13,H14,a15,f16,q17,r18,x19,i20⟩:=bx_ok (M:=Mt) (t:=37) (u:=(vAgg [(slV x1 b1)])) (cs:=[(slV x1 b1)]) H4 i11.le T.sz37 vAgg_cells one_sl
 have i21:=i20 _ _ i11
 have f22:=x19 _ _ f6
 obtain ⟨b24,H25,a26,f27,q28,r29,x30,i31⟩:=al_ok H14 37 [.slice none 0 0] i21.le
 have i32:=i31 _ _ i21
 have f33:=x30 _ _ f22
 have f34:=x30 _ _ f16
 simp only [C.f37r0,R,Nat.reduceEqDiff,a5,a15,(show zc Mt.P 37 = _ from T.zc37),a26]
 refine hJ _ ?_
 refine tk_os okM hok fun J hJ=>?_
 have a36:=ld_one (M:=Mt) (t:=35) (off:=0 + 0) f33 T.ag35 Seg.refl
 simp only [C.f37r1,R,Nat.reduceEqDiff,fa37_0,a36,ln35]
 refine hJ _ ?_
 refine tk_os okM hok fun J hJ=>?_
 have a37:=ld_one (M:=Mt) (t:=35) (off:=0 + 0) f34 T.ag35 Seg.refl
 have a38:=ld_one (M:=Mt) (t:=35) (off:=0 + 0) f34 T.ag35 Seg.refl
 obtain ⟨l39,el39,hm⟩:=bind_s hm
 obtain ⟨b40,H41,a42,f43,q44,r45,x46,i47⟩:=mk_ok (M:=Mt) (t:=35) (e:=72) (k:=.i64) (k':=.i64) H25 i32.le Tryz.underlying35 T.by72 zs72 el39
 have i48:=i47 _ _ i32
 have f49:=x46 _ _ f33
 have f50:=x46 _ _ f34
 have f51:=x46 _ _ f27
 simp only [C.f37r2,R,Nat.reduceEqDiff,fa37_0,a37,ln35,a38,o_makeSlice,a42]
 refine hJ _ ?_
 refine tk_os okM hok fun J hJ=>?_
 have a53:=ld_one (M:=Mt) (t:=35) (off:=0 + 0) f49 T.ag35 Seg.refl
 obtain ⟨H54,a55,f56,u57⟩:=cp_ok (M:=Mt) (t:=35) (u:=35) (nb:=c.nb) (x:=l39) (y:=x0) (b:=b40) (b2:=b0) Tryz.underlying35 T.sz72 S_b.enc f43 (h0.iv l0 (fun _=>by simp) i48) hcn
 have i58:=i48.up u57 r45
 have f59:=(u57.get _ (ne_len f33 q44)).trans f49
 have f60:=(u57.get _ (ne_len f34 q44)).trans f50
 have f61:=(u57.get _ (ne_len f27 q44)).trans f51
 simp only [C.f37r3,R,Nat.reduceEqDiff,fa37_0,a53,c_hc,a55]
 refine hJ _ ?_
 refine tk_seq_k fun K n62 x63=>?_
 refine tk_os okM hok fun J hJ=>?_
 have a64:=ld_one (M:=Mt) (t:=35) (off:=0 + 0) f60 T.ag35 Seg.refl
 simp only [C.f37r4,R,Nat.reduceEqDiff,fa37_0,a64,ln35]
 refine hJ _ ?_
 refine tk_block_k fun K n65 e66 x67=>?_
 refine tk_loop_k (n:=n) (fun k1 ⟨σ,H,_⟩=>∃ x2_68 l69 x7_71 l72 x32_74 x33_75 b70 b73,b_X c_i n x0 x1 k1 x2_68 l69 x7_71 l72 x32_74 x33_75 = some r ∧ Lk σ 2 (.int .i64 x2_68) ∧ Lk σ 6 (.pointer (some ⟨b24,0,none⟩)) ∧ Lk σ 7 (.int .i64 x7_71) ∧ Lk σ 8 (slV l72 b73) ∧ Lk σ 31 (slV x1 b1) ∧ Lk σ 32 (.int .i64 x32_74) ∧ Lk σ 33 (.int .i64 x33_75) ∧ SlO c.nb H S_b.c 72 l69 b70 ∧ H[b24]? = some (.cells [(slV l69 b70)] 37) ∧ SlO c.nb H S_b.c 72 l72 b73 ∧ (l69 ≠ none → b70 ≠ b24) ∧ (l72 ≠ none → b73 ≠ b24) ∧ (l69 ≠ none → l72 ≠ none → b70 ≠ b73) ∧ Iv c.nb [] H0 H) ?_ ?_ ?_
 ·exact ⟨x2,none,Sl.len x0,Sl.copy l39 x0,Sl.len x1,0,0,b40,hm,rfl,rfl,rfl,(lk_eq (by simp only [slV_put,slV_copy]) rfl),rfl,rfl,rfl,slO_nil,f61,f56,(fun h=>absurd rfl h),(fun h=>(fun _=>(ne_len f27 q44).symm) (by simpa only [Sl.put_none,Sl.copy_none] using h)),(fun h _=>absurd rfl h),i58⟩
 ·rintro ⟨σ,H,d⟩ ⟨_,_,_,_,_,_,_,_,hm,_⟩
  cases hm
 ·intro k1 K n76 x77
  rintro ⟨σ95,H78,d96⟩ ⟨x2_68,l69,x7_71,l72,x32_74,x33_75,b70,b73,hm,h81,h82,h83,h84,h85,h86,h87,f88,f89,f90,n91,n92,n93,i94⟩
  rw [b_X.eq_2] at hm
  refine tk_os okM hok fun J hJ=>?_
  simp only [C.f37r5,R,Nat.reduceEqDiff,h87,h86]
  refine hJ _ ?_
  refine tk_seq_k fun K n97 x98=>?_
  refine tk_cond (t:=decide (x33_75 < x32_74)) rfl (fun g99=>?_) (fun g99=>?_)
  ·replace hm:=cond_t hm g99
   refine tk_skip okM ?_
   refine n97 _ ?_
   refine tk_seq_k fun K n100 x101=>?_
   refine tk_block_k fun K n102 e103 x104=>?_
   refine tk_os okM hok fun J hJ=>?_
   obtain ⟨j105,ej105,hm⟩:=bind_s hm
   obtain ⟨mm106,k107⟩:=(h1.iv l1 (fun _=>by simp) i94).blk (ck_lt ej105).1
   have a108:=lds_agg (M:=Mt) (t:=72) k107 T.ag72 (by rw [S_b.enc.len]; exact T.sz72) (seg_sl S_b.enc.len mm106 (ck_lt ej105).1)
   obtain ⟨b109,H110,a111,f112,q113,r114,x115,i116⟩:=al_ok H78 72 (S_b.c S_b.zero) i94.le
   have i117:=i116 _ _ i94
   have f118:=f88.ex x115
   have f119:=x115 _ _ f89
   have f120:=f90.ex x115
   obtain ⟨H122,a123,f124,u125⟩:=st_ok (M:=Mt) (t:=72) (v:=(vAgg (S_b.c (Sl.nth x1 j105)))) (c:=S_b.c (Sl.nth x1 j105)) (cs':=S_b.c (Sl.nth x1 j105)) f112 (by rw [S_b.enc.len]; exact T.sz72) vAgg_cells (S_b.enc.one _) (Nat.le_trans hcn r114) (le0 S_b.enc.len) (wrs_all (eqL S_b.enc.len))
   have i126:=i117.up u125 r114
   have f127:=f118.up u125 (f88.h.ne q113)
   have f128:=(u125.get _ (ne_len f89 q113)).trans f119
   have f129:=f120.up u125 (f90.h.ne q113)
   simp only [C.f37r6,R,Nat.reduceEqDiff,h87,ia35,ej105,h85,a108,zs72,a111,a123]
   refine hJ _ ?_
   refine tk_seq_j (fun ⟨σ,H,_⟩=>∃ x2_130 l131 x7_133 l134 x9_136 x137 x32_138 x33_139 b132 b135,b_cI c_i n (b_X c_i n x0 x1 k1) x0 x1 x2_130 l131 x7_133 l134 x9_136 x137 x32_138 x33_139 = some r ∧ Lk σ 2 (.int .i64 x2_130) ∧ Lk σ 6 (.pointer (some ⟨b24,0,none⟩)) ∧ Lk σ 7 (.int .i64 x7_133) ∧ Lk σ 8 (slV l134 b135) ∧ Lk σ 9 (.int .i64 x9_136) ∧ Lk σ 10 (.pointer (some ⟨b109,0,none⟩)) ∧ Lk σ 31 (slV x1 b1) ∧ Lk σ 32 (.int .i64 x32_138) ∧ Lk σ 33 (.int .i64 x33_139) ∧ SlO c.nb H S_b.c 72 l131 b132 ∧ H[b24]? = some (.cells [(slV l131 b132)] 37) ∧ SlO c.nb H S_b.c 72 l134 b135 ∧ H[b109]? = some (.cells (S_b.c x137) 72) ∧ (l131 ≠ none → b132 ≠ b24) ∧ (l131 ≠ none → b132 ≠ b109) ∧ (l134 ≠ none → b135 ≠ b24) ∧ (l134 ≠ none → b135 ≠ b109) ∧ (l131 ≠ none → l134 ≠ none → b132 ≠ b135) ∧ Iv c.nb [] H0 H) ?_ ?_
   ·skip
    rintro ⟨σ162,H140,d163⟩ ⟨x2_130,l131,x7_133,l134,x9_136,x137,x32_138,x33_139,b132,b135,hm,h143,h144,h145,h146,h147,h148,h149,h150,h151,f152,f153,f154,f155,n156,n157,n158,n159,n160,i161⟩
    rw [b_cI] at hm
    refine tk_seq_j (fun ⟨σ,H,_⟩=>∃ x2_164 l165 x7_167 l168 x9_170 x171 x32_172 x33_173 b166 b169,b_bQ c_i n (b_X c_i n x0 x1 k1) x0 x1 x2_164 l165 x7_167 l168 x9_170 x171 x32_172 x33_173 = some r ∧ Lk σ 2 (.int .i64 x2_164) ∧ Lk σ 6 (.pointer (some ⟨b24,0,none⟩)) ∧ Lk σ 7 (.int .i64 x7_167) ∧ Lk σ 8 (slV l168 b169) ∧ Lk σ 9 (.int .i64 x9_170) ∧ Lk σ 10 (.pointer (some ⟨b109,0,none⟩)) ∧ Lk σ 31 (slV x1 b1) ∧ Lk σ 32 (.int .i64 x32_172) ∧ Lk σ 33 (.int .i64 x33_173) ∧ SlO c.nb H S_b.c 72 l165 b166 ∧ H[b24]? = some (.cells [(slV l165 b166)] 37) ∧ SlO c.nb H S_b.c 72 l168 b169 ∧ H[b109]? = some (.cells (S_b.c x171) 72) ∧ (l165 ≠ none → b166 ≠ b24) ∧ (l165 ≠ none → b166 ≠ b109) ∧ (l168 ≠ none → b169 ≠ b24) ∧ (l168 ≠ none → b169 ≠ b109) ∧ (l165 ≠ none → l168 ≠ none → b166 ≠ b169) ∧ Iv c.nb [] H0 H) ?_ ?_
    ·skip
     rintro ⟨σ196,H174,d197⟩ ⟨x2_164,l165,x7_167,l168,x9_170,x171,x32_172,x33_173,b166,b169,hm,h177,h178,h179,h180,h181,h182,h183,h184,h185,f186,f187,f188,f189,n190,n191,n192,n193,n194,i195⟩
     rw [b_bQ] at hm
     refine tk_oe okM hok fun J hJ=>?_
     have a198:=ld_agg (M:=Mt) (t:=72) f189 T.ag72 (by rw [S_b.enc.len]; exact T.sz72) Seg.refl
     obtain ⟨j199,ej199,hm⟩:=bind_s hm
     obtain ⟨H200,a201,f202,u203⟩:=st_sl0 (M:=Mt) (t:=72) (v:=(vAgg (S_b.c (x171)))) (y:=x171) S_b.enc.len f188 (ck_lt ej199).1 (by rw [S_b.enc.len]; exact T.sz72) vAgg_cells (S_b.enc.one _) hcn
     have i204:=i195.up u203 (f188.some (ck_lt ej199).1).1
     have z205:l168 ≠ none:=sl_some (j:=j199) (ck_lt ej199).1
     have f206:=f186.up u203 (fun h=>n194 h z205)
     have f207:=(u203.get _ (n192 z205).symm).trans f187
     have f208:=(u203.get _ (n193 z205).symm).trans f189
     simp only [C.f37r11,R,Nat.reduceEqDiff,h180,h179,h181,a198,h182,ia35,ej199,a201]
     refine hJ _ ?_
     refine n102 _ ?_
     refine n100 _ ?_
     refine tk_oe okM hok fun J hJ=>?_
     simp only [C.f37r12,R,Nat.reduceEqDiff,h185]
     refine hJ _ ?_
     refine n76 _ ?_
     exact ⟨x2_164,l165,x7_167,Sl.put l168 j199 x171,x32_172,IntKind.i64.wrap (x33_173 + 1),b166,b169,hm,h177,h178,h179,(lk_eq (by simp only [slV_put,slV_copy]) h180),h183,h184,rfl,f206,f207,f202,n190,(fun h=>n192 (by simpa only [Sl.put_none,Sl.copy_none] using h)),(fun h h'=>n194 (by simpa only [Sl.put_none,Sl.copy_none] using h) (by simpa only [Sl.put_none,Sl.copy_none] using h')),i204⟩
    ·refine fun K n209 x210=>?_
     refine tk_os okM hok fun J hJ=>?_
     have a211:=ld_one (M:=Mt) (t:=3) f155 T.ag3 (Seg.refl.sub (S_b.seg0 x137))
     obtain ⟨v213,ev213,hm⟩:=bind_s hm
     have a212:=z_cw c.ro H140 x137.f_Kind v213 ev213
     simp only [C.f37r9,R,Nat.reduceEqDiff,fa72_0,h148,a211,c_fn F66,a212]
     refine hJ _ ?_
     refine tk_cond (t:=decide (1 < v213)) rfl (fun g214=>?_) (fun g214=>?_)
     ·replace hm:=cond_t hm g214
      refine tk_oe okM hok fun J hJ=>?_
      have a215:=ld_one (M:=Mt) (t:=3) f155 T.ag3 (Seg.refl.sub (S_b.seg2 x137))
      obtain ⟨H216,a217,f218,u219⟩:=st_ok (M:=Mt) (t:=3) (v:=(.int .i64 (IntKind.i64.wrap (x137.f_B + x7_133)))) (c:=(cInt .i64) (IntKind.i64.wrap (x137.f_B + x7_133))) (cs':=S_b.c ({ x137 with f_B:=IntKind.i64.wrap (x137.f_B + x7_133) })) f155 (by rw [enc_int.len]; exact T.sz3) rfl (enc_int.one _) (Nat.le_trans hcn r114) (Nat.le_trans (Nat.le_of_eq (congrArg _ (eqL enc_int.len))) (Seg.refl.sub (S_b.seg2 x137)).2) (by rw [Nat.zero_add,S_b.wr2 x137 (IntKind.i64.wrap (x137.f_B + x7_133))])
      have i220:=i161.up u219 r114
      have f221:=f152.up u219 n157
      have f222:=(u219.get _ (ne_len f89 q113)).trans f153
      have f223:=f154.up u219 n159
      simp only [C.f37r10,R,Nat.reduceEqDiff,fa72_2,h148,a215,h145,a217]
      refine hJ _ ?_
      refine n209 _ ?_
      exact ⟨x2_130,l131,x7_133,l134,x9_136,{ x137 with f_B:=IntKind.i64.wrap (x137.f_B + x7_133) },x32_138,x33_139,b132,b135,hm,h143,h144,h145,h146,h147,h148,h149,h150,h151,f221,f222,f223,f218,n156,n157,n158,n159,n160,i220⟩
     ·replace hm:=cond_f hm g214
      refine tk_skip okM ?_
      refine n209 _ ?_
      exact ⟨x2_130,l131,x7_133,l134,x9_136,x137,x32_138,x33_139,b132,b135,hm,h143,h144,h145,h146,h147,h148,h149,h150,h151,f152,f153,f154,f155,n156,n157,n158,n159,n160,i161⟩
   ·refine fun K n224 x225=>?_
    refine tk_os okM hok fun J hJ=>?_
    have a226:=ld_one (M:=Mt) (t:=3) f124 T.ag3 (Seg.refl.sub (S_b.seg0 (Sl.nth x1 j105)))
    obtain ⟨v228,ev228,hm⟩:=bind_s hm
    have a227:=z_cw c.ro H122 ((Sl.nth x1 j105).f_Kind) v228 ev228
    simp only [C.f37r7,R,Nat.reduceEqDiff,fa72_0,a226,c_fn F66,a227]
    refine hJ _ ?_
    refine tk_cond (t:=decide (0 < v228)) rfl (fun g229=>?_) (fun g229=>?_)
    ·replace hm:=cond_t hm g229
     refine tk_oe okM hok fun J hJ=>?_
     have a230:=ld_one (M:=Mt) (t:=3) f124 T.ag3 (Seg.refl.sub (S_b.seg1 (Sl.nth x1 j105)))
     obtain ⟨H231,a232,f233,u234⟩:=st_ok (M:=Mt) (t:=3) (v:=(.int .i64 (IntKind.i64.wrap (((Sl.nth x1 j105).f_A) + x7_71)))) (c:=(cInt .i64) (IntKind.i64.wrap (((Sl.nth x1 j105).f_A) + x7_71))) (cs':=S_b.c (S_b.w1 (Sl.nth x1 j105) (IntKind.i64.wrap (((Sl.nth x1 j105).f_A) + x7_71)))) f124 (by rw [enc_int.len]; exact T.sz3) rfl (enc_int.one _) (Nat.le_trans hcn r114) (Nat.le_trans (Nat.le_of_eq (congrArg _ (eqL enc_int.len))) (Seg.refl.sub (S_b.seg1 (Sl.nth x1 j105))).2) (by rw [Nat.zero_add,S_b.wr1 (Sl.nth x1 j105) (IntKind.i64.wrap (((Sl.nth x1 j105).f_A) + x7_71))])
     have i235:=i126.up u234 r114
     have f236:=f127.up u234 (f88.h.ne q113)
     have f237:=(u234.get _ (ne_len f89 q113)).trans f128
     have f238:=f129.up u234 (f90.h.ne q113)
     simp only [C.f37r8,R,Nat.reduceEqDiff,fa72_1,a230,h83,a232]
     refine hJ _ ?_
     refine n224 _ ?_
     exact ⟨x2_68,l69,x7_71,l72,x33_75,S_b.w1 (Sl.nth x1 j105) (IntKind.i64.wrap (((Sl.nth x1 j105).f_A) + x7_71)),x32_74,x33_75,b70,b73,hm,h81,h82,h83,h84,rfl,rfl,h85,h86,h87,f236,f237,f238,f233,n91,(f88.h.ne q113),n92,(f90.h.ne q113),n93,i235⟩
    ·replace hm:=cond_f hm g229
     refine tk_skip okM ?_
     refine n224 _ ?_
     exact ⟨x2_68,l69,x7_71,l72,x33_75,Sl.nth x1 j105,x32_74,x33_75,b70,b73,hm,h81,h82,h83,h84,rfl,rfl,h85,h86,h87,f127,f128,f129,f124,n91,(f88.h.ne q113),n92,(f90.h.ne q113),n93,i126⟩
  ·replace hm:=cond_f hm g99
   refine tk_exit okM ?_
   refine x98 _ _ (by simp) ?_
   refine x77 _ _ (by simp) ?_
   refine e66 _ ?_
   refine n62 _ ?_
   refine tk_os okM hok fun J hJ=>?_
   obtain ⟨b239,H240,a241,f242,q243,r244,x245,i246⟩:=bs_ok (M:=Mt) (t:=35) (e:=72) (c:=S_b.c) (l:=([({ S_b.zero with f_Kind:=x2_68,f_A:=IntKind.i64.wrap (x7_71 - 1),f_B:=IntKind.i64.wrap ((Sl.len l72) - 1) }:S_b)]:List S_b)) (ps:=[(0,(vAgg (S_b.c (({ S_b.zero with f_Kind:=x2_68,f_A:=IntKind.i64.wrap (x7_71 - 1),f_B:=IntKind.i64.wrap ((Sl.len l72) - 1) }:S_b)))))]) (n:=1) H78 i94.le Tryz.underlying35 (zs72) rfl (by simp only [S_b.enc.len,List.length_cons,List.length_nil]; decide) (fun _=>by rw [S_b.enc.len,S_b.enc.len]) S_b.enc.one rfl rfl
   have i247:=i246 _ _ i94
   have f248:=f88.ex x245
   have f249:=x245 _ _ f89
   have f250:=f90.ex x245
   obtain ⟨v252,ev252,hm⟩:=bind_s hm
   obtain ⟨b253,H254,a255,f256,mv257,i258,nw259⟩:=app_ok (M:=Mt) (t:=35) (u:=35) (nb:=c.nb) (x:=l72) (y:=some ([({ S_b.zero with f_Kind:=x2_68,f_A:=IntKind.i64.wrap (x7_71 - 1),f_B:=IntKind.i64.wrap ((Sl.len l72) - 1) }:S_b)]:List S_b)) (b:=b73) (b2:=b239) Tryz.underlying35 Tryz.underlying35 T.sz72 T.by72 zs72 (by decide) (by decide) S_b.enc.len S_b.enc.one i247.le hcn f250 f242.h ev252
   have i260:=i258 _ _ i247
   have n261:=fun (h:l69 ≠ none)=>nw259 b70 (f248.h.lt h) (fun h'=>(n93 h h').symm)
   have n262:=nw259 b24 (get_lt f249) n92
   have f263:=f248.mv mv257 n93
   have f264:=mv257.2 _ _ (fun h=>(n92 h).symm) f249
   obtain ⟨H266,a267,f268,u269⟩:=st_ok (M:=Mt) (t:=37) (off:=0) (ro:=c.ro) (v:=(vAgg [(slV v252 b253)])) (c:=[(slV v252 b253)]) (cs':=[(slV v252 b253)]) f264 T.sz37 vAgg_cells one_sl (Nat.le_trans hcn r29) (Nat.le_refl _) rfl
   have i270:=i260.up u269 r29
   have f271:=f263.up u269 n91
   have f272:=f256.up u269 n262
   simp only [C.f37r13,R,Nat.reduceEqDiff,h84,h81,h83,ln35,bd72_0_1_2,a241,a255,bd_wr (M:=Mt) (x:=v252) (b:=b253) (show zc Mt.P 37 = _ from T.zc37) pl37,a267,h82]
   refine hJ _ ?_
   refine tk_ret okM ?_
   obtain rfl:=Option.some.inj hm
   exact end_wr1 (P:=Mt.P) (rs:=[(.cell 6 37)]) (pre:=[]) (post:=[]) (x:=v252) (b:=b253) (nb:=H0.length) (.inl rfl) (by rw [← hnb]; exact f272) S_b.enc fm_nil fm_nil (resC' (v:=(vAgg [(slV v252 b253)])) h82 (ldv_of (ld_agg (M:=Mt) (t:=37) (c:=[(slV v252 b253)]) f268 T.ag37 T.sz37 Seg.refl)) resN)
def b_ci (n:Nat):Nat → S_d → S_d → S_d → Int → Option (S_d)
 | 0,_,_,_,_=>none
 | k + 1,x39,x40,x41,x6_42=>bif decide (x6_42 < 4) then ((ck 4 x6_42).bind fun j64=>b_ci n k ({ x39 with f_W:=x39.f_W.put j64 (orI .u64 (x39.f_W.nth j64) (x40.f_W.nth j64)) }) x40 x41 (IntKind.i64.wrap (x6_42 + 1))) else (some x39)
def b_du (n:Nat) (x0:S_d) (x1:S_d):Option (S_d):=b_ci n n x0 x1 S_d.zero 0
theorem w_ga {call:CallF} (hok:CallOk Mt call) {n:Nat} {H0:Hp} {x0:S_d} {x1:S_d} {r:S_d} {ro:Nat} (hro:ro ≤ H0.length) (hm:b_du n x0 x1 = some r) :
  Pt Mt ro 38 [(vAgg (S_d.c x0)),(vAgg (S_d.c x1))] H0 (vAgg (S_d.c (r))) H0 []:=by
 refine pt_new0 okM F38d (by exact Nat.le_of_ble_eq_true rfl) ?_ hro
 intro c hnt hnb hcr
 have hcn:c.ro ≤ c.nb:=by omega
 have iv:Iv c.nb [] H0 H0:=by rw [hnb]; exact iv_refl
 rw [show args0 [(vAgg (S_d.c x0)),(vAgg (S_d.c x1))] = [(0,(vAgg (S_d.c x0))),(1,(vAgg (S_d.c x1)))] from rfl]
 rw [b_du] at hm
 simp only [C.f38,C.f38b0]
 refine tk_os okM hok fun J hJ=>?_
 obtain ⟨b1,H2,a3,f4,q5,r6,x7,i8⟩:=bx_ok (M:=Mt) (t:=25) (u:=(vAgg (S_d.c (x0)))) (cs:=S_d.c x0) H0 iv.le (by rw [S_d.enc.len]; exact T.sz25) vAgg_cells (S_d.enc.one _)
 have i9:=i8 _ _ iv
 obtain ⟨b11,H12,a13,f14,q15,r16,x17,i18⟩:=bx_ok (M:=Mt) (t:=25) (u:=(vAgg (S_d.c (x1)))) (cs:=S_d.c x1) H2 i9.le (by rw [S_d.enc.len]; exact T.sz25) vAgg_cells (S_d.enc.one _)
 have i19:=i18 _ _ i9
 have f20:=x17 _ _ f4
 obtain ⟨b22,H23,a24,f25,q26,r27,x28,i29⟩:=al_ok H12 25 (S_d.c S_d.zero) i19.le
 have i30:=i29 _ _ i19
 have f31:=x28 _ _ f20
 have f32:=x28 _ _ f14
 simp only [C.f38r0,R,Nat.reduceEqDiff,a3,a13,zs25,a24]
 refine hJ _ ?_
 refine tk_seq_k fun K n34 x35=>?_
 refine tk_os okM hok fun J hJ=>?_
 simp only [C.f38r1,R,Nat.reduceEqDiff]
 refine hJ _ ?_
 refine tk_block_k fun K n36 e37 x38=>?_
 refine tk_loop_k (n:=n) (fun k1 ⟨σ,H,_⟩=>∃ x39 x40 x41 x6_42,b_ci n k1 x39 x40 x41 x6_42 = some r ∧ Lk σ 2 (.pointer (some ⟨b1,0,none⟩)) ∧ Lk σ 3 (.pointer (some ⟨b11,0,none⟩)) ∧ Lk σ 4 (.pointer (some ⟨b22,0,none⟩)) ∧ Lk σ 6 (.int .i64 x6_42) ∧ H[b1]? = some (.cells (S_d.c x39) 25) ∧ H[b11]? = some (.cells (S_d.c x40) 25) ∧ H[b22]? = some (.cells (S_d.c x41) 25) ∧ Iv c.nb [] H0 H) ?_ ?_ ?_
 ·exact ⟨x0,x1,S_d.zero,0,hm,rfl,rfl,rfl,rfl,f31,f32,f25,i30⟩
 ·rintro ⟨σ,H,d⟩ ⟨_,_,_,_,hm,_⟩
  cases hm
 ·intro k1 K n43 x44
  rintro ⟨σ54,H45,d55⟩ ⟨x39,x40,x41,x6_42,hm,h46,h47,h48,h49,f50,f51,f52,i53⟩
  rw [b_ci.eq_2] at hm
  refine tk_os okM hok fun J hJ=>?_
  simp only [C.f38r2,R,Nat.reduceEqDiff,h49]
  refine hJ _ ?_
  refine tk_seq_k fun K n56 x57=>?_
  refine tk_cond (t:=decide (x6_42 < 4)) rfl (fun g58=>?_) (fun g58=>?_)
  ·replace hm:=cond_t hm g58
   refine tk_skip okM ?_
   refine n56 _ ?_
   refine tk_seq_k fun K n59 x60=>?_
   refine tk_block_k fun K n61 e62 x63=>?_
   refine tk_os okM hok fun J hJ=>?_
   simp only [C.f38r3,R,Nat.reduceEqDiff,h49]
   refine hJ _ ?_
   refine tk_oe okM hok fun J hJ=>?_
   obtain ⟨j64,ej64,hm⟩:=bind_s hm
   have a65:=ld_one (M:=Mt) (t:=22) f50 T.ag22 ((Seg.refl.sub (S_d.seg0 x39)).sub (sgA enc_int.len (a:=x39.f_W) (ck_lt ej64).1))
   have a66:=ld_one (M:=Mt) (t:=22) f51 T.ag22 ((Seg.refl.sub (S_d.seg0 x40)).sub (sgA enc_int.len (a:=x40.f_W) (ck_lt ej64).1))
   obtain ⟨H67,a68,f69,u70⟩:=st_ok (M:=Mt) (t:=22) (v:=(.int .u64 (orI .u64 (x39.f_W.nth j64) (x40.f_W.nth j64)))) (c:=(cInt .u64) (orI .u64 (x39.f_W.nth j64) (x40.f_W.nth j64))) (cs':=S_d.c ({ x39 with f_W:=x39.f_W.put j64 (orI .u64 (x39.f_W.nth j64) (x40.f_W.nth j64)) })) f50 (by rw [enc_int.len]; exact T.sz22) rfl (enc_int.one _) (Nat.le_trans hcn r6) (Nat.le_trans (Nat.le_of_eq (congrArg _ (eqL enc_int.len))) ((Seg.refl.sub (S_d.seg0 x39)).sub (sgA enc_int.len (a:=x39.f_W) (ck_lt ej64).1)).2) (by rw [wrs_in (Seg.refl.sub (S_d.seg0 x39)) (by have:=(ck_lt ej64).1; simp only [enc_int.len,(enc_arr (n:=4) enc_int).len]; omega),wrA enc_int.len (a:=x39.f_W) (v:=orI .u64 (x39.f_W.nth j64) (x40.f_W.nth j64)) (ck_lt ej64).1,Nat.zero_add,S_d.wr0 x39 (x39.f_W.put j64 (orI .u64 (x39.f_W.nth j64) (x40.f_W.nth j64)))])
   have i71:=i53.up u70 r6
   have f72:=(u70.get _ (ne_len f4 q15).symm).trans f51
   have f73:=(u70.get _ (ne_len f20 q26).symm).trans f52
   simp only [C.f38r4,R,Nat.reduceEqDiff,s_pt,s_gt,isW,Bool.false_eq_true,if_false,if_true,reduceIte,fa25_0,h46,ia23,ej64,a65,h47,a66,a68]
   refine hJ _ ?_
   refine n61 _ ?_
   refine n59 _ ?_
   refine tk_oe okM hok fun J hJ=>?_
   simp only [C.f38r5,R,Nat.reduceEqDiff,h49]
   refine hJ _ ?_
   refine n43 _ ?_
   exact ⟨{ x39 with f_W:=x39.f_W.put j64 (orI .u64 (x39.f_W.nth j64) (x40.f_W.nth j64)) },x40,x41,IntKind.i64.wrap (x6_42 + 1),hm,h46,h47,h48,rfl,f69,f72,f73,i71⟩
  ·replace hm:=cond_f hm g58
   refine tk_exit okM ?_
   refine x57 _ _ (by simp) ?_
   refine x44 _ _ (by simp) ?_
   refine e37 _ ?_
   refine n34 _ ?_
   refine tk_os okM hok fun J hJ=>?_
   have a74:=ld_agg (M:=Mt) (t:=25) f50 T.ag25 (by rw [S_d.enc.len]; exact T.sz25) Seg.refl
   obtain ⟨H75,a76,f77,u78⟩:=st_ok (M:=Mt) (t:=25) (v:=(vAgg (S_d.c (x39)))) (c:=S_d.c x39) (cs':=S_d.c x39) f52 (by rw [S_d.enc.len]; exact T.sz25) vAgg_cells (S_d.enc.one _) (Nat.le_trans hcn r27) (le0 S_d.enc.len) (wrs_all (eqL S_d.enc.len))
   have i79:=i53.up u78 r27
   have f80:=(u78.get _ (ne_len f20 q26)).trans f50
   have f81:=(u78.get _ (ne_len f14 q26)).trans f51
   simp only [C.f38r6,R,Nat.reduceEqDiff,a74,h46,a76,h48]
   refine hJ _ ?_
   refine tk_ret okM ?_
   obtain rfl:=Option.some.inj hm
   exact end_flat (.inl rfl) (vs:=[(vAgg (S_d.c (x39)))]) (resC' (v:=(vAgg (S_d.c (x39)))) h48 (ldv_of (ld_agg (M:=Mt) (t:=25) f77 T.ag25 (by rw [S_d.enc.len]; exact T.sz25) Seg.refl)) resN) (fm_cons (flat_agg S_d.enc _) fm_nil)
def b_bY (c_I:T_ce) (c_V:T_cQ) (c_G:T_bX) (n:Nat) (q1:Sl Int → Sl Int → Int → Int → Option (Int)) (x0:(Sl S_b)) (l76:Sl Int) (l78:Sl Int) (x23_80:Int) (x24_81:Int):Option (Int):=q1 l76 l78 x23_80 (IntKind.i64.wrap (x24_81 + 1))
def b_9 (c_I:T_ce) (c_V:T_cQ) (c_G:T_bX) (n:Nat) (x0:(Sl S_b)):Nat → Sl Int → Sl Int → Int → Int → Option (Int)
 | 0,_,_,_,_=>none
 | k + 1,l51,l53,x23_55,x24_56=>bif decide (x24_56 < x23_55) then ((ck (Sl.l x0).length x24_56).bind fun j101=>bif (!decide (((Sl.nth x0 j101).f_Kind) = 15)) && (!decide (((Sl.nth x0 j101).f_Kind) = 16)) then (b_bY c_I c_V c_G n (b_9 c_I c_V c_G n x0 k) x0 l51 l53 x23_55 x24_56) else ((ck (Sl.l l51).length ((Sl.nth x0 j101).f_A)).bind fun j146=>(ck (Sl.l l53).length ((Sl.nth x0 j101).f_A)).bind fun j151=>bif (!decide ((Sl.nth l51 j146) = (Sl.nth l53 j151))) || (decide (255 < (Sl.nth l51 j146))) then (some 7) else (b_bY c_I c_V c_G n (b_9 c_I c_V c_G n x0 k) x0 l51 l53 x23_55 x24_56))) else (some 0)
def b_dH (c_I:T_ce) (c_V:T_cQ) (c_G:T_bX) (n:Nat) (x0:(Sl S_b)):Option (Int):=(c_I x0).bind fun v16=>bif !decide (v16 = 0) then (some v16) else ((c_G x0).bind fun v22=>bif !v22 then (some 6) else ((c_V x0).bind fun v26=>b_9 c_I c_V c_G n x0 n v26.1 v26.2 (Sl.len x0) 0))
theorem w_gV {call:CallF} (hok:CallOk Mt call) {n:Nat} {c_I:T_ce} (z_gt:A_fa call c_I) {c_V:T_cQ} (z_g0:A_f8 call c_V) {c_G:T_bX} (z_gb:A_eX call c_G) {H0:Hp} {x0:(Sl S_b)} {b0:Nat} {r:Int} {ro:Nat} (hro:ro ≤ H0.length) (h0:SlH H0 S_b.c 72 x0 b0) (hm:b_dH c_I c_V c_G n x0 = some r) :
  Pt Mt ro 40 [(vAgg [slV x0 b0])] H0 (.int .i64 (r)) H0 []:=by
 refine pt_new0 okM F40d (by exact Nat.le_of_ble_eq_true rfl) ?_ hro
 intro c hnt hnb hcr
 have hcn:c.ro ≤ c.nb:=by omega
 have l0:x0 ≠ none → b0 < c.nb:=fun h=>by rw [hnb]; exact h0.lt h
 have iv:Iv c.nb [] H0 H0:=by rw [hnb]; exact iv_refl
 rw [show args0 [(vAgg [slV x0 b0])] = [(0,(vAgg [slV x0 b0]))] from rfl]
 rw [b_dH] at hm
 simp only [C.f40,C.f40b0]
 refine tk_os okM hok fun J hJ=>?_
 obtain ⟨b2,H3,a4,f5,q6,r7,x8,i9⟩:=bx_ok (M:=Mt) (t:=37) (u:=(vAgg [(slV x0 b0)])) (cs:=[(slV x0 b0)]) H0 iv.le T.sz37 vAgg_cells one_sl
 have i10:=i9 _ _ iv
 simp only [C.f40r0,R,Nat.reduceEqDiff,a4]
 refine hJ _ ?_
 refine tk_seq_k fun K n12 x13=>?_
 refine tk_os okM hok fun J hJ=>?_
 have a14:=ld_agg (M:=Mt) (t:=37) (off:=0) (c:=[(slV x0 b0)]) f5 T.ag37 T.sz37 Seg.refl
 obtain ⟨v16,ev16,hm⟩:=bind_s hm
 have a15:=z_gt c.ro H3 x0 b0 v16 (h0.iv l0 (fun _=>by simp) i10) ev16
 simp only [C.f40r1,R,Nat.reduceEqDiff,a14,c_fn F64,a15]
 refine hJ _ ?_
 refine tk_os okM hok fun J hJ=>?_
 simp only [C.f40r2,R,Nat.reduceEqDiff]
 refine hJ _ ?_
 refine tk_cond (t:=!decide (v16 = 0)) rfl (fun g17=>?_) (fun g17=>?_)
 ·replace hm:=cond_t hm g17
  refine tk_os okM hok fun J hJ=>?_
  simp only [C.f40r3,R,Nat.reduceEqDiff]
  refine hJ _ ?_
  refine tk_ret okM ?_
  refine x13 _ _ (by simp) ?_
  obtain rfl:=Option.some.inj hm
  exact end_flat (.inl rfl) (vs:=[(.int .i64 (v16))]) (resT' (v:=(.int .i64 (v16))) rfl resN) (fm_cons rfl fm_nil)
 ·replace hm:=cond_f hm g17
  refine tk_skip okM ?_
  refine n12 _ ?_
  refine tk_seq_k fun K n18 x19=>?_
  refine tk_os okM hok fun J hJ=>?_
  have a20:=ld_agg (M:=Mt) (t:=37) (off:=0) (c:=[(slV x0 b0)]) f5 T.ag37 T.sz37 Seg.refl
  obtain ⟨v22,ev22,hm⟩:=bind_s hm
  have a21:=z_gb c.ro H3 x0 b0 v22 (h0.iv l0 (fun _=>by simp) i10) ev22
  simp only [C.f40r4,R,Nat.reduceEqDiff,a20,c_fn F68,a21]
  refine hJ _ ?_
  refine tk_cond (t:=!v22) rfl (fun g23=>?_) (fun g23=>?_)
  ·replace hm:=cond_t hm g23
   refine tk_os okM hok fun J hJ=>?_
   simp only [C.f40r5,R,Nat.reduceEqDiff]
   refine hJ _ ?_
   refine tk_ret okM ?_
   refine x19 _ _ (by simp) ?_
   obtain rfl:=Option.some.inj hm
   exact end_flat (.inl rfl) (vs:=[(.int .i64 (6))]) (resT' (v:=(.int .i64 (6))) rfl resN) (fm_cons rfl fm_nil)
  ·replace hm:=cond_f hm g23
   refine tk_skip okM ?_
   refine n18 _ ?_
   refine tk_os okM hok fun J hJ=>?_
   have a24:=ld_agg (M:=Mt) (t:=37) (off:=0) (c:=[(slV x0 b0)]) f5 T.ag37 T.sz37 Seg.refl
   obtain ⟨v26,ev26,hm⟩:=bind_s hm
   have a25:=z_g0 c.ro H3 x0 b0 v26 (h0.iv l0 (fun _=>by simp) i10) ev26
   have f39:=slB_own2 (c:=(cInt .i64)) (d:=(cInt .i64)) (e:=3) (e2:=3) (x:=v26.1) (y:=v26.2) (r:=c.nb) (H:=H3) i10.le
   have n40:=slB_ne (c:=(cInt .i64)) (e:=3) (x:=v26.1) (y:=v26.2) (H:=H3)
   obtain ⟨H27,q28⟩:∃ x,x = H3 ++ (slB (cInt .i64) 3 v26.1 ++ slB (cInt .i64) 3 v26.2):=⟨_,rfl⟩
   have x38:Ex H3 H27:=by rw [q28]; exact ex_app
   have i35:Iv c.nb [] H0 H27:=by rw [q28]; exact i10.app
   obtain ⟨b31,q32⟩:∃ b,b = H3.length + (slB (cInt .i64) 3 v26.1).length:=⟨_,rfl⟩
   obtain ⟨b29,q30⟩:∃ b,b = H3.length:=⟨_,rfl⟩
   rw [← q28,← q32] at a25
   rw [← q30] at a25
   rw [← q28,← q32] at f39
   rw [← q30] at f39
   rw [← q32,← q30] at n40
   have r36:c.nb ≤ b29:=by rw [q30]; exact i10.le
   have r37:c.nb ≤ b31:=by rw [q32]; have:=i10.le; omega
   have f41:=x38 _ _ f5
   have n44:b2 ≠ b31:=by have:=get_lt f5; omega
   simp only [C.f40r6,R,Nat.reduceEqDiff,a24,c_fn F65,a25]
   refine hJ _ ?_
   refine tk_seq_k fun K n45 x46=>?_
   refine tk_os okM hok fun J hJ=>?_
   have a47:=ld_one (M:=Mt) (t:=35) (off:=0 + 0) f41 T.ag35 Seg.refl
   simp only [C.f40r7,R,Nat.reduceEqDiff,fa37_0,a47,ln35]
   refine hJ _ ?_
   refine tk_block_k fun K n48 e49 x50=>?_
   refine tk_loop_k (n:=n) (fun k1 ⟨σ,H,_⟩=>∃ l51 l53 x23_55 x24_56 b52 b54,b_9 c_I c_V c_G n x0 k1 l51 l53 x23_55 x24_56 = some r ∧ Lk σ 4 (slV l51 b52) ∧ Lk σ 5 (slV l53 b54) ∧ Lk σ 22 (slV x0 b0) ∧ Lk σ 23 (.int .i64 x23_55) ∧ Lk σ 24 (.int .i64 x24_56) ∧ SlO c.nb H (cInt .i64) 3 l51 b52 ∧ SlO c.nb H (cInt .i64) 3 l53 b54 ∧ (l51 ≠ none → l53 ≠ none → b52 ≠ b54) ∧ Iv c.nb [] H0 H) ?_ ?_ ?_
   ·exact ⟨v26.1,v26.2,Sl.len x0,0,b29,b31,hm,rfl,rfl,rfl,rfl,rfl,f39.1,f39.2,n40,i35⟩
   ·rintro ⟨σ,H,d⟩ ⟨_,_,_,_,_,_,hm,_⟩
    cases hm
   ·intro k1 K n57 x58
    rintro ⟨σ71,H59,d72⟩ ⟨l51,l53,x23_55,x24_56,b52,b54,hm,h62,h63,h64,h65,h66,f67,f68,n69,i70⟩
    rw [b_9.eq_2] at hm
    refine tk_os okM hok fun J hJ=>?_
    simp only [C.f40r8,R,Nat.reduceEqDiff,h66,h65]
    refine hJ _ ?_
    refine tk_seq_k fun K n73 x74=>?_
    refine tk_cond (t:=decide (x24_56 < x23_55)) rfl (fun g75=>?_) (fun g75=>?_)
    ·replace hm:=cond_t hm g75
     refine tk_skip okM ?_
     refine n73 _ ?_
     refine tk_seq_j (fun ⟨σ,H,_⟩=>∃ l76 l78 x23_80 x24_81 b77 b79,b_bY c_I c_V c_G n (b_9 c_I c_V c_G n x0 k1) x0 l76 l78 x23_80 x24_81 = some r ∧ Lk σ 4 (slV l76 b77) ∧ Lk σ 5 (slV l78 b79) ∧ Lk σ 22 (slV x0 b0) ∧ Lk σ 23 (.int .i64 x23_80) ∧ Lk σ 24 (.int .i64 x24_81) ∧ SlO c.nb H (cInt .i64) 3 l76 b77 ∧ SlO c.nb H (cInt .i64) 3 l78 b79 ∧ (l76 ≠ none → l78 ≠ none → b77 ≠ b79) ∧ Iv c.nb [] H0 H) ?_ ?_
     ·skip
      rintro ⟨σ94,H82,d95⟩ ⟨l76,l78,x23_80,x24_81,b77,b79,hm,h85,h86,h87,h88,h89,f90,f91,n92,i93⟩
      rw [b_bY] at hm
      refine tk_oe okM hok fun J hJ=>?_
      simp only [C.f40r13,R,Nat.reduceEqDiff,h89]
      refine hJ _ ?_
      refine n57 _ ?_
      exact ⟨l76,l78,x23_80,IntKind.i64.wrap (x24_81 + 1),b77,b79,hm,h85,h86,h87,h88,rfl,f90,f91,n92,i93⟩
     ·refine fun K n96 x97=>?_
      refine tk_block_k fun K n98 e99 x100=>?_
      refine tk_os okM hok fun J hJ=>?_
      obtain ⟨j101,ej101,hm⟩:=bind_s hm
      obtain ⟨mm102,k103⟩:=(h0.iv l0 (fun _=>by simp) i70).blk (ck_lt ej101).1
      have a104:=lds_agg (M:=Mt) (t:=72) k103 T.ag72 (by rw [S_b.enc.len]; exact T.sz72) (seg_sl S_b.enc.len mm102 (ck_lt ej101).1)
      obtain ⟨b105,H106,a107,f108,q109,r110,x111,i112⟩:=al_ok H59 72 (S_b.c S_b.zero) i70.le
      have i113:=i112 _ _ i70
      have f114:=f67.ex x111
      have f115:=f68.ex x111
      obtain ⟨H117,a118,f119,u120⟩:=st_ok (M:=Mt) (t:=72) (v:=(vAgg (S_b.c (Sl.nth x0 j101)))) (c:=S_b.c (Sl.nth x0 j101)) (cs':=S_b.c (Sl.nth x0 j101)) f108 (by rw [S_b.enc.len]; exact T.sz72) vAgg_cells (S_b.enc.one _) (Nat.le_trans hcn r110) (le0 S_b.enc.len) (wrs_all (eqL S_b.enc.len))
      have i121:=i113.up u120 r110
      have f122:=f114.up u120 (f67.h.ne q109)
      have f123:=f115.up u120 (f68.h.ne q109)
      simp only [C.f40r9,R,Nat.reduceEqDiff,ia35,ej101,h64,h66,a104,zs72,a107,a118]
      refine hJ _ ?_
      refine tk_seq_k fun K n124 x125=>?_
      refine tk_os okM hok fun J hJ=>?_
      have a126:=ld_one (M:=Mt) (t:=3) f119 T.ag3 (Seg.refl.sub (S_b.seg0 (Sl.nth x0 j101)))
      refine rn_k (fun ⟨σ,H,_⟩=>Lk σ 4 (slV l51 b52) ∧ Lk σ 5 (slV l53 b54) ∧ Lk σ 7 (.pointer (some ⟨b105,0,none⟩)) ∧ Lk σ 22 (slV x0 b0) ∧ Lk σ 23 (.int .i64 (x23_55)) ∧ Lk σ 24 (.int .i64 (x24_56)) ∧ Lk σ 35 (.bool ((!decide (((Sl.nth x0 j101).f_Kind) = 15)) && (!decide (((Sl.nth x0 j101).f_Kind) = 16)))) ∧ SlO c.nb H (cInt .i64) 3 l51 b52 ∧ SlO c.nb H (cInt .i64) 3 l53 b54 ∧ H[b105]? = some (.cells (S_b.c (Sl.nth x0 j101)) 72) ∧ Iv c.nb [] H0 H) (fun J hJ=>?_) ?_
      ·skip
       cases g140:!decide (((Sl.nth x0 j101).f_Kind) = 15)
       ·skip
        simp only [C.f40r10,R,Nat.reduceEqDiff,fa72_0,a126,g140]
        refine hJ _ ?_
        exact ⟨h62,h63,rfl,h64,h65,h66,(by first | rfl | (simp only [g140]; rfl) | simp only [g140,Lk,RB,Nat.reduceEqDiff,not_false_eq_true]),f122,f123,f119,i121⟩
       ·skip
        have a141:=ld_one (M:=Mt) (t:=3) f119 T.ag3 (Seg.refl.sub (S_b.seg0 (Sl.nth x0 j101)))
        simp only [C.f40r10,R,Nat.reduceEqDiff,fa72_0,a126,g140,a141]
        refine hJ _ ?_
        exact ⟨h62,h63,rfl,h64,h65,h66,(by first | rfl | (simp only [g140]; rfl) | simp only [g140,Lk,RB,Nat.reduceEqDiff,not_false_eq_true]),f122,f123,f119,i121⟩
      rintro ⟨σ142,H128,d143⟩ ⟨h129,h130,h131,h132,h133,h134,h135,f136,f137,f138,i139⟩
      refine hJ _ ?_
      refine tk_cond (t:=(!decide (((Sl.nth x0 j101).f_Kind) = 15)) && (!decide (((Sl.nth x0 j101).f_Kind) = 16))) h135 (fun g144=>?_) (fun g144=>?_)
      ·replace hm:=cond_t hm g144
       refine tk_exit okM ?_
       refine x125 _ _ (by simp) ?_
       refine e99 _ ?_
       refine n96 _ ?_
       exact ⟨l51,l53,x23_55,x24_56,b52,b54,hm,h129,h130,h132,h133,h134,f136,f137,n69,i139⟩
      ·replace hm:=cond_f hm g144
       refine tk_skip okM ?_
       refine n124 _ ?_
       refine tk_os okM hok fun J hJ=>?_
       have a145:=ld_one (M:=Mt) (t:=3) f138 T.ag3 (Seg.refl.sub (S_b.seg1 (Sl.nth x0 j101)))
       obtain ⟨j146,ej146,hm⟩:=bind_s hm
       obtain ⟨mm147,k148⟩:=f136.h.blk (ck_lt ej146).1
       have a149:=lds_one (M:=Mt) (t:=3) k148 T.ag3 (seg_sl enc_int.len mm147 (ck_lt ej146).1)
       have a150:=ld_one (M:=Mt) (t:=3) f138 T.ag3 (Seg.refl.sub (S_b.seg1 (Sl.nth x0 j101)))
       obtain ⟨j151,ej151,hm⟩:=bind_s hm
       obtain ⟨mm152,k153⟩:=f137.h.blk (ck_lt ej151).1
       have a154:=lds_one (M:=Mt) (t:=3) k153 T.ag3 (seg_sl enc_int.len mm152 (ck_lt ej151).1)
       refine rn_k (fun ⟨σ,H,_⟩=>Lk σ 4 (slV l51 b52) ∧ Lk σ 5 (slV l53 b54) ∧ Lk σ 22 (slV x0 b0) ∧ Lk σ 23 (.int .i64 (x23_55)) ∧ Lk σ 24 (.int .i64 (x24_56)) ∧ Lk σ 54 (.bool ((!decide ((Sl.nth l51 j146) = (Sl.nth l53 j151))) || (decide (255 < (Sl.nth l51 j146))))) ∧ SlO c.nb H (cInt .i64) 3 l51 b52 ∧ SlO c.nb H (cInt .i64) 3 l53 b54 ∧ Iv c.nb [] H0 H) (fun J hJ=>?_) ?_
       ·skip
        cases g169:!decide ((Sl.nth l51 j146) = (Sl.nth l53 j151))
        ·skip
         have a170:=ld_one (M:=Mt) (t:=3) f138 T.ag3 (Seg.refl.sub (S_b.seg1 (Sl.nth x0 j101)))
         obtain ⟨mm171,k172⟩:=f136.h.blk (ck_lt ej146).1
         have a173:=lds_one (M:=Mt) (t:=3) k172 T.ag3 (seg_sl enc_int.len mm171 (ck_lt ej146).1)
         simp only [C.f40r11,R,Nat.reduceEqDiff,s_pt,s_gt,isW,Bool.false_eq_true,if_false,if_true,reduceIte,h129,fa72_1,h131,a145,ia100,ej146,a149,h130,a150,ej151,a154,g169,a170,a173]
         refine hJ _ ?_
         exact ⟨h129,h130,h132,h133,h134,(by first | rfl | (simp only [g169]; rfl) | simp only [g169,Lk,RB,Nat.reduceEqDiff,not_false_eq_true]),f136,f137,i139⟩
        ·skip
         simp only [C.f40r11,R,Nat.reduceEqDiff,s_pt,s_gt,isW,Bool.false_eq_true,if_false,if_true,reduceIte,h129,fa72_1,h131,a145,ia100,ej146,a149,h130,a150,ej151,a154,g169]
         refine hJ _ ?_
         exact ⟨h129,h130,h132,h133,h134,(by first | rfl | (simp only [g169]; rfl) | simp only [g169,Lk,RB,Nat.reduceEqDiff,not_false_eq_true]),f136,f137,i139⟩
       rintro ⟨σ174,H159,d175⟩ ⟨h160,h161,h162,h163,h164,h165,f166,f167,i168⟩
       refine hJ _ ?_
       refine tk_cond (t:=(!decide ((Sl.nth l51 j146) = (Sl.nth l53 j151))) || (decide (255 < (Sl.nth l51 j146)))) h165 (fun g176=>?_) (fun g176=>?_)
       ·replace hm:=cond_t hm g176
        refine tk_os okM hok fun J hJ=>?_
        simp only [C.f40r12,R,Nat.reduceEqDiff]
        refine hJ _ ?_
        refine tk_ret okM ?_
        refine x100 _ _ (by simp) (by simp) ?_
        refine x97 _ _ (by simp) ?_
        refine x58 _ _ (by simp) ?_
        refine x50 _ _ (by simp) (by simp) ?_
        refine x46 _ _ (by simp) ?_
        obtain rfl:=Option.some.inj hm
        exact end_flat (.inl rfl) (vs:=[(.int .i64 (7))]) (resT' (v:=(.int .i64 (7))) rfl resN) (fm_cons rfl fm_nil)
       ·replace hm:=cond_f hm g176
        refine tk_skip okM ?_
        refine n98 _ ?_
        refine n96 _ ?_
        exact ⟨l51,l53,x23_55,x24_56,b52,b54,hm,h160,h161,h162,h163,h164,f166,f167,n69,i168⟩
    ·replace hm:=cond_f hm g75
     refine tk_exit okM ?_
     refine x74 _ _ (by simp) ?_
     refine x58 _ _ (by simp) ?_
     refine e49 _ ?_
     refine n45 _ ?_
     refine tk_os okM hok fun J hJ=>?_
     simp only [C.f40r14,R,Nat.reduceEqDiff]
     refine hJ _ ?_
     refine tk_ret okM ?_
     obtain rfl:=Option.some.inj hm
     exact end_flat (.inl rfl) (vs:=[(.int .i64 (0))]) (resT' (v:=(.int .i64 (0))) rfl resN) (fm_cons rfl fm_nil)
def b_bC (c_N:T_b6) (n:Nat):Nat → Int → (Arr Int 4) → Int → Option (Int)
 | 0,_,_,_=>none
 | k + 1,x3_17,x7_18,x8_19=>bif decide (x8_19 < 4) then ((ck 4 x8_19).bind fun j37=>(c_N (x7_18.nth j37)).bind fun v39=>b_bC c_N n k (IntKind.i64.wrap (x3_17 + v39)) x7_18 (IntKind.i64.wrap (x8_19 + 1))) else (some x3_17)
def b_cx (c_N:T_b6) (n:Nat) (x0:S_d):Option (Int):=b_bC c_N n n 0 x0.f_W 0
theorem w_fW {call:CallF} (hok:CallOk Mt call) {n:Nat} {c_N:T_b6} (z_e0:A_dJ call c_N) {H0:Hp} {x0:S_d} {r:Int} {ro:Nat} (hro:ro ≤ H0.length) (hm:b_cx c_N n x0 = some r) :
  Pt Mt ro 44 [(vAgg (S_d.c x0))] H0 (.int .i64 (r)) H0 []:=by
 refine pt_new0 okM F44d (by exact Nat.le_of_ble_eq_true rfl) ?_ hro
 intro c hnt hnb hcr
 have hcn:c.ro ≤ c.nb:=by omega
 have iv:Iv c.nb [] H0 H0:=by rw [hnb]; exact iv_refl
 rw [show args0 [(vAgg (S_d.c x0))] = [(0,(vAgg (S_d.c x0)))] from rfl]
 rw [b_cx] at hm
 simp only [C.f44,C.f44b0]
 refine tk_os okM hok fun J hJ=>?_
 obtain ⟨b1,H2,a3,f4,q5,r6,x7,i8⟩:=bx_ok (M:=Mt) (t:=25) (u:=(vAgg (S_d.c (x0)))) (cs:=S_d.c x0) H0 iv.le (by rw [S_d.enc.len]; exact T.sz25) vAgg_cells (S_d.enc.one _)
 have i9:=i8 _ _ iv
 simp only [C.f44r0,R,Nat.reduceEqDiff,a3]
 refine hJ _ ?_
 refine tk_os okM hok fun J hJ=>?_
 simp only [C.f44r1,R,Nat.reduceEqDiff]
 refine hJ _ ?_
 refine tk_seq_k fun K n11 x12=>?_
 refine tk_os okM hok fun J hJ=>?_
 have a13:=ld_agg (M:=Mt) (t:=23) f4 T.ag23 (by rw [(enc_arr (n:=4) enc_int).len]; exact T.sz23) (Seg.refl.sub (S_d.seg0 x0))
 simp only [C.f44r2,R,Nat.reduceEqDiff,fa25_0,a13]
 refine hJ _ ?_
 refine tk_block_k fun K n14 e15 x16=>?_
 refine tk_loop_k (n:=n) (fun k1 ⟨σ,H,_⟩=>∃ x3_17 x7_18 x8_19,b_bC c_N n k1 x3_17 x7_18 x8_19 = some r ∧ Lk σ 3 (.int .i64 x3_17) ∧ Lk σ 7 (vAgg ((cArr (n:=4) (cInt .u64)) x7_18)) ∧ Lk σ 8 (.int .i64 x8_19) ∧ Iv c.nb [] H0 H) ?_ ?_ ?_
 ·exact ⟨0,x0.f_W,0,hm,rfl,rfl,rfl,i9⟩
 ·rintro ⟨σ,H,d⟩ ⟨_,_,_,hm,_⟩
  cases hm
 ·intro k1 K n20 x21
  rintro ⟨σ27,H22,d28⟩ ⟨x3_17,x7_18,x8_19,hm,h23,h24,h25,i26⟩
  rw [b_bC.eq_2] at hm
  refine tk_os okM hok fun J hJ=>?_
  simp only [C.f44r3,R,Nat.reduceEqDiff,h25]
  refine hJ _ ?_
  refine tk_seq_k fun K n29 x30=>?_
  refine tk_cond (t:=decide (x8_19 < 4)) rfl (fun g31=>?_) (fun g31=>?_)
  ·replace hm:=cond_t hm g31
   refine tk_skip okM ?_
   refine n29 _ ?_
   refine tk_seq_k fun K n32 x33=>?_
   refine tk_block_k fun K n34 e35 x36=>?_
   refine tk_os okM hok fun J hJ=>?_
   obtain ⟨j37,ej37,hm⟩:=bind_s hm
   simp only [C.f44r4,R,Nat.reduceEqDiff,ix23,ej37,h24,h25]
   refine hJ _ ?_
   refine tk_oe okM hok fun J hJ=>?_
   obtain ⟨v39,ev39,hm⟩:=bind_s hm
   have a38:=z_e0 c.ro H22 (x7_18.nth j37) v39 ev39
   simp only [C.f44r5,R,Nat.reduceEqDiff,h23,c_fn F72,a38]
   refine hJ _ ?_
   refine n34 _ ?_
   refine n32 _ ?_
   refine tk_oe okM hok fun J hJ=>?_
   simp only [C.f44r6,R,Nat.reduceEqDiff,h25]
   refine hJ _ ?_
   refine n20 _ ?_
   exact ⟨IntKind.i64.wrap (x3_17 + v39),x7_18,IntKind.i64.wrap (x8_19 + 1),hm,rfl,h24,rfl,i26⟩
  ·replace hm:=cond_f hm g31
   refine tk_exit okM ?_
   refine x30 _ _ (by simp) ?_
   refine x21 _ _ (by simp) ?_
   refine e15 _ ?_
   refine n11 _ ?_
   refine tk_os okM hok fun J hJ=>?_
   simp only [C.f44r7,R,Nat.reduceEqDiff,h23]
   refine hJ _ ?_
   refine tk_ret okM ?_
   obtain rfl:=Option.some.inj hm
   exact end_flat (.inl rfl) (vs:=[(.int .i64 (x3_17))]) (resT' (v:=(.int .i64 (x3_17))) rfl resN) (fm_cons rfl fm_nil)
end Go.Proofs.YtaadjlpfdajggaaGreatDoor
