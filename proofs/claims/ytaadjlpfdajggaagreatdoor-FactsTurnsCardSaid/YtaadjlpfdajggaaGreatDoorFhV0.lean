import Derived.Test.YtaadjlpfdajggaaGreatDoorFhBase
set_option maxRecDepth 100000
set_option linter.unusedVariables false
set_option linter.unusedSimpArgs false
namespace Go.Proofs.YtaadjlpfdajggaaGreatDoor
open Go Go.AM
attribute [local congr] bind_first map_first
def b_bT (c_dr:T_eg) (c_b4:T_ey) (c_ch:T_dw) (c_dL:T_eC) (c_cD:T_eI) (n:Nat) (x0:(Sl S_b)) (x1:Int):Option (Bool):=(c_dr x0 60).bind fun v14=>(c_b4 v14).bind fun v28=>(bif !decide (v28.2 = 0) then some true else ((c_dL v14).bind fun v50=>some (decide (40 ≤ v50)))).bind fun y51=>bif y51 then ((bif (decide (v28.2 = 0)) || (decide (v28.1 = S_c.zero)) then ((c_ch).bind fun v77=>some v77) else some false).bind fun y78=>some y78) else ((remO (IntKind.i64.wrap x1) 9).bind fun v87=>(c_cD v14 (({ S_b.zero with f_Kind:=10,f_Max:=IntKind.i64.wrap (1 + v87) }:S_b))).bind fun v90=>(c_b4 v90).bind fun v103=>(c_cD v14 (({ S_b.zero with f_Kind:=10,f_Min:=IntKind.i64.wrap (1 + v87),f_Max:=(-1) }:S_b))).bind fun v127=>(c_b4 v127).bind fun v141=>(c_cD v14 (({ S_b.zero with f_Kind:=10 }:S_b))).bind fun v167=>(c_b4 v167).bind fun v182=>bif ((!decide (v103.2 = 0)) || (!decide (v141.2 = 0))) || (!decide (v182.2 = 0)) then (some false) else ((bif (((((decide (v103.1.f_First = v28.1.f_First)) && v103.1.f_Open) && (decide (v103.1.f_Prefix = ((⟨#[]⟩:ByteArray))))) && (!v103.1.f_Fast)) && (decide (v141.1 = v28.1))) && (decide (v182.1 = (({ S_c.zero with f_First:=S_d.zero,f_Open:=true }:S_c)))) then ((c_ch).bind fun v309=>some v309) else some false).bind fun y310=>some y310))
theorem w_eZ {call:CallF} (hok:CallOk Mt call) {n:Nat} {c_dr:T_eg} (z_gp:A_fc call c_dr) {c_b4:T_ey} (z_ds:A_fM call c_b4) {c_ch:T_dw} (z_eu:A_eL call c_ch) {c_dL:T_eC} (z_gP:A_fK call c_dL) {c_cD:T_eI} (z_ed:A_fC call c_cD) {H0:Hp} {x0:(Sl S_b)} {b0:Nat} {x1:Int} {r:Bool} {ro:Nat} (hro:ro ≤ H0.length) (h0:SlH H0 S_b.c 72 x0 b0) (hm:b_bT c_dr c_b4 c_ch c_dL c_cD n x0 x1 = some r) (hG1:TabH1 H0) :
  Pt Mt ro 8 [(vAgg [slV x0 b0]),(.int .u8 x1)] H0 (.bool (r)) H0 []:=by
 refine pt_new0 okM F8d (by exact Nat.le_of_ble_eq_true rfl) ?_ hro
 intro c hnt hnb hcr
 have hcn:c.ro ≤ c.nb:=by omega
 have l0:x0 ≠ none → b0 < c.nb:=fun h=>by rw [hnb]; exact h0.lt h
 have iv:Iv c.nb [] H0 H0:=by rw [hnb]; exact iv_refl
 rw [show args0 [(vAgg [slV x0 b0]),(.int .u8 x1)] = [(0,(vAgg [slV x0 b0])),(1,(.int .u8 x1))] from rfl]
 rw [b_bT] at hm
 simp only [C.f8]
 refine tk_os okM hok fun J hJ=>?_
 obtain ⟨b2,H3,a4,f5,q6,r7,x8,i9⟩:=bx_ok (M:=Mt) (t:=37) (u:=(vAgg [(slV x0 b0)])) (cs:=[(slV x0 b0)]) H0 iv.le T.sz37 vAgg_cells one_sl
 have i10:=i9 _ _ iv
 simp only [C.f8r0,R,Nat.reduceEqDiff,a4]
 refine hJ _ ?_
 refine tk_os okM hok fun J hJ=>?_
 have a12:=ld_agg (M:=Mt) (t:=37) (off:=0) (c:=[(slV x0 b0)]) f5 T.ag37 T.sz37 Seg.refl
 obtain ⟨v14,ev14,hm⟩:=bind_s hm
 have a13:=z_gp c.ro H3 x0 b0 60 v14 (h0.iv l0 (fun _=>by simp) i10) ev14
 obtain ⟨a17,l16,f15⟩:=a13
 have f18:=f15 _ _ h0
 have l19:=fun h=>l0 (l16 h)
 obtain ⟨H21,a22,f23,u24⟩:=st_ok (M:=Mt) (t:=37) (off:=0) (ro:=c.ro) (v:=(vAgg [(slV v14 b0)])) (c:=[(slV v14 b0)]) (cs':=[(slV v14 b0)]) f5 T.sz37 vAgg_cells one_sl (Nat.le_trans hcn r7) (Nat.le_refl _) rfl
 have i25:=i10.up u24 r7
 simp only [C.f8r1,R,Nat.reduceEqDiff,a12,c_fn F18,a17,a22]
 refine hJ _ ?_
 refine tk_os okM hok fun J hJ=>?_
 have a26:=ld_agg (M:=Mt) (t:=37) (off:=0) (c:=[(slV v14 b0)]) f23 T.ag37 T.sz37 Seg.refl
 obtain ⟨v28,ev28,hm⟩:=bind_s hm
 have a27:=z_ds c.ro H21 v14 b0 v28 (f18.iv l19 (fun _=>by simp) i25) (tabIv1 i25 hnb hG1) ev28
 obtain ⟨b29,H30,a31,f32,q33,r34,x35,i36⟩:=al_ok H21 54 (S_c.c S_c.zero) i25.le
 have i37:=i36 _ _ i25
 have f38:=x35 _ _ f23
 obtain ⟨H40,a41,f42,u43⟩:=st_ok (M:=Mt) (t:=54) (v:=(vAgg (S_c.c (v28.1)))) (c:=S_c.c v28.1) (cs':=S_c.c v28.1) f32 (by rw [S_c.enc.len]; exact T.sz54) vAgg_cells (S_c.enc.one _) (Nat.le_trans hcn r34) (le0 S_c.enc.len) (wrs_all (eqL S_c.enc.len))
 have i44:=i37.up u43 r34
 have f45:=(u43.get _ (ne_len f23 q33)).trans f38
 simp only [C.f8r2,R,Nat.reduceEqDiff,a26,c_fn F26,a27,zs54,a31,a41]
 refine hJ _ ?_
 refine tk_seq_k fun K n46 x47=>?_
 refine tk_os okM hok fun J hJ=>?_
 obtain ⟨y51,ey51,hm⟩:=bind_s hm
 refine rn_k (fun ⟨σ,H,_⟩=>Lk σ 1 (.int .u8 (x1)) ∧ Lk σ 2 (.pointer (some ⟨b2,0,none⟩)) ∧ Lk σ 5 (.pointer (some ⟨b29,0,none⟩)) ∧ Lk σ 6 (.int .i64 (v28.2)) ∧ Lk σ 27 (.bool (y51)) ∧ H[b2]? = some (.cells [(slV v14 b0)] 37) ∧ H[b29]? = some (.cells (S_c.c v28.1) 54) ∧ Iv c.nb [] H0 H) (fun J hJ=>?_) ?_
 ·skip
  cases g61:!decide (v28.2 = 0)
  ·skip
   have ey51:=cond_f ey51 g61
   have a62:=ld_agg (M:=Mt) (t:=37) (off:=0) (c:=[(slV v14 b0)]) f45 T.ag37 T.sz37 Seg.refl
   obtain ⟨v64,ev64,ey51⟩:=bind_s ey51
   have a63:=z_gP c.ro H40 v14 b0 v64 (f18.iv l19 (fun _=>by simp) i44) ev64
   obtain rfl:=Option.some.inj ey51
   simp only [C.f8r3,R,Nat.reduceEqDiff,g61,a62,c_fn F32,a63]
   refine hJ _ ?_
   exact ⟨(by first | rfl | (simp only [g61]; rfl) | simp only [g61,Lk,RB,Nat.reduceEqDiff,not_false_eq_true]),rfl,rfl,(by first | rfl | (simp only [g61]; rfl) | simp only [g61,Lk,RB,Nat.reduceEqDiff,not_false_eq_true]),(by first | rfl | (simp only [g61]; rfl) | simp only [g61,Lk,RB,Nat.reduceEqDiff,not_false_eq_true]),f45,f42,i44⟩
  ·skip
   have ey51:=cond_t ey51 g61
   obtain rfl:=Option.some.inj ey51
   simp only [C.f8r3,R,Nat.reduceEqDiff,g61]
   refine hJ _ ?_
   exact ⟨(by first | rfl | (simp only [g61]; rfl) | simp only [g61,Lk,RB,Nat.reduceEqDiff,not_false_eq_true]),rfl,rfl,(by first | rfl | (simp only [g61]; rfl) | simp only [g61,Lk,RB,Nat.reduceEqDiff,not_false_eq_true]),(by first | rfl | (simp only [g61]; rfl) | simp only [g61,Lk,RB,Nat.reduceEqDiff,not_false_eq_true]),f45,f42,i44⟩
 rintro ⟨σ65,H52,d66⟩ ⟨h53,h54,h55,h56,h57,f58,f59,i60⟩
 refine hJ _ ?_
 refine tk_cond (t:=y51) h57 (fun g67=>?_) (fun g67=>?_)
 ·replace hm:=cond_t hm g67
  refine tk_os okM hok fun J hJ=>?_
  rw [C.f8r4]
  refine rn_app_k (fun ⟨σ,H,_⟩=>Lk σ 34 (.bool ((decide (v28.2 = 0)) || (decide (v28.1 = S_c.zero)))) ∧ Iv c.nb [] H0 H) (fun J hJ=>?_) ?_
  ·skip
   cases g72:decide (v28.2 = 0)
   ·skip
    have a73:=ld_agg (M:=Mt) (t:=54) f59 T.ag54 (by rw [S_c.enc.len]; exact T.sz54) Seg.refl
    simp only [C.f8r4p0,R,Nat.reduceEqDiff,h56,g72,a73,h55,bd54_,eql54]
    refine hJ _ ?_
    exact ⟨(by first | rfl | (simp only [g72]; rfl) | simp only [g72,Lk,RB,Nat.reduceEqDiff,not_false_eq_true]),i60⟩
   ·skip
    simp only [C.f8r4p0,R,Nat.reduceEqDiff,h56,g72]
    refine hJ _ ?_
    exact ⟨(by first | rfl | (simp only [g72]; rfl) | simp only [g72,Lk,RB,Nat.reduceEqDiff,not_false_eq_true]),i60⟩
  rintro ⟨σ74,H69,d75⟩ ⟨h70,i71⟩
  obtain ⟨y78,ey78,hm⟩:=bind_s hm
  refine rn_app_k (fun ⟨σ,H,_⟩=>Lk σ 37 (.bool (y78)) ∧ Iv c.nb [] H0 H) (fun J hJ=>?_) ?_
  ·skip
   cases g82:(decide (v28.2 = 0)) || (decide (v28.1 = S_c.zero))
   ·skip
    have ey78:=cond_f ey78 g82
    obtain rfl:=Option.some.inj ey78
    simp only [C.f8r4p1,R,Nat.reduceEqDiff,h70,g82]
    refine hJ _ ?_
    exact ⟨(by first | rfl | (simp only [g82]; rfl) | simp only [g82,Lk,RB,Nat.reduceEqDiff,not_false_eq_true]),i71⟩
   ·skip
    have ey78:=cond_t ey78 g82
    obtain ⟨v84,ev84,ey78⟩:=bind_s ey78
    have a83:=z_eu c.ro H69  v84 (tabIv1 i71 hnb hG1) ev84
    obtain rfl:=Option.some.inj ey78
    simp only [C.f8r4p1,R,Nat.reduceEqDiff,h70,g82,c_fn F29,a83]
    refine hJ _ ?_
    exact ⟨(by first | rfl | (simp only [g82]; rfl) | simp only [g82,Lk,RB,Nat.reduceEqDiff,not_false_eq_true]),i71⟩
  rintro ⟨σ85,H79,d86⟩ ⟨h80,i81⟩
  simp only [C.f8r4p2,R,Nat.reduceEqDiff,h80]
  refine hJ _ ?_
  refine tk_ret okM ?_
  refine x47 _ _ (by simp) ?_
  obtain rfl:=Option.some.inj hm
  exact end_flat (.inl rfl) (vs:=[(.bool (y78))]) (resT' (v:=(.bool (y78))) rfl resN) (fm_cons rfl fm_nil)
 ·replace hm:=cond_f hm g67
  refine tk_skip okM ?_
  refine n46 _ ?_
  refine tk_os okM hok fun J hJ=>?_
  obtain ⟨v87,ev87,hm⟩:=bind_s hm
  simp only [C.f8r5,R,Nat.reduceEqDiff,h53,cv_int (M:=Mt) Tryz.underlying5 Tryz.underlying3,ev87]
  refine hJ _ ?_
  refine tk_os okM hok fun J hJ=>?_
  have a88:=ld_agg (M:=Mt) (t:=37) (off:=0) (c:=[(slV v14 b0)]) f58 T.ag37 T.sz37 Seg.refl
  obtain ⟨v90,ev90,hm⟩:=bind_s hm
  have a89:=z_ed c.ro H52 v14 b0 (({ S_b.zero with f_Kind:=10,f_Max:=IntKind.i64.wrap (1 + v87) }:S_b)) v90 (f18.iv l19 (fun _=>by simp) i60) ev90
  obtain ⟨H91,q92⟩:∃ x,x = H52 ++ slB S_b.c 72 v90:=⟨_,rfl⟩
  obtain ⟨b93,q94⟩:∃ b,b = H52.length:=⟨_,rfl⟩
  rw [← q92,← q94] at a89
  have x98:Ex H52 H91:=by rw [q92]; exact ex_app
  have i96:Iv c.nb [] H0 H91:=by rw [q92]; exact i60.app
  have f95:SlO c.nb H91 S_b.c 72 v90 b93:=by rw [q92,q94]; exact slB_own i60.le
  have r97:c.nb ≤ b93:=by rw [q94]; exact i60.le
  have f99:=x98 _ _ f58
  have f100:=x98 _ _ f59
  obtain ⟨v103,ev103,hm⟩:=bind_s hm
  have a102:=z_ds c.ro H91 v90 b93 v103 f95.h (tabIv1 i96 hnb hG1) ev103
  obtain ⟨b104,H105,a106,f107,q108,r109,x110,i111⟩:=al_ok H91 54 (S_c.c S_c.zero) i96.le
  have i112:=i111 _ _ i96
  have f113:=x110 _ _ f99
  have f114:=x110 _ _ f100
  have f115:=f95.ex x110
  obtain ⟨H117,a118,f119,u120⟩:=st_ok (M:=Mt) (t:=54) (v:=(vAgg (S_c.c (v103.1)))) (c:=S_c.c v103.1) (cs':=S_c.c v103.1) f107 (by rw [S_c.enc.len]; exact T.sz54) vAgg_cells (S_c.enc.one _) (Nat.le_trans hcn r109) (le0 S_c.enc.len) (wrs_all (eqL S_c.enc.len))
  have i121:=i112.up u120 r109
  have f122:=(u120.get _ (ne_len f99 q108)).trans f113
  have f123:=(u120.get _ (ne_len f100 q108)).trans f114
  have f124:=f115.up u120 (f95.h.ne q108)
  simp only [C.f8r6,R,Nat.reduceEqDiff,a88,h54,bd72_0_5,c_fn F33,a89,c_fn F26,a102,zs54,a106,a118]
  refine hJ _ ?_
  refine tk_os okM hok fun J hJ=>?_
  have a125:=ld_agg (M:=Mt) (t:=37) (off:=0) (c:=[(slV v14 b0)]) f122 T.ag37 T.sz37 Seg.refl
  obtain ⟨v127,ev127,hm⟩:=bind_s hm
  have a126:=z_ed c.ro H117 v14 b0 (({ S_b.zero with f_Kind:=10,f_Min:=IntKind.i64.wrap (1 + v87),f_Max:=(-1) }:S_b)) v127 (f18.iv l19 (fun _=>by simp) i121) ev127
  obtain ⟨H128,q129⟩:∃ x,x = H117 ++ slB S_b.c 72 v127:=⟨_,rfl⟩
  obtain ⟨b130,q131⟩:∃ b,b = H117.length:=⟨_,rfl⟩
  rw [← q129,← q131] at a126
  have x135:Ex H117 H128:=by rw [q129]; exact ex_app
  have i133:Iv c.nb [] H0 H128:=by rw [q129]; exact i121.app
  have f132:SlO c.nb H128 S_b.c 72 v127 b130:=by rw [q129,q131]; exact slB_own i121.le
  have r134:c.nb ≤ b130:=by rw [q131]; exact i121.le
  have f136:=x135 _ _ f122
  have f137:=x135 _ _ f123
  have f138:=x135 _ _ f119
  obtain ⟨v141,ev141,hm⟩:=bind_s hm
  have a140:=z_ds c.ro H128 v127 b130 v141 f132.h (tabIv1 i133 hnb hG1) ev141
  obtain ⟨b142,H143,a144,f145,q146,r147,x148,i149⟩:=al_ok H128 54 (S_c.c S_c.zero) i133.le
  have i150:=i149 _ _ i133
  have f151:=x148 _ _ f136
  have f152:=x148 _ _ f137
  have f153:=x148 _ _ f138
  have f154:=f132.ex x148
  obtain ⟨H156,a157,f158,u159⟩:=st_ok (M:=Mt) (t:=54) (v:=(vAgg (S_c.c (v141.1)))) (c:=S_c.c v141.1) (cs':=S_c.c v141.1) f145 (by rw [S_c.enc.len]; exact T.sz54) vAgg_cells (S_c.enc.one _) (Nat.le_trans hcn r147) (le0 S_c.enc.len) (wrs_all (eqL S_c.enc.len))
  have i160:=i150.up u159 r147
  have f161:=(u159.get _ (ne_len f136 q146)).trans f151
  have f162:=(u159.get _ (ne_len f137 q146)).trans f152
  have f163:=(u159.get _ (ne_len f138 q146)).trans f153
  have f164:=f154.up u159 (f132.h.ne q146)
  simp only [C.f8r7,R,Nat.reduceEqDiff,a125,h54,bd72_0_4_5,c_fn F33,a126,c_fn F26,a140,zs54,a144,a157]
  refine hJ _ ?_
  refine tk_os okM hok fun J hJ=>?_
  have a165:=ld_agg (M:=Mt) (t:=37) (off:=0) (c:=[(slV v14 b0)]) f161 T.ag37 T.sz37 Seg.refl
  obtain ⟨v167,ev167,hm⟩:=bind_s hm
  have a166:=z_ed c.ro H156 v14 b0 (({ S_b.zero with f_Kind:=10 }:S_b)) v167 (f18.iv l19 (fun _=>by simp) i160) ev167
  obtain ⟨H168,q169⟩:∃ x,x = H156 ++ slB S_b.c 72 v167:=⟨_,rfl⟩
  obtain ⟨b170,q171⟩:∃ b,b = H156.length:=⟨_,rfl⟩
  rw [← q169,← q171] at a166
  have x175:Ex H156 H168:=by rw [q169]; exact ex_app
  have i173:Iv c.nb [] H0 H168:=by rw [q169]; exact i160.app
  have f172:SlO c.nb H168 S_b.c 72 v167 b170:=by rw [q169,q171]; exact slB_own i160.le
  have r174:c.nb ≤ b170:=by rw [q171]; exact i160.le
  have f176:=x175 _ _ f161
  have f177:=x175 _ _ f162
  have f178:=x175 _ _ f163
  have f179:=x175 _ _ f158
  obtain ⟨v182,ev182,hm⟩:=bind_s hm
  have a181:=z_ds c.ro H168 v167 b170 v182 f172.h (tabIv1 i173 hnb hG1) ev182
  obtain ⟨b183,H184,a185,f186,q187,r188,x189,i190⟩:=al_ok H168 54 (S_c.c S_c.zero) i173.le
  have i191:=i190 _ _ i173
  have f192:=x189 _ _ f176
  have f193:=x189 _ _ f177
  have f194:=x189 _ _ f178
  have f195:=x189 _ _ f179
  have f196:=f172.ex x189
  obtain ⟨H198,a199,f200,u201⟩:=st_ok (M:=Mt) (t:=54) (v:=(vAgg (S_c.c (v182.1)))) (c:=S_c.c v182.1) (cs':=S_c.c v182.1) f186 (by rw [S_c.enc.len]; exact T.sz54) vAgg_cells (S_c.enc.one _) (Nat.le_trans hcn r188) (le0 S_c.enc.len) (wrs_all (eqL S_c.enc.len))
  have i202:=i191.up u201 r188
  have f203:=(u201.get _ (ne_len f176 q187)).trans f192
  have f204:=(u201.get _ (ne_len f177 q187)).trans f193
  have f205:=(u201.get _ (ne_len f178 q187)).trans f194
  have f206:=(u201.get _ (ne_len f179 q187)).trans f195
  have f207:=f196.up u201 (f172.h.ne q187)
  simp only [C.f8r8,R,Nat.reduceEqDiff,a165,h54,bd72_0,c_fn F33,a166,c_fn F26,a181,zs54,a185,a199]
  refine hJ _ ?_
  refine tk_seq_k fun K n208 x209=>?_
  refine tk_os okM hok fun J hJ=>?_
  rw [C.f8r9]
  refine rn_app_k (fun ⟨σ,H,_⟩=>Lk σ 5 (.pointer (some ⟨b29,0,none⟩)) ∧ Lk σ 8 (.pointer (some ⟨b104,0,none⟩)) ∧ Lk σ 10 (.pointer (some ⟨b142,0,none⟩)) ∧ Lk σ 12 (.pointer (some ⟨b183,0,none⟩)) ∧ Lk σ 13 (.int .i64 (v182.2)) ∧ Lk σ 70 (.bool ((!decide (v103.2 = 0)) || (!decide (v141.2 = 0)))) ∧ H[b29]? = some (.cells (S_c.c v28.1) 54) ∧ H[b104]? = some (.cells (S_c.c v103.1) 54) ∧ H[b142]? = some (.cells (S_c.c v141.1) 54) ∧ H[b183]? = some (.cells (S_c.c v182.1) 54) ∧ Iv c.nb [] H0 H) (fun J hJ=>?_) ?_
  ·skip
   cases g222:!decide (v103.2 = 0)
   ·skip
    simp only [C.f8r9p0,R,Nat.reduceEqDiff,g222]
    refine hJ _ ?_
    exact ⟨h55,rfl,rfl,rfl,(by first | rfl | (simp only [g222]; rfl) | simp only [g222,Lk,RB,Nat.reduceEqDiff,not_false_eq_true]),(by first | rfl | (simp only [g222]; rfl) | simp only [g222,Lk,RB,Nat.reduceEqDiff,not_false_eq_true]),f204,f205,f206,f200,i202⟩
   ·skip
    simp only [C.f8r9p0,R,Nat.reduceEqDiff,g222]
    refine hJ _ ?_
    exact ⟨h55,rfl,rfl,rfl,(by first | rfl | (simp only [g222]; rfl) | simp only [g222,Lk,RB,Nat.reduceEqDiff,not_false_eq_true]),(by first | rfl | (simp only [g222]; rfl) | simp only [g222,Lk,RB,Nat.reduceEqDiff,not_false_eq_true]),f204,f205,f206,f200,i202⟩
  rintro ⟨σ223,H210,d224⟩ ⟨h211,h212,h213,h214,h215,h216,f217,f218,f219,f220,i221⟩
  refine rn_k (fun ⟨σ,H,_⟩=>Lk σ 5 (.pointer (some ⟨b29,0,none⟩)) ∧ Lk σ 8 (.pointer (some ⟨b104,0,none⟩)) ∧ Lk σ 10 (.pointer (some ⟨b142,0,none⟩)) ∧ Lk σ 12 (.pointer (some ⟨b183,0,none⟩)) ∧ Lk σ 74 (.bool (((!decide (v103.2 = 0)) || (!decide (v141.2 = 0))) || (!decide (v182.2 = 0)))) ∧ H[b29]? = some (.cells (S_c.c v28.1) 54) ∧ H[b104]? = some (.cells (S_c.c v103.1) 54) ∧ H[b142]? = some (.cells (S_c.c v141.1) 54) ∧ H[b183]? = some (.cells (S_c.c v182.1) 54) ∧ Iv c.nb [] H0 H) (fun J hJ=>?_) ?_
  ·skip
   cases g236:(!decide (v103.2 = 0)) || (!decide (v141.2 = 0))
   ·skip
    simp only [C.f8r9p1,R,Nat.reduceEqDiff,h216,g236,h215]
    refine hJ _ ?_
    exact ⟨h211,h212,h213,h214,(by first | rfl | (simp only [g236]; rfl) | simp only [g236,Lk,RB,Nat.reduceEqDiff,not_false_eq_true]),f217,f218,f219,f220,i221⟩
   ·skip
    simp only [C.f8r9p1,R,Nat.reduceEqDiff,h216,g236]
    refine hJ _ ?_
    exact ⟨h211,h212,h213,h214,(by first | rfl | (simp only [g236]; rfl) | simp only [g236,Lk,RB,Nat.reduceEqDiff,not_false_eq_true]),f217,f218,f219,f220,i221⟩
  rintro ⟨σ237,H225,d238⟩ ⟨h226,h227,h228,h229,h230,f231,f232,f233,f234,i235⟩
  refine hJ _ ?_
  refine tk_cond (t:=((!decide (v103.2 = 0)) || (!decide (v141.2 = 0))) || (!decide (v182.2 = 0))) h230 (fun g239=>?_) (fun g239=>?_)
  ·replace hm:=cond_t hm g239
   refine tk_os okM hok fun J hJ=>?_
   simp only [C.f8r10,R,Nat.reduceEqDiff]
   refine hJ _ ?_
   refine tk_ret okM ?_
   refine x209 _ _ (by simp) ?_
   obtain rfl:=Option.some.inj hm
   exact end_flat (.inl rfl) (vs:=[(.bool (false))]) (resT' (v:=(.bool (false))) rfl resN) (fm_cons rfl fm_nil)
  ·replace hm:=cond_f hm g239
   refine tk_skip okM ?_
   refine n208 _ ?_
   refine tk_os okM hok fun J hJ=>?_
   rw [C.f8r11]
   have a240:=ld_agg (M:=Mt) (t:=25) f232 T.ag25 (by rw [S_d.enc.len]; exact T.sz25) (Seg.refl.sub (S_c.seg0 v103.1))
   have a241:=ld_agg (M:=Mt) (t:=25) f231 T.ag25 (by rw [S_d.enc.len]; exact T.sz25) (Seg.refl.sub (S_c.seg0 v28.1))
   refine rn_app_k (fun ⟨σ,H,_⟩=>Lk σ 5 (.pointer (some ⟨b29,0,none⟩)) ∧ Lk σ 8 (.pointer (some ⟨b104,0,none⟩)) ∧ Lk σ 10 (.pointer (some ⟨b142,0,none⟩)) ∧ Lk σ 12 (.pointer (some ⟨b183,0,none⟩)) ∧ Lk σ 83 (.bool ((decide (v103.1.f_First = v28.1.f_First)) && v103.1.f_Open)) ∧ H[b29]? = some (.cells (S_c.c v28.1) 54) ∧ H[b104]? = some (.cells (S_c.c v103.1) 54) ∧ H[b142]? = some (.cells (S_c.c v141.1) 54) ∧ H[b183]? = some (.cells (S_c.c v182.1) 54) ∧ Iv c.nb [] H0 H) (fun J hJ=>?_) ?_
   ·skip
    cases g254:decide (v103.1.f_First = v28.1.f_First)
    ·skip
     simp only [C.f8r11p0,R,Nat.reduceEqDiff,fa54_0,h227,a240,h226,a241,eql25,g254]
     refine hJ _ ?_
     exact ⟨h226,h227,h228,h229,(by first | rfl | (simp only [g254]; rfl) | simp only [g254,Lk,RB,Nat.reduceEqDiff,not_false_eq_true]),f231,f232,f233,f234,i235⟩
    ·skip
     have a255:=ld_one (M:=Mt) (t:=4) f232 T.ag4 (Seg.refl.sub (S_c.seg1 v103.1))
     simp only [C.f8r11p0,R,Nat.reduceEqDiff,fa54_0,h227,a240,h226,a241,eql25,g254,fa54_1,a255]
     refine hJ _ ?_
     exact ⟨h226,h227,h228,h229,(by first | rfl | (simp only [g254]; rfl) | simp only [g254,Lk,RB,Nat.reduceEqDiff,not_false_eq_true]),f231,f232,f233,f234,i235⟩
   rintro ⟨σ256,H243,d257⟩ ⟨h244,h245,h246,h247,h248,f249,f250,f251,f252,i253⟩
   refine rn_app_k (fun ⟨σ,H,_⟩=>Lk σ 5 (.pointer (some ⟨b29,0,none⟩)) ∧ Lk σ 8 (.pointer (some ⟨b104,0,none⟩)) ∧ Lk σ 10 (.pointer (some ⟨b142,0,none⟩)) ∧ Lk σ 12 (.pointer (some ⟨b183,0,none⟩)) ∧ Lk σ 88 (.bool (((decide (v103.1.f_First = v28.1.f_First)) && v103.1.f_Open) && (decide (v103.1.f_Prefix = ((⟨#[]⟩:ByteArray)))))) ∧ H[b29]? = some (.cells (S_c.c v28.1) 54) ∧ H[b104]? = some (.cells (S_c.c v103.1) 54) ∧ H[b142]? = some (.cells (S_c.c v141.1) 54) ∧ H[b183]? = some (.cells (S_c.c v182.1) 54) ∧ Iv c.nb [] H0 H) (fun J hJ=>?_) ?_
   ·skip
    cases g270:(decide (v103.1.f_First = v28.1.f_First)) && v103.1.f_Open
    ·skip
     simp only [C.f8r11p1,R,Nat.reduceEqDiff,h248,g270]
     refine hJ _ ?_
     exact ⟨h244,h245,h246,h247,(by first | rfl | (simp only [g270]; rfl) | simp only [g270,Lk,RB,Nat.reduceEqDiff,not_false_eq_true]),f249,f250,f251,f252,i253⟩
    ·skip
     have a271:=ld_one (M:=Mt) (t:=9) f250 T.ag9 (Seg.refl.sub (S_c.seg3 v103.1))
     simp only [C.f8r11p1,R,Nat.reduceEqDiff,h248,g270,fa54_3,h245,a271]
     refine hJ _ ?_
     exact ⟨h244,h245,h246,h247,(by first | rfl | (simp only [g270]; rfl) | simp only [g270,Lk,RB,Nat.reduceEqDiff,not_false_eq_true]),f249,f250,f251,f252,i253⟩
   rintro ⟨σ272,H259,d273⟩ ⟨h260,h261,h262,h263,h264,f265,f266,f267,f268,i269⟩
   refine rn_app_k (fun ⟨σ,H,_⟩=>Lk σ 5 (.pointer (some ⟨b29,0,none⟩)) ∧ Lk σ 10 (.pointer (some ⟨b142,0,none⟩)) ∧ Lk σ 12 (.pointer (some ⟨b183,0,none⟩)) ∧ Lk σ 93 (.bool ((((decide (v103.1.f_First = v28.1.f_First)) && v103.1.f_Open) && (decide (v103.1.f_Prefix = ((⟨#[]⟩:ByteArray))))) && (!v103.1.f_Fast))) ∧ H[b29]? = some (.cells (S_c.c v28.1) 54) ∧ H[b142]? = some (.cells (S_c.c v141.1) 54) ∧ H[b183]? = some (.cells (S_c.c v182.1) 54) ∧ Iv c.nb [] H0 H) (fun J hJ=>?_) ?_
   ·skip
    cases g284:((decide (v103.1.f_First = v28.1.f_First)) && v103.1.f_Open) && (decide (v103.1.f_Prefix = ((⟨#[]⟩:ByteArray))))
    ·skip
     simp only [C.f8r11p2,R,Nat.reduceEqDiff,h264,g284]
     refine hJ _ ?_
     exact ⟨h260,h262,h263,(by first | rfl | (simp only [g284]; rfl) | simp only [g284,Lk,RB,Nat.reduceEqDiff,not_false_eq_true]),f265,f267,f268,i269⟩
    ·skip
     have a285:=ld_one (M:=Mt) (t:=4) f266 T.ag4 (Seg.refl.sub (S_c.seg2 v103.1))
     simp only [C.f8r11p2,R,Nat.reduceEqDiff,h264,g284,fa54_2,h261,a285]
     refine hJ _ ?_
     exact ⟨h260,h262,h263,(by first | rfl | (simp only [g284]; rfl) | simp only [g284,Lk,RB,Nat.reduceEqDiff,not_false_eq_true]),f265,f267,f268,i269⟩
   rintro ⟨σ286,H275,d287⟩ ⟨h276,h277,h278,h279,f280,f281,f282,i283⟩
   refine rn_app_k (fun ⟨σ,H,_⟩=>Lk σ 12 (.pointer (some ⟨b183,0,none⟩)) ∧ Lk σ 98 (.bool (((((decide (v103.1.f_First = v28.1.f_First)) && v103.1.f_Open) && (decide (v103.1.f_Prefix = ((⟨#[]⟩:ByteArray))))) && (!v103.1.f_Fast)) && (decide (v141.1 = v28.1)))) ∧ H[b183]? = some (.cells (S_c.c v182.1) 54) ∧ Iv c.nb [] H0 H) (fun J hJ=>?_) ?_
   ·skip
    cases g295:(((decide (v103.1.f_First = v28.1.f_First)) && v103.1.f_Open) && (decide (v103.1.f_Prefix = ((⟨#[]⟩:ByteArray))))) && (!v103.1.f_Fast)
    ·skip
     simp only [C.f8r11p3,R,Nat.reduceEqDiff,h279,g295]
     refine hJ _ ?_
     exact ⟨h278,(by first | rfl | (simp only [g295]; rfl) | simp only [g295,Lk,RB,Nat.reduceEqDiff,not_false_eq_true]),f282,i283⟩
    ·skip
     have a296:=ld_agg (M:=Mt) (t:=54) f281 T.ag54 (by rw [S_c.enc.len]; exact T.sz54) Seg.refl
     have a297:=ld_agg (M:=Mt) (t:=54) f280 T.ag54 (by rw [S_c.enc.len]; exact T.sz54) Seg.refl
     simp only [C.f8r11p3,R,Nat.reduceEqDiff,h279,g295,a296,h277,a297,h276,eql54]
     refine hJ _ ?_
     exact ⟨h278,(by first | rfl | (simp only [g295]; rfl) | simp only [g295,Lk,RB,Nat.reduceEqDiff,not_false_eq_true]),f282,i283⟩
   rintro ⟨σ298,H290,d299⟩ ⟨h291,h292,f293,i294⟩
   refine rn_app_k (fun ⟨σ,H,_⟩=>Lk σ 104 (.bool ((((((decide (v103.1.f_First = v28.1.f_First)) && v103.1.f_Open) && (decide (v103.1.f_Prefix = ((⟨#[]⟩:ByteArray))))) && (!v103.1.f_Fast)) && (decide (v141.1 = v28.1))) && (decide (v182.1 = (({ S_c.zero with f_First:=S_d.zero,f_Open:=true }:S_c)))))) ∧ Iv c.nb [] H0 H) (fun J hJ=>?_) ?_
   ·skip
    cases g304:((((decide (v103.1.f_First = v28.1.f_First)) && v103.1.f_Open) && (decide (v103.1.f_Prefix = ((⟨#[]⟩:ByteArray))))) && (!v103.1.f_Fast)) && (decide (v141.1 = v28.1))
    ·skip
     simp only [C.f8r11p4,R,Nat.reduceEqDiff,h292,g304]
     refine hJ _ ?_
     exact ⟨(by first | rfl | (simp only [g304]; rfl) | simp only [g304,Lk,RB,Nat.reduceEqDiff,not_false_eq_true]),i294⟩
    ·skip
     have a305:=ld_agg (M:=Mt) (t:=54) f293 T.ag54 (by rw [S_c.enc.len]; exact T.sz54) Seg.refl
     simp only [C.f8r11p4,R,Nat.reduceEqDiff,h292,g304,a305,h291,bd25_,bd54_0_1,eql54]
     refine hJ _ ?_
     exact ⟨(by first | rfl | (simp only [g304]; rfl) | simp only [g304,Lk,RB,Nat.reduceEqDiff,not_false_eq_true]),i294⟩
   rintro ⟨σ306,H301,d307⟩ ⟨h302,i303⟩
   obtain ⟨y310,ey310,hm⟩:=bind_s hm
   refine rn_app_k (fun ⟨σ,H,_⟩=>Lk σ 107 (.bool (y310)) ∧ Iv c.nb [] H0 H) (fun J hJ=>?_) ?_
   ·skip
    cases g314:(((((decide (v103.1.f_First = v28.1.f_First)) && v103.1.f_Open) && (decide (v103.1.f_Prefix = ((⟨#[]⟩:ByteArray))))) && (!v103.1.f_Fast)) && (decide (v141.1 = v28.1))) && (decide (v182.1 = (({ S_c.zero with f_First:=S_d.zero,f_Open:=true }:S_c))))
    ·skip
     have ey310:=cond_f ey310 g314
     obtain rfl:=Option.some.inj ey310
     simp only [C.f8r11p5,R,Nat.reduceEqDiff,h302,g314]
     refine hJ _ ?_
     exact ⟨(by first | rfl | (simp only [g314]; rfl) | simp only [g314,Lk,RB,Nat.reduceEqDiff,not_false_eq_true]),i303⟩
    ·skip
     have ey310:=cond_t ey310 g314
     obtain ⟨v316,ev316,ey310⟩:=bind_s ey310
     have a315:=z_eu c.ro H301  v316 (tabIv1 i303 hnb hG1) ev316
     obtain rfl:=Option.some.inj ey310
     simp only [C.f8r11p5,R,Nat.reduceEqDiff,h302,g314,c_fn F29,a315]
     refine hJ _ ?_
     exact ⟨(by first | rfl | (simp only [g314]; rfl) | simp only [g314,Lk,RB,Nat.reduceEqDiff,not_false_eq_true]),i303⟩
   rintro ⟨σ317,H311,d318⟩ ⟨h312,i313⟩
   simp only [C.f8r11p6,R,Nat.reduceEqDiff,h312]
   refine hJ _ ?_
   refine tk_ret okM ?_
   obtain rfl:=Option.some.inj hm
   exact end_flat (.inl rfl) (vs:=[(.bool (y310))]) (resT' (v:=(.bool (y310))) rfl resN) (fm_cons rfl fm_nil)
def b_cN (n:Nat) (x0:(Sl S_b)) (x1:Int):Option ((Sl S_b)):=(Sl.upto x0 (min (Sl.len x0) x1)).bind fun l25=>some l25
theorem w_gM {call:CallF} (hok:CallOk Mt call) {n:Nat} {H0:Hp} {x0:(Sl S_b)} {b0:Nat} {x1:Int} {r:(Sl S_b)} {ro:Nat} (hro:ro ≤ H0.length) (h0:SlH H0 S_b.c 72 x0 b0) (hm:b_cN n x0 x1 = some r) :
  Pt Mt ro 18 [(vAgg [slV x0 b0]),(.int .i64 x1)] H0 (vAgg [slV r b0]) H0 []:=by
 refine pt_new0 okM F18d (by exact Nat.le_of_ble_eq_true rfl) ?_ hro
 intro c hnt hnb hcr
 have hcn:c.ro ≤ c.nb:=by omega
 have l0:x0 ≠ none → b0 < c.nb:=fun h=>by rw [hnb]; exact h0.lt h
 have iv:Iv c.nb [] H0 H0:=by rw [hnb]; exact iv_refl
 rw [show args0 [(vAgg [slV x0 b0]),(.int .i64 x1)] = [(0,(vAgg [slV x0 b0])),(1,(.int .i64 x1))] from rfl]
 rw [b_cN] at hm
 simp only [C.f18]
 refine tk_os okM hok fun J hJ=>?_
 obtain ⟨b2,H3,a4,f5,q6,r7,x8,i9⟩:=bx_ok (M:=Mt) (t:=37) (u:=(vAgg [(slV x0 b0)])) (cs:=[(slV x0 b0)]) H0 iv.le T.sz37 vAgg_cells one_sl
 have i10:=i9 _ _ iv
 obtain ⟨b12,H13,a14,f15,q16,r17,x18,i19⟩:=al_ok H3 37 [.slice none 0 0] i10.le
 have i20:=i19 _ _ i10
 have f21:=x18 _ _ f5
 simp only [C.f18r0,R,Nat.reduceEqDiff,a4,(show zc Mt.P 37 = _ from T.zc37),a14]
 refine hJ _ ?_
 refine tk_os okM hok fun J hJ=>?_
 have a23:=ld_one (M:=Mt) (t:=35) (off:=0 + 0) f21 T.ag35 Seg.refl
 have a24:=ld_one (M:=Mt) (t:=35) (off:=0 + 0) f21 T.ag35 Seg.refl
 obtain ⟨l25,el25,hm⟩:=bind_s hm
 have f26:=h0.upto el25
 have l27:=fun h=>l0 (Sl.upto_none el25 h)
 obtain ⟨H29,a30,f31,u32⟩:=st_ok (M:=Mt) (t:=37) (off:=0) (ro:=c.ro) (v:=(vAgg [(slV l25 b0)])) (c:=[(slV l25 b0)]) (cs':=[(slV l25 b0)]) f15 T.sz37 vAgg_cells one_sl (Nat.le_trans hcn r17) (Nat.le_refl _) rfl
 have i33:=i20.up u32 r17
 have f34:=(u32.get _ (ne_len f5 q16)).trans f21
 simp only [C.f18r1,R,Nat.reduceEqDiff,fa37_0,a23,a24,ln35,sl_upto (M:=Mt) Tryz.underlying35 T.sz72 (by decide) S_b.enc.len (h0.iv l0 (fun _=>by simp) i20) el25,bd_wr (M:=Mt) (x:=l25) (b:=b0) (show zc Mt.P 37 = _ from T.zc37) pl37,a30]
 refine hJ _ ?_
 refine tk_ret okM ?_
 obtain rfl:=Option.some.inj hm
 refine end_old (.inl rfl) (vs:=[(vAgg [(slV l25 b0)])]) (resC' (v:=(vAgg [(slV l25 b0)])) rfl (ldv_of (ld_agg (M:=Mt) (t:=37) (c:=[(slV l25 b0)]) f31 T.ag37 T.sz37 Seg.refl)) resN) ?_
 intro v hv i hi
 simp only [List.mem_singleton] at hv; subst hv
 rw [← hnb]; exact slV_lt l27 i (by simpa [vAgg] using hi)
def b_dM (c_dj:T_ee) (c_dp:T_eo) (n:Nat) (x0:(Sl S_b)):Option (S_c × Int):=(c_dj x0).bind fun v27=>bif !decide (v27 = 0) then (some (S_c.zero,v27)) else ((c_dp x0).bind fun v39=>(ck (Sl.l v39).length (IntKind.i64.wrap ((Sl.len x0) - 1))).bind fun j52=>some ((Sl.nth v39 j52).f_Facts,0))
theorem w_gS {call:CallF} (hok:CallOk Mt call) {n:Nat} {c_dj:T_ee} (z_gw:A_fg call c_dj) {c_dp:T_eo} (z_gt:A_fe call c_dp) {H0:Hp} {x0:(Sl S_b)} {b0:Nat} {r:S_c × Int} {ro:Nat} (hro:ro ≤ H0.length) (h0:SlH H0 S_b.c 72 x0 b0) (hm:b_dM c_dj c_dp n x0 = some r) (hG1:TabH1 H0) :
  Pt Mt ro 26 [(vAgg [slV x0 b0])] H0 (.tuple [(vAgg (S_c.c (r.1))),(.int .i64 (r.2))].toArray) H0 []:=by
 refine pt_new0 okM F26d (by exact Nat.le_of_ble_eq_true rfl) ?_ hro
 intro c hnt hnb hcr
 have hcn:c.ro ≤ c.nb:=by omega
 have l0:x0 ≠ none → b0 < c.nb:=fun h=>by rw [hnb]; exact h0.lt h
 have iv:Iv c.nb [] H0 H0:=by rw [hnb]; exact iv_refl
 rw [show args0 [(vAgg [slV x0 b0])] = [(0,(vAgg [slV x0 b0]))] from rfl]
 rw [b_dM] at hm
 simp only [C.f26]
 refine tk_os okM hok fun J hJ=>?_
 obtain ⟨b2,H3,a4,f5,q6,r7,x8,i9⟩:=bx_ok (M:=Mt) (t:=37) (u:=(vAgg [(slV x0 b0)])) (cs:=[(slV x0 b0)]) H0 iv.le T.sz37 vAgg_cells one_sl
 have i10:=i9 _ _ iv
 obtain ⟨b12,H13,a14,f15,q16,r17,x18,i19⟩:=al_ok H3 54 (S_c.c S_c.zero) i10.le
 have i20:=i19 _ _ i10
 have f21:=x18 _ _ f5
 simp only [C.f26r0,R,Nat.reduceEqDiff,a4,zs54,a14]
 refine hJ _ ?_
 refine tk_seq_k fun K n23 x24=>?_
 refine tk_os okM hok fun J hJ=>?_
 have a25:=ld_agg (M:=Mt) (t:=37) (off:=0) (c:=[(slV x0 b0)]) f21 T.ag37 T.sz37 Seg.refl
 obtain ⟨v27,ev27,hm⟩:=bind_s hm
 have a26:=z_gw c.ro H13 x0 b0 v27 (h0.iv l0 (fun _=>by simp) i20) ev27
 simp only [C.f26r1,R,Nat.reduceEqDiff,a25,c_fn F40,a26]
 refine hJ _ ?_
 refine tk_os okM hok fun J hJ=>?_
 simp only [C.f26r2,R,Nat.reduceEqDiff]
 refine hJ _ ?_
 refine tk_cond (t:=!decide (v27 = 0)) rfl (fun g28=>?_) (fun g28=>?_)
 ·replace hm:=cond_t hm g28
  refine tk_os okM hok fun J hJ=>?_
  obtain ⟨H29,a30,f31,u32⟩:=st_ok (M:=Mt) (t:=54) (v:=(vAgg (S_c.c (S_c.zero)))) (c:=S_c.c S_c.zero) (cs':=S_c.c S_c.zero) f15 (by rw [S_c.enc.len]; exact T.sz54) vAgg_cells (S_c.enc.one _) (Nat.le_trans hcn r17) (le0 S_c.enc.len) (wrs_all (eqL S_c.enc.len))
  have i33:=i20.up u32 r17
  have f34:=(u32.get _ (ne_len f5 q16)).trans f21
  simp only [C.f26r3,R,Nat.reduceEqDiff,bd54_,a30]
  refine hJ _ ?_
  refine tk_ret okM ?_
  refine x24 _ _ (by simp) ?_
  obtain rfl:=Option.some.inj hm
  exact end_flat (.inl rfl) (vs:=[(vAgg (S_c.c (S_c.zero))),(.int .i64 (v27))]) (resC' (v:=(vAgg (S_c.c (S_c.zero)))) rfl (ldv_of (ld_agg (M:=Mt) (t:=54) f31 T.ag54 (by rw [S_c.enc.len]; exact T.sz54) Seg.refl)) (resT' (v:=(.int .i64 (v27))) rfl resN)) (fm_cons (flat_agg S_c.enc _) (fm_cons rfl fm_nil))
 ·replace hm:=cond_f hm g28
  refine tk_skip okM ?_
  refine n23 _ ?_
  refine tk_os okM hok fun J hJ=>?_
  have a35:=ld_agg (M:=Mt) (t:=37) (off:=0) (c:=[(slV x0 b0)]) f21 T.ag37 T.sz37 Seg.refl
  obtain ⟨R37,q38⟩:∃ b,b = H13.length:=⟨_,rfl⟩
  obtain ⟨v39,ev39,hm⟩:=bind_s hm
  have a36:=z_gt R37 H13 x0 b0 v39 (h0.iv l0 (fun _=>by simp) i20) (tabIv1 i20 hnb hG1) ev39
  obtain ⟨H40,q41⟩:∃ x,x = H13 ++ slB S_a.c 107 v39:=⟨_,rfl⟩
  obtain ⟨b42,q43⟩:∃ b,b = H13.length:=⟨_,rfl⟩
  rw [← q41,← q43] at a36
  have x47:Ex H13 H40:=by rw [q41]; exact ex_app
  have i45:Iv c.nb [] H0 H40:=by rw [q41]; exact i20.app
  have f44:SlO c.nb H40 S_a.c 107 v39 b42:=by rw [q41,q43]; exact slB_own i20.le
  have r46:c.nb ≤ b42:=by rw [q43]; exact i20.le
  rw [q38] at a36
  have f48:=x47 _ _ f21
  have f49:=x47 _ _ f15
  have a51:=ld_one (M:=Mt) (t:=35) (off:=0 + 0) f48 T.ag35 Seg.refl
  obtain ⟨j52,ej52,hm⟩:=bind_s hm
  obtain ⟨mm53,k54⟩:=f44.h.blk (ck_lt ej52).1
  have a55:=lds_agg (M:=Mt) (t:=54) k54 T.ag54 (by rw [S_c.enc.len]; exact T.sz54) ((seg_sl S_a.enc.len mm53 (ck_lt ej52).1).sub (S_a.seg0 (Sl.nth v39 j52)))
  obtain ⟨H56,a57,f58,u59⟩:=st_ok (M:=Mt) (t:=54) (v:=(vAgg (S_c.c ((Sl.nth v39 j52).f_Facts)))) (c:=S_c.c ((Sl.nth v39 j52).f_Facts)) (cs':=S_c.c ((Sl.nth v39 j52).f_Facts)) f49 (by rw [S_c.enc.len]; exact T.sz54) vAgg_cells (S_c.enc.one _) (Nat.le_trans hcn r17) (le0 S_c.enc.len) (wrs_all (eqL S_c.enc.len))
  have i60:=i45.up u59 r17
  have f61:=(u59.get _ (ne_len f5 q16)).trans f48
  have f62:=f44.up u59 (fun _=>(ne_len f15 q43).symm)
  simp only [C.f26r4,R,Nat.reduceEqDiff,s_pt,s_gt,isW,Bool.false_eq_true,if_false,if_true,reduceIte,a35,c_fn F57,a36,fa37_0,a51,ln35,ia108,ej52,fa107_0,a55,a57]
  refine hJ _ ?_
  refine tk_ret okM ?_
  obtain rfl:=Option.some.inj hm
  exact end_flat (.inl rfl) (vs:=[(vAgg (S_c.c ((Sl.nth v39 j52).f_Facts))),(.int .i64 (0))]) (resC' (v:=(vAgg (S_c.c ((Sl.nth v39 j52).f_Facts)))) rfl (ldv_of (ld_agg (M:=Mt) (t:=54) f58 T.ag54 (by rw [S_c.enc.len]; exact T.sz54) Seg.refl)) (resT' (v:=(.int .i64 (0))) rfl resN)) (fm_cons (flat_agg S_c.enc _) (fm_cons rfl fm_nil))
def b_dG (c_v:T_8) (c_bc:T_cx) (n:Nat) (x0:(Sl S_b)):Option (Int):=bif decide (500 < (Sl.len x0)) then (some 0) else ((c_v x0).bind fun v20=>bif !v20.2 then (some 0) else ((c_bc x0).bind fun v36=>(ck (Sl.l v36).length (IntKind.i64.wrap ((Sl.len x0) - 1))).bind fun j48=>some (Sl.nth v36 j48)))
theorem w_gR {call:CallF} (hok:CallOk Mt call) {n:Nat} {c_v:T_8} (z_cu:A_dn call c_v) {c_bc:T_cx} (z_dv:A_dQ call c_bc) {H0:Hp} {x0:(Sl S_b)} {b0:Nat} {r:Int} {ro:Nat} (hro:ro ≤ H0.length) (h0:SlH H0 S_b.c 72 x0 b0) (hm:b_dG c_v c_bc n x0 = some r) :
  Pt Mt ro 32 [(vAgg [slV x0 b0])] H0 (.int .i64 (r)) H0 []:=by
 refine pt_new0 okM F32d (by exact Nat.le_of_ble_eq_true rfl) ?_ hro
 intro c hnt hnb hcr
 have hcn:c.ro ≤ c.nb:=by omega
 have l0:x0 ≠ none → b0 < c.nb:=fun h=>by rw [hnb]; exact h0.lt h
 have iv:Iv c.nb [] H0 H0:=by rw [hnb]; exact iv_refl
 rw [show args0 [(vAgg [slV x0 b0])] = [(0,(vAgg [slV x0 b0]))] from rfl]
 rw [b_dG] at hm
 simp only [C.f32]
 refine tk_os okM hok fun J hJ=>?_
 obtain ⟨b2,H3,a4,f5,q6,r7,x8,i9⟩:=bx_ok (M:=Mt) (t:=37) (u:=(vAgg [(slV x0 b0)])) (cs:=[(slV x0 b0)]) H0 iv.le T.sz37 vAgg_cells one_sl
 have i10:=i9 _ _ iv
 simp only [C.f32r0,R,Nat.reduceEqDiff,a4]
 refine hJ _ ?_
 refine tk_seq_k fun K n12 x13=>?_
 refine tk_os okM hok fun J hJ=>?_
 have a14:=ld_one (M:=Mt) (t:=35) (off:=0 + 0) f5 T.ag35 Seg.refl
 simp only [C.f32r1,R,Nat.reduceEqDiff,fa37_0,a14,ln35]
 refine hJ _ ?_
 refine tk_cond (t:=decide (500 < (Sl.len x0))) rfl (fun g15=>?_) (fun g15=>?_)
 ·replace hm:=cond_t hm g15
  refine tk_os okM hok fun J hJ=>?_
  simp only [C.f32r2,R,Nat.reduceEqDiff]
  refine hJ _ ?_
  refine tk_ret okM ?_
  refine x13 _ _ (by simp) ?_
  obtain rfl:=Option.some.inj hm
  exact end_flat (.inl rfl) (vs:=[(.int .i64 (0))]) (resT' (v:=(.int .i64 (0))) rfl resN) (fm_cons rfl fm_nil)
 ·replace hm:=cond_f hm g15
  refine tk_skip okM ?_
  refine n12 _ ?_
  refine tk_seq_k fun K n16 x17=>?_
  refine tk_os okM hok fun J hJ=>?_
  have a18:=ld_agg (M:=Mt) (t:=37) (off:=0) (c:=[(slV x0 b0)]) f5 T.ag37 T.sz37 Seg.refl
  obtain ⟨v20,ev20,hm⟩:=bind_s hm
  have a19:=z_cu c.ro H3 x0 b0 v20 (h0.iv l0 (fun _=>by simp) i10) ev20
  obtain ⟨H21,q22⟩:∃ x,x = H3 ++ slB (cInt .i64) 3 v20.1:=⟨_,rfl⟩
  obtain ⟨b23,q24⟩:∃ b,b = H3.length:=⟨_,rfl⟩
  rw [← q22,← q24] at a19
  have x28:Ex H3 H21:=by rw [q22]; exact ex_app
  have i26:Iv c.nb [] H0 H21:=by rw [q22]; exact i10.app
  have f25:SlO c.nb H21 (cInt .i64) 3 v20.1 b23:=by rw [q22,q24]; exact slB_own i10.le
  have r27:c.nb ≤ b23:=by rw [q24]; exact i10.le
  have f29:=x28 _ _ f5
  simp only [C.f32r3,R,Nat.reduceEqDiff,a18,c_fn F62,a19]
  refine hJ _ ?_
  refine tk_os okM hok fun J hJ=>?_
  simp only [C.f32r4,R,Nat.reduceEqDiff]
  refine hJ _ ?_
  refine tk_cond (t:=!v20.2) rfl (fun g31=>?_) (fun g31=>?_)
  ·replace hm:=cond_t hm g31
   refine tk_os okM hok fun J hJ=>?_
   simp only [C.f32r5,R,Nat.reduceEqDiff]
   refine hJ _ ?_
   refine tk_ret okM ?_
   refine x17 _ _ (by simp) ?_
   obtain rfl:=Option.some.inj hm
   exact end_flat (.inl rfl) (vs:=[(.int .i64 (0))]) (resT' (v:=(.int .i64 (0))) rfl resN) (fm_cons rfl fm_nil)
  ·replace hm:=cond_f hm g31
   refine tk_skip okM ?_
   refine n16 _ ?_
   refine tk_os okM hok fun J hJ=>?_
   have a32:=ld_agg (M:=Mt) (t:=37) (off:=0) (c:=[(slV x0 b0)]) f29 T.ag37 T.sz37 Seg.refl
   obtain ⟨R34,q35⟩:∃ b,b = H21.length:=⟨_,rfl⟩
   obtain ⟨v36,ev36,hm⟩:=bind_s hm
   have a33:=z_dv R34 H21 x0 b0 v36 (h0.iv l0 (fun _=>by simp) i26) ev36
   obtain ⟨H37,q38⟩:∃ x,x = H21 ++ slB (cInt .i64) 3 v36:=⟨_,rfl⟩
   obtain ⟨b39,q40⟩:∃ b,b = H21.length:=⟨_,rfl⟩
   rw [← q38,← q40] at a33
   have x44:Ex H21 H37:=by rw [q38]; exact ex_app
   have i42:Iv c.nb [] H0 H37:=by rw [q38]; exact i26.app
   have f41:SlO c.nb H37 (cInt .i64) 3 v36 b39:=by rw [q38,q40]; exact slB_own i26.le
   have r43:c.nb ≤ b39:=by rw [q40]; exact i26.le
   rw [q35] at a33
   have f45:=x44 _ _ f29
   have a47:=ld_one (M:=Mt) (t:=35) (off:=0 + 0) f45 T.ag35 Seg.refl
   obtain ⟨j48,ej48,hm⟩:=bind_s hm
   obtain ⟨mm49,k50⟩:=f41.h.blk (ck_lt ej48).1
   have a51:=lds_one (M:=Mt) (t:=3) k50 T.ag3 (seg_sl enc_int.len mm49 (ck_lt ej48).1)
   simp only [C.f32r6,R,Nat.reduceEqDiff,s_pt,s_gt,isW,Bool.false_eq_true,if_false,if_true,reduceIte,a32,c_fn F63,a33,fa37_0,a47,ln35,ia100,ej48,a51]
   refine hJ _ ?_
   refine tk_ret okM ?_
   obtain rfl:=Option.some.inj hm
   exact end_flat (.inl rfl) (vs:=[(.int .i64 (Sl.nth v36 j48))]) (resT' (v:=(.int .i64 (Sl.nth v36 j48))) rfl resN) (fm_cons rfl fm_nil)
def b_dK (n:Nat) (x0:(Sl S_b)) (x1:S_b):Option ((Sl S_b)):=(Sl.make 96 (Sl.len x0) (IntKind.i64.wrap ((Sl.len x0) + 1)) (S_b.zero:S_b)).bind fun l37=>(Sl.app 96 (Sl.copy l37 x0) (some ([S_b.w2 ({ x1 with f_A:=IntKind.i64.wrap ((Sl.len l37) - 1) }) 0]:List S_b))).bind fun v88=>some v88
theorem w_gU {call:CallF} (hok:CallOk Mt call) {n:Nat} {H0:Hp} {x0:(Sl S_b)} {b0:Nat} {x1:S_b} {r:(Sl S_b)} {ro:Nat} (hro:ro ≤ H0.length) (h0:SlH H0 S_b.c 72 x0 b0) (hm:b_dK n x0 x1 = some r) :
  Pt Mt ro 33 [(vAgg [slV x0 b0]),(vAgg (S_b.c x1))] H0 (vAgg [slV r H0.length]) (H0 ++ slB S_b.c 72 r) []:=by
 refine pt_new okM F33d (by exact Nat.le_of_ble_eq_true rfl) ?_ hro
 intro c hnt hnb hcr
 have hcn:c.ro ≤ c.nb:=by omega
 have l0:x0 ≠ none → b0 < c.nb:=fun h=>by rw [hnb]; exact h0.lt h
 have iv:Iv c.nb [] H0 H0:=by rw [hnb]; exact iv_refl
 rw [show args0 [(vAgg [slV x0 b0]),(vAgg (S_b.c x1))] = [(0,(vAgg [slV x0 b0])),(1,(vAgg (S_b.c x1)))] from rfl]
 rw [b_dK] at hm
 simp only [C.f33]
 refine tk_os okM hok fun J hJ=>?_
 obtain ⟨b2,H3,a4,f5,q6,r7,x8,i9⟩:=bx_ok (M:=Mt) (t:=37) (u:=(vAgg [(slV x0 b0)])) (cs:=[(slV x0 b0)]) H0 iv.le T.sz37 vAgg_cells one_sl
 have i10:=i9 _ _ iv
 obtain ⟨b12,H13,a14,f15,q16,r17,x18,i19⟩:=bx_ok (M:=Mt) (t:=72) (u:=(vAgg (S_b.c (x1)))) (cs:=S_b.c x1) H3 i10.le (by rw [S_b.enc.len]; exact T.sz72) vAgg_cells (S_b.enc.one _)
 have i20:=i19 _ _ i10
 have f21:=x18 _ _ f5
 obtain ⟨b23,H24,a25,f26,q27,r28,x29,i30⟩:=al_ok H13 37 [.slice none 0 0] i20.le
 have i31:=i30 _ _ i20
 have f32:=x29 _ _ f21
 have f33:=x29 _ _ f15
 simp only [C.f33r0,R,Nat.reduceEqDiff,a4,a14,(show zc Mt.P 37 = _ from T.zc37),a25]
 refine hJ _ ?_
 refine tk_os okM hok fun J hJ=>?_
 have a35:=ld_one (M:=Mt) (t:=35) (off:=0 + 0) f32 T.ag35 Seg.refl
 have a36:=ld_one (M:=Mt) (t:=35) (off:=0 + 0) f32 T.ag35 Seg.refl
 obtain ⟨l37,el37,hm⟩:=bind_s hm
 obtain ⟨b38,H39,a40,f41,q42,r43,x44,i45⟩:=mk_ok (M:=Mt) (t:=35) (e:=72) (k:=.i64) (k':=.i64) H24 i31.le Tryz.underlying35 T.by72 zs72 el37
 have i46:=i45 _ _ i31
 have f47:=x44 _ _ f32
 have f48:=x44 _ _ f33
 have f49:=x44 _ _ f26
 simp only [C.f33r1,R,Nat.reduceEqDiff,fa37_0,a35,ln35,a36,o_makeSlice,a40]
 refine hJ _ ?_
 refine tk_os okM hok fun J hJ=>?_
 have a51:=ld_one (M:=Mt) (t:=35) (off:=0 + 0) f47 T.ag35 Seg.refl
 obtain ⟨H52,a53,f54,u55⟩:=cp_ok (M:=Mt) (t:=35) (u:=35) (nb:=c.nb) (x:=l37) (y:=x0) (b:=b38) (b2:=b0) Tryz.underlying35 T.sz72 S_b.enc f41 (h0.iv l0 (fun _=>by simp) i46) hcn
 have i56:=i46.up u55 r43
 have f57:=(u55.get _ (ne_len f32 q42)).trans f47
 have f58:=(u55.get _ (ne_len f33 q42)).trans f48
 have f59:=(u55.get _ (ne_len f26 q42)).trans f49
 simp only [C.f33r2,R,Nat.reduceEqDiff,fa37_0,a51,c_gW,a53]
 refine hJ _ ?_
 refine tk_os okM hok fun J hJ=>?_
 obtain ⟨H60,a61,f62,u63⟩:=st_ok (M:=Mt) (t:=3) (v:=(.int .i64 (IntKind.i64.wrap ((Sl.len l37) - 1)))) (c:=(cInt .i64) (IntKind.i64.wrap ((Sl.len l37) - 1))) (cs':=S_b.c ({ x1 with f_A:=IntKind.i64.wrap ((Sl.len l37) - 1) })) f58 (by rw [enc_int.len]; exact T.sz3) rfl (enc_int.one _) (Nat.le_trans hcn r17) (Nat.le_trans (Nat.le_of_eq (congrArg _ (eqL enc_int.len))) (Seg.refl.sub (S_b.seg1 x1)).2) (by rw [Nat.zero_add,S_b.wr1 x1 (IntKind.i64.wrap ((Sl.len l37) - 1))])
 have i64:=i56.up u63 r17
 have f65:=(u63.get _ (ne_len f15 q27).symm).trans f59
 have f66:=f54.up u63 (fun h=>(fun _=>(ne_len f33 q42).symm) (by simpa only [Sl.put_none,Sl.copy_none] using h))
 obtain ⟨H67,a68,f69,u70⟩:=st_ok (M:=Mt) (t:=3) (v:=(.int .i64 (0))) (c:=(cInt .i64) 0) (cs':=S_b.c (S_b.w2 ({ x1 with f_A:=IntKind.i64.wrap ((Sl.len l37) - 1) }) 0)) f62 (by rw [enc_int.len]; exact T.sz3) rfl (enc_int.one _) (Nat.le_trans hcn r17) (Nat.le_trans (Nat.le_of_eq (congrArg _ (eqL enc_int.len))) (Seg.refl.sub (S_b.seg2 ({ x1 with f_A:=IntKind.i64.wrap ((Sl.len l37) - 1) }))).2) (by rw [Nat.zero_add,S_b.wr2 ({ x1 with f_A:=IntKind.i64.wrap ((Sl.len l37) - 1) }) 0])
 have i71:=i64.up u70 r17
 have f72:=(u70.get _ (ne_len f15 q27).symm).trans f65
 have f73:=f66.up u70 (fun h=>(fun _=>(ne_len f33 q42).symm) (by simpa only [Sl.put_none,Sl.copy_none] using h))
 simp only [C.f33r3,R,Nat.reduceEqDiff,ln35,fa72_1,a61,fa72_2,a68]
 refine hJ _ ?_
 refine tk_os okM hok fun J hJ=>?_
 have a74:=ld_agg (M:=Mt) (t:=72) f69 T.ag72 (by rw [S_b.enc.len]; exact T.sz72) Seg.refl
 obtain ⟨b75,H76,a77,f78,q79,r80,x81,i82⟩:=bs_ok (M:=Mt) (t:=35) (e:=72) (c:=S_b.c) (l:=([S_b.w2 ({ x1 with f_A:=IntKind.i64.wrap ((Sl.len l37) - 1) }) 0]:List S_b)) (ps:=[(0,(vAgg (S_b.c (S_b.w2 ({ x1 with f_A:=IntKind.i64.wrap ((Sl.len l37) - 1) }) 0))))]) (n:=1) H67 i71.le Tryz.underlying35 (zs72) rfl (by simp only [S_b.enc.len,List.length_cons,List.length_nil]; decide) (fun _=>by rw [S_b.enc.len,S_b.enc.len]) S_b.enc.one rfl rfl
 have i83:=i82 _ _ i71
 have f84:=x81 _ _ f69
 have f85:=x81 _ _ f72
 have f86:=f73.ex x81
 obtain ⟨v88,ev88,hm⟩:=bind_s hm
 obtain ⟨b89,H90,a91,f92,mv93,i94,nw95⟩:=app_ok (M:=Mt) (t:=35) (u:=35) (nb:=c.nb) (x:=Sl.copy l37 x0) (y:=some ([S_b.w2 ({ x1 with f_A:=IntKind.i64.wrap ((Sl.len l37) - 1) }) 0]:List S_b)) (b:=b38) (b2:=b75) Tryz.underlying35 Tryz.underlying35 T.sz72 T.by72 zs72 (by decide) (by decide) S_b.enc.len S_b.enc.one i83.le hcn f86 f78.h ev88
 simp only [slV_put,slV_copy] at a91
 have i96:=i94 _ _ i83
 have n97:=nw95 b12 (get_lt f84) (fun h=>(fun _=>(ne_len f33 q42).symm) (by simpa only [Sl.put_none,Sl.copy_none] using h))
 have n98:=nw95 b23 (get_lt f85) (fun h=>(fun _=>(ne_len f26 q42).symm) (by simpa only [Sl.put_none,Sl.copy_none] using h))
 have f99:=mv93.2 _ _ (fun h=>((fun h=>(fun _=>(ne_len f33 q42).symm) (by simpa only [Sl.put_none,Sl.copy_none] using h)) h).symm) f84
 have f100:=mv93.2 _ _ (fun h=>((fun h=>(fun _=>(ne_len f26 q42).symm) (by simpa only [Sl.put_none,Sl.copy_none] using h)) h).symm) f85
 obtain ⟨H102,a103,f104,u105⟩:=st_ok (M:=Mt) (t:=37) (off:=0) (ro:=c.ro) (v:=(vAgg [(slV v88 b89)])) (c:=[(slV v88 b89)]) (cs':=[(slV v88 b89)]) f100 T.sz37 vAgg_cells one_sl (Nat.le_trans hcn r28) (Nat.le_refl _) rfl
 have i106:=i96.up u105 r28
 have f107:=(u105.get _ (ne_len f15 q27)).trans f99
 have f108:=f92.up u105 n98
 simp only [C.f33r4,R,Nat.reduceEqDiff,a74,a77,a91,bd_wr (M:=Mt) (x:=v88) (b:=b89) (show zc Mt.P 37 = _ from T.zc37) pl37,a103]
 refine hJ _ ?_
 refine tk_ret okM ?_
 obtain rfl:=Option.some.inj hm
 exact end_wr1 (P:=Mt.P) (rs:=[(.cell 4 37)]) (pre:=[]) (post:=[]) (x:=v88) (b:=b89) (nb:=H0.length) (.inl rfl) (by rw [← hnb]; exact f108) S_b.enc fm_nil fm_nil (resC' (v:=(vAgg [(slV v88 b89)])) rfl (ldv_of (ld_agg (M:=Mt) (t:=37) (c:=[(slV v88 b89)]) f104 T.ag37 T.sz37 Seg.refl)) resN)
def b_b7 (n:Nat):Nat → S_d → S_d → S_d → Int → Option (S_d)
 | 0,_,_,_,_=>none
 | k + 1,x39,x40,x41,x6_42=>bif decide (x6_42 < 4) then ((ck 4 x6_42).bind fun j64=>b_b7 n k ({ x39 with f_W:=x39.f_W.put j64 (orI .u64 (x39.f_W.nth j64) (x40.f_W.nth j64)) }) x40 x41 (IntKind.i64.wrap (x6_42 + 1))) else (some x39)
def b_dd (n:Nat) (x0:S_d) (x1:S_d):Option (S_d):=b_b7 n n x0 x1 S_d.zero 0
theorem w_f2 {call:CallF} (hok:CallOk Mt call) {n:Nat} {H0:Hp} {x0:S_d} {x1:S_d} {r:S_d} {ro:Nat} (hro:ro ≤ H0.length) (hm:b_dd n x0 x1 = some r) :
  Pt Mt ro 38 [(vAgg (S_d.c x0)),(vAgg (S_d.c x1))] H0 (vAgg (S_d.c (r))) H0 []:=by
 refine pt_new0 okM F38d (by exact Nat.le_of_ble_eq_true rfl) ?_ hro
 intro c hnt hnb hcr
 have hcn:c.ro ≤ c.nb:=by omega
 have iv:Iv c.nb [] H0 H0:=by rw [hnb]; exact iv_refl
 rw [show args0 [(vAgg (S_d.c x0)),(vAgg (S_d.c x1))] = [(0,(vAgg (S_d.c x0))),(1,(vAgg (S_d.c x1)))] from rfl]
 rw [b_dd] at hm
 simp only [C.f38,C.f38b0]
 refine tk_os okM hok fun J hJ=>?_
 obtain ⟨b1,H2,a3,f4,q5,r6,x7,i8⟩:=bx_ok (M:=Mt) (t:=25) (u:=(vAgg (S_d.c (x0)))) (cs:=S_d.c x0) H0 iv.le (by rw [S_d.enc.len]; exact T.sz25) vAgg_cells (S_d.enc.one _)
 have i9:=i8 _ _ iv
 obtain ⟨b11,H12,a13,f14,q15,r16,x17,i18⟩:=bx_ok (M:=Mt) (t:=25) (u:=(vAgg (S_d.c (x1)))) (cs:=S_d.c x1) H2 i9.le (by rw [S_d.enc.len]; exact T.sz25) vAgg_cells (S_d.enc.one _)
 have i19:=i18 _ _ i9
 have f20:=x17 _ _ f4
 obtain ⟨b22,H23,a24,f25,q26,r27,x28,i29⟩:=al_ok H12 25 (S_d.c S_d.zero) i19.le
 have i30:=i29 _ _ i19
 have f31:=x28 _ _ f20
 have f32:=x28 _ _ f14
 simp only [C.f38r0,R,Nat.reduceEqDiff,a3,a13,zs25,a24]
 refine hJ _ ?_
 refine tk_seq_k fun K n34 x35=>?_
 refine tk_os okM hok fun J hJ=>?_
 simp only [C.f38r1,R,Nat.reduceEqDiff]
 refine hJ _ ?_
 refine tk_block_k fun K n36 e37 x38=>?_
 refine tk_loop_k (n:=n) (fun k1 ⟨σ,H,_⟩=>∃ x39 x40 x41 x6_42,b_b7 n k1 x39 x40 x41 x6_42 = some r ∧ Lk σ 2 (.pointer (some ⟨b1,0,none⟩)) ∧ Lk σ 3 (.pointer (some ⟨b11,0,none⟩)) ∧ Lk σ 4 (.pointer (some ⟨b22,0,none⟩)) ∧ Lk σ 6 (.int .i64 x6_42) ∧ H[b1]? = some (.cells (S_d.c x39) 25) ∧ H[b11]? = some (.cells (S_d.c x40) 25) ∧ H[b22]? = some (.cells (S_d.c x41) 25) ∧ Iv c.nb [] H0 H) ?_ ?_ ?_
 ·exact ⟨x0,x1,S_d.zero,0,hm,rfl,rfl,rfl,rfl,f31,f32,f25,i30⟩
 ·rintro ⟨σ,H,d⟩ ⟨_,_,_,_,hm,_⟩
  cases hm
 ·intro k1 K n43 x44
  rintro ⟨σ54,H45,d55⟩ ⟨x39,x40,x41,x6_42,hm,h46,h47,h48,h49,f50,f51,f52,i53⟩
  rw [b_b7.eq_2] at hm
  refine tk_os okM hok fun J hJ=>?_
  simp only [C.f38r2,R,Nat.reduceEqDiff,h49]
  refine hJ _ ?_
  refine tk_seq_k fun K n56 x57=>?_
  refine tk_cond (t:=decide (x6_42 < 4)) rfl (fun g58=>?_) (fun g58=>?_)
  ·replace hm:=cond_t hm g58
   refine tk_skip okM ?_
   refine n56 _ ?_
   refine tk_seq_k fun K n59 x60=>?_
   refine tk_block_k fun K n61 e62 x63=>?_
   refine tk_os okM hok fun J hJ=>?_
   simp only [C.f38r3,R,Nat.reduceEqDiff,h49]
   refine hJ _ ?_
   refine tk_oe okM hok fun J hJ=>?_
   obtain ⟨j64,ej64,hm⟩:=bind_s hm
   have a65:=ld_one (M:=Mt) (t:=22) f50 T.ag22 ((Seg.refl.sub (S_d.seg0 x39)).sub (sgA enc_int.len (a:=x39.f_W) (ck_lt ej64).1))
   have a66:=ld_one (M:=Mt) (t:=22) f51 T.ag22 ((Seg.refl.sub (S_d.seg0 x40)).sub (sgA enc_int.len (a:=x40.f_W) (ck_lt ej64).1))
   obtain ⟨H67,a68,f69,u70⟩:=st_ok (M:=Mt) (t:=22) (v:=(.int .u64 (orI .u64 (x39.f_W.nth j64) (x40.f_W.nth j64)))) (c:=(cInt .u64) (orI .u64 (x39.f_W.nth j64) (x40.f_W.nth j64))) (cs':=S_d.c ({ x39 with f_W:=x39.f_W.put j64 (orI .u64 (x39.f_W.nth j64) (x40.f_W.nth j64)) })) f50 (by rw [enc_int.len]; exact T.sz22) rfl (enc_int.one _) (Nat.le_trans hcn r6) (Nat.le_trans (Nat.le_of_eq (congrArg _ (eqL enc_int.len))) ((Seg.refl.sub (S_d.seg0 x39)).sub (sgA enc_int.len (a:=x39.f_W) (ck_lt ej64).1)).2) (by rw [wrs_in (Seg.refl.sub (S_d.seg0 x39)) (by have:=(ck_lt ej64).1; simp only [enc_int.len,(enc_arr (n:=4) enc_int).len]; omega),wrA enc_int.len (a:=x39.f_W) (v:=orI .u64 (x39.f_W.nth j64) (x40.f_W.nth j64)) (ck_lt ej64).1,Nat.zero_add,S_d.wr0 x39 (x39.f_W.put j64 (orI .u64 (x39.f_W.nth j64) (x40.f_W.nth j64)))])
   have i71:=i53.up u70 r6
   have f72:=(u70.get _ (ne_len f4 q15).symm).trans f51
   have f73:=(u70.get _ (ne_len f20 q26).symm).trans f52
   simp only [C.f38r4,R,Nat.reduceEqDiff,s_pt,s_gt,isW,Bool.false_eq_true,if_false,if_true,reduceIte,fa25_0,h46,ia23,ej64,a65,h47,a66,a68]
   refine hJ _ ?_
   refine n61 _ ?_
   refine n59 _ ?_
   refine tk_oe okM hok fun J hJ=>?_
   simp only [C.f38r5,R,Nat.reduceEqDiff,h49]
   refine hJ _ ?_
   refine n43 _ ?_
   exact ⟨{ x39 with f_W:=x39.f_W.put j64 (orI .u64 (x39.f_W.nth j64) (x40.f_W.nth j64)) },x40,x41,IntKind.i64.wrap (x6_42 + 1),hm,h46,h47,h48,rfl,f69,f72,f73,i71⟩
  ·replace hm:=cond_f hm g58
   refine tk_exit okM ?_
   refine x57 _ _ (by simp) ?_
   refine x44 _ _ (by simp) ?_
   refine e37 _ ?_
   refine n34 _ ?_
   refine tk_os okM hok fun J hJ=>?_
   have a74:=ld_agg (M:=Mt) (t:=25) f50 T.ag25 (by rw [S_d.enc.len]; exact T.sz25) Seg.refl
   obtain ⟨H75,a76,f77,u78⟩:=st_ok (M:=Mt) (t:=25) (v:=(vAgg (S_d.c (x39)))) (c:=S_d.c x39) (cs':=S_d.c x39) f52 (by rw [S_d.enc.len]; exact T.sz25) vAgg_cells (S_d.enc.one _) (Nat.le_trans hcn r27) (le0 S_d.enc.len) (wrs_all (eqL S_d.enc.len))
   have i79:=i53.up u78 r27
   have f80:=(u78.get _ (ne_len f20 q26)).trans f50
   have f81:=(u78.get _ (ne_len f14 q26)).trans f51
   simp only [C.f38r6,R,Nat.reduceEqDiff,a74,h46,a76,h48]
   refine hJ _ ?_
   refine tk_ret okM ?_
   obtain rfl:=Option.some.inj hm
   exact end_flat (.inl rfl) (vs:=[(vAgg (S_d.c (x39)))]) (resC' (v:=(vAgg (S_d.c (x39)))) h48 (ldv_of (ld_agg (M:=Mt) (t:=25) f77 T.ag25 (by rw [S_d.enc.len]; exact T.sz25) Seg.refl)) resN) (fm_cons (flat_agg S_d.enc _) fm_nil)
def b_bL (c_I:T_b2) (c_S:T_cA) (c_G:T_bN) (n:Nat) (q1:Sl Int → Sl Int → Int → Int → Option (Int)) (x0:(Sl S_b)) (l76:Sl Int) (l78:Sl Int) (x23_80:Int) (x24_81:Int):Option (Int):=q1 l76 l78 x23_80 (IntKind.i64.wrap (x24_81 + 1))
def b_3 (c_I:T_b2) (c_S:T_cA) (c_G:T_bN) (n:Nat) (x0:(Sl S_b)):Nat → Sl Int → Sl Int → Int → Int → Option (Int)
 | 0,_,_,_,_=>none
 | k + 1,l51,l53,x23_55,x24_56=>bif decide (x24_56 < x23_55) then ((ck (Sl.l x0).length x24_56).bind fun j101=>bif (!decide (((Sl.nth x0 j101).f_Kind) = 15)) && (!decide (((Sl.nth x0 j101).f_Kind) = 16)) then (b_bL c_I c_S c_G n (b_3 c_I c_S c_G n x0 k) x0 l51 l53 x23_55 x24_56) else ((ck (Sl.l l51).length ((Sl.nth x0 j101).f_A)).bind fun j146=>(ck (Sl.l l53).length ((Sl.nth x0 j101).f_A)).bind fun j151=>bif (!decide ((Sl.nth l51 j146) = (Sl.nth l53 j151))) || (decide (255 < (Sl.nth l51 j146))) then (some 7) else (b_bL c_I c_S c_G n (b_3 c_I c_S c_G n x0 k) x0 l51 l53 x23_55 x24_56))) else (some 0)
def b_do (c_I:T_b2) (c_S:T_cA) (c_G:T_bN) (n:Nat) (x0:(Sl S_b)):Option (Int):=(c_I x0).bind fun v16=>bif !decide (v16 = 0) then (some v16) else ((c_G x0).bind fun v22=>bif !v22 then (some 6) else ((c_S x0).bind fun v26=>b_3 c_I c_S c_G n x0 n v26.1 v26.2 (Sl.len x0) 0))
theorem w_gK {call:CallF} (hok:CallOk Mt call) {n:Nat} {c_I:T_b2} (z_gf:A_e0 call c_I) {c_S:T_cA} (z_gH:A_fE call c_S) {c_G:T_bN} (z_f7:A_eK call c_G) {H0:Hp} {x0:(Sl S_b)} {b0:Nat} {r:Int} {ro:Nat} (hro:ro ≤ H0.length) (h0:SlH H0 S_b.c 72 x0 b0) (hm:b_do c_I c_S c_G n x0 = some r) :
  Pt Mt ro 40 [(vAgg [slV x0 b0])] H0 (.int .i64 (r)) H0 []:=by
 refine pt_new0 okM F40d (by exact Nat.le_of_ble_eq_true rfl) ?_ hro
 intro c hnt hnb hcr
 have hcn:c.ro ≤ c.nb:=by omega
 have l0:x0 ≠ none → b0 < c.nb:=fun h=>by rw [hnb]; exact h0.lt h
 have iv:Iv c.nb [] H0 H0:=by rw [hnb]; exact iv_refl
 rw [show args0 [(vAgg [slV x0 b0])] = [(0,(vAgg [slV x0 b0]))] from rfl]
 rw [b_do] at hm
 simp only [C.f40,C.f40b0]
 refine tk_os okM hok fun J hJ=>?_
 obtain ⟨b2,H3,a4,f5,q6,r7,x8,i9⟩:=bx_ok (M:=Mt) (t:=37) (u:=(vAgg [(slV x0 b0)])) (cs:=[(slV x0 b0)]) H0 iv.le T.sz37 vAgg_cells one_sl
 have i10:=i9 _ _ iv
 simp only [C.f40r0,R,Nat.reduceEqDiff,a4]
 refine hJ _ ?_
 refine tk_seq_k fun K n12 x13=>?_
 refine tk_os okM hok fun J hJ=>?_
 have a14:=ld_agg (M:=Mt) (t:=37) (off:=0) (c:=[(slV x0 b0)]) f5 T.ag37 T.sz37 Seg.refl
 obtain ⟨v16,ev16,hm⟩:=bind_s hm
 have a15:=z_gf c.ro H3 x0 b0 v16 (h0.iv l0 (fun _=>by simp) i10) ev16
 simp only [C.f40r1,R,Nat.reduceEqDiff,a14,c_fn F64,a15]
 refine hJ _ ?_
 refine tk_os okM hok fun J hJ=>?_
 simp only [C.f40r2,R,Nat.reduceEqDiff]
 refine hJ _ ?_
 refine tk_cond (t:=!decide (v16 = 0)) rfl (fun g17=>?_) (fun g17=>?_)
 ·replace hm:=cond_t hm g17
  refine tk_os okM hok fun J hJ=>?_
  simp only [C.f40r3,R,Nat.reduceEqDiff]
  refine hJ _ ?_
  refine tk_ret okM ?_
  refine x13 _ _ (by simp) ?_
  obtain rfl:=Option.some.inj hm
  exact end_flat (.inl rfl) (vs:=[(.int .i64 (v16))]) (resT' (v:=(.int .i64 (v16))) rfl resN) (fm_cons rfl fm_nil)
 ·replace hm:=cond_f hm g17
  refine tk_skip okM ?_
  refine n12 _ ?_
  refine tk_seq_k fun K n18 x19=>?_
  refine tk_os okM hok fun J hJ=>?_
  have a20:=ld_agg (M:=Mt) (t:=37) (off:=0) (c:=[(slV x0 b0)]) f5 T.ag37 T.sz37 Seg.refl
  obtain ⟨v22,ev22,hm⟩:=bind_s hm
  have a21:=z_f7 c.ro H3 x0 b0 v22 (h0.iv l0 (fun _=>by simp) i10) ev22
  simp only [C.f40r4,R,Nat.reduceEqDiff,a20,c_fn F68,a21]
  refine hJ _ ?_
  refine tk_cond (t:=!v22) rfl (fun g23=>?_) (fun g23=>?_)
  ·replace hm:=cond_t hm g23
   refine tk_os okM hok fun J hJ=>?_
   simp only [C.f40r5,R,Nat.reduceEqDiff]
   refine hJ _ ?_
   refine tk_ret okM ?_
   refine x19 _ _ (by simp) ?_
   obtain rfl:=Option.some.inj hm
   exact end_flat (.inl rfl) (vs:=[(.int .i64 (6))]) (resT' (v:=(.int .i64 (6))) rfl resN) (fm_cons rfl fm_nil)
  ·replace hm:=cond_f hm g23
   refine tk_skip okM ?_
   refine n18 _ ?_
   refine tk_os okM hok fun J hJ=>?_
   have a24:=ld_agg (M:=Mt) (t:=37) (off:=0) (c:=[(slV x0 b0)]) f5 T.ag37 T.sz37 Seg.refl
   obtain ⟨v26,ev26,hm⟩:=bind_s hm
   have a25:=z_gH c.ro H3 x0 b0 v26 (h0.iv l0 (fun _=>by simp) i10) ev26
   have f39:=slB_own2 (c:=(cInt .i64)) (d:=(cInt .i64)) (e:=3) (e2:=3) (x:=v26.1) (y:=v26.2) (r:=c.nb) (H:=H3) i10.le
   have n40:=slB_ne (c:=(cInt .i64)) (e:=3) (x:=v26.1) (y:=v26.2) (H:=H3)
   obtain ⟨H27,q28⟩:∃ x,x = H3 ++ (slB (cInt .i64) 3 v26.1 ++ slB (cInt .i64) 3 v26.2):=⟨_,rfl⟩
   have x38:Ex H3 H27:=by rw [q28]; exact ex_app
   have i35:Iv c.nb [] H0 H27:=by rw [q28]; exact i10.app
   obtain ⟨b31,q32⟩:∃ b,b = H3.length + (slB (cInt .i64) 3 v26.1).length:=⟨_,rfl⟩
   obtain ⟨b29,q30⟩:∃ b,b = H3.length:=⟨_,rfl⟩
   rw [← q28,← q32] at a25
   rw [← q30] at a25
   rw [← q28,← q32] at f39
   rw [← q30] at f39
   rw [← q32,← q30] at n40
   have r36:c.nb ≤ b29:=by rw [q30]; exact i10.le
   have r37:c.nb ≤ b31:=by rw [q32]; have:=i10.le; omega
   have f41:=x38 _ _ f5
   have n44:b2 ≠ b31:=by have:=get_lt f5; omega
   simp only [C.f40r6,R,Nat.reduceEqDiff,a24,c_fn F65,a25]
   refine hJ _ ?_
   refine tk_seq_k fun K n45 x46=>?_
   refine tk_os okM hok fun J hJ=>?_
   have a47:=ld_one (M:=Mt) (t:=35) (off:=0 + 0) f41 T.ag35 Seg.refl
   simp only [C.f40r7,R,Nat.reduceEqDiff,fa37_0,a47,ln35]
   refine hJ _ ?_
   refine tk_block_k fun K n48 e49 x50=>?_
   refine tk_loop_k (n:=n) (fun k1 ⟨σ,H,_⟩=>∃ l51 l53 x23_55 x24_56 b52 b54,b_3 c_I c_S c_G n x0 k1 l51 l53 x23_55 x24_56 = some r ∧ Lk σ 4 (slV l51 b52) ∧ Lk σ 5 (slV l53 b54) ∧ Lk σ 22 (slV x0 b0) ∧ Lk σ 23 (.int .i64 x23_55) ∧ Lk σ 24 (.int .i64 x24_56) ∧ SlO c.nb H (cInt .i64) 3 l51 b52 ∧ SlO c.nb H (cInt .i64) 3 l53 b54 ∧ (l51 ≠ none → l53 ≠ none → b52 ≠ b54) ∧ Iv c.nb [] H0 H) ?_ ?_ ?_
   ·exact ⟨v26.1,v26.2,Sl.len x0,0,b29,b31,hm,rfl,rfl,rfl,rfl,rfl,f39.1,f39.2,n40,i35⟩
   ·rintro ⟨σ,H,d⟩ ⟨_,_,_,_,_,_,hm,_⟩
    cases hm
   ·intro k1 K n57 x58
    rintro ⟨σ71,H59,d72⟩ ⟨l51,l53,x23_55,x24_56,b52,b54,hm,h62,h63,h64,h65,h66,f67,f68,n69,i70⟩
    rw [b_3.eq_2] at hm
    refine tk_os okM hok fun J hJ=>?_
    simp only [C.f40r8,R,Nat.reduceEqDiff,h66,h65]
    refine hJ _ ?_
    refine tk_seq_k fun K n73 x74=>?_
    refine tk_cond (t:=decide (x24_56 < x23_55)) rfl (fun g75=>?_) (fun g75=>?_)
    ·replace hm:=cond_t hm g75
     refine tk_skip okM ?_
     refine n73 _ ?_
     refine tk_seq_j (fun ⟨σ,H,_⟩=>∃ l76 l78 x23_80 x24_81 b77 b79,b_bL c_I c_S c_G n (b_3 c_I c_S c_G n x0 k1) x0 l76 l78 x23_80 x24_81 = some r ∧ Lk σ 4 (slV l76 b77) ∧ Lk σ 5 (slV l78 b79) ∧ Lk σ 22 (slV x0 b0) ∧ Lk σ 23 (.int .i64 x23_80) ∧ Lk σ 24 (.int .i64 x24_81) ∧ SlO c.nb H (cInt .i64) 3 l76 b77 ∧ SlO c.nb H (cInt .i64) 3 l78 b79 ∧ (l76 ≠ none → l78 ≠ none → b77 ≠ b79) ∧ Iv c.nb [] H0 H) ?_ ?_
     ·skip
      rintro ⟨σ94,H82,d95⟩ ⟨l76,l78,x23_80,x24_81,b77,b79,hm,h85,h86,h87,h88,h89,f90,f91,n92,i93⟩
      rw [b_bL] at hm
      refine tk_oe okM hok fun J hJ=>?_
      simp only [C.f40r13,R,Nat.reduceEqDiff,h89]
      refine hJ _ ?_
      refine n57 _ ?_
      exact ⟨l76,l78,x23_80,IntKind.i64.wrap (x24_81 + 1),b77,b79,hm,h85,h86,h87,h88,rfl,f90,f91,n92,i93⟩
     ·refine fun K n96 x97=>?_
      refine tk_block_k fun K n98 e99 x100=>?_
      refine tk_os okM hok fun J hJ=>?_
      obtain ⟨j101,ej101,hm⟩:=bind_s hm
      obtain ⟨mm102,k103⟩:=(h0.iv l0 (fun _=>by simp) i70).blk (ck_lt ej101).1
      have a104:=lds_agg (M:=Mt) (t:=72) k103 T.ag72 (by rw [S_b.enc.len]; exact T.sz72) (seg_sl S_b.enc.len mm102 (ck_lt ej101).1)
      obtain ⟨b105,H106,a107,f108,q109,r110,x111,i112⟩:=al_ok H59 72 (S_b.c S_b.zero) i70.le
      have i113:=i112 _ _ i70
      have f114:=f67.ex x111
      have f115:=f68.ex x111
      obtain ⟨H117,a118,f119,u120⟩:=st_ok (M:=Mt) (t:=72) (v:=(vAgg (S_b.c (Sl.nth x0 j101)))) (c:=S_b.c (Sl.nth x0 j101)) (cs':=S_b.c (Sl.nth x0 j101)) f108 (by rw [S_b.enc.len]; exact T.sz72) vAgg_cells (S_b.enc.one _) (Nat.le_trans hcn r110) (le0 S_b.enc.len) (wrs_all (eqL S_b.enc.len))
      have i121:=i113.up u120 r110
      have f122:=f114.up u120 (f67.h.ne q109)
      have f123:=f115.up u120 (f68.h.ne q109)
      simp only [C.f40r9,R,Nat.reduceEqDiff,ia35,ej101,h64,h66,a104,zs72,a107,a118]
      refine hJ _ ?_
      refine tk_seq_k fun K n124 x125=>?_
      refine tk_os okM hok fun J hJ=>?_
      have a126:=ld_one (M:=Mt) (t:=3) f119 T.ag3 (Seg.refl.sub (S_b.seg0 (Sl.nth x0 j101)))
      refine rn_k (fun ⟨σ,H,_⟩=>Lk σ 4 (slV l51 b52) ∧ Lk σ 5 (slV l53 b54) ∧ Lk σ 7 (.pointer (some ⟨b105,0,none⟩)) ∧ Lk σ 22 (slV x0 b0) ∧ Lk σ 23 (.int .i64 (x23_55)) ∧ Lk σ 24 (.int .i64 (x24_56)) ∧ Lk σ 35 (.bool ((!decide (((Sl.nth x0 j101).f_Kind) = 15)) && (!decide (((Sl.nth x0 j101).f_Kind) = 16)))) ∧ SlO c.nb H (cInt .i64) 3 l51 b52 ∧ SlO c.nb H (cInt .i64) 3 l53 b54 ∧ H[b105]? = some (.cells (S_b.c (Sl.nth x0 j101)) 72) ∧ Iv c.nb [] H0 H) (fun J hJ=>?_) ?_
      ·skip
       cases g140:!decide (((Sl.nth x0 j101).f_Kind) = 15)
       ·skip
        simp only [C.f40r10,R,Nat.reduceEqDiff,fa72_0,a126,g140]
        refine hJ _ ?_
        exact ⟨h62,h63,rfl,h64,h65,h66,(by first | rfl | (simp only [g140]; rfl) | simp only [g140,Lk,RB,Nat.reduceEqDiff,not_false_eq_true]),f122,f123,f119,i121⟩
       ·skip
        have a141:=ld_one (M:=Mt) (t:=3) f119 T.ag3 (Seg.refl.sub (S_b.seg0 (Sl.nth x0 j101)))
        simp only [C.f40r10,R,Nat.reduceEqDiff,fa72_0,a126,g140,a141]
        refine hJ _ ?_
        exact ⟨h62,h63,rfl,h64,h65,h66,(by first | rfl | (simp only [g140]; rfl) | simp only [g140,Lk,RB,Nat.reduceEqDiff,not_false_eq_true]),f122,f123,f119,i121⟩
      rintro ⟨σ142,H128,d143⟩ ⟨h129,h130,h131,h132,h133,h134,h135,f136,f137,f138,i139⟩
      refine hJ _ ?_
      refine tk_cond (t:=(!decide (((Sl.nth x0 j101).f_Kind) = 15)) && (!decide (((Sl.nth x0 j101).f_Kind) = 16))) h135 (fun g144=>?_) (fun g144=>?_)
      ·replace hm:=cond_t hm g144
       refine tk_exit okM ?_
       refine x125 _ _ (by simp) ?_
       refine e99 _ ?_
       refine n96 _ ?_
       exact ⟨l51,l53,x23_55,x24_56,b52,b54,hm,h129,h130,h132,h133,h134,f136,f137,n69,i139⟩
      ·replace hm:=cond_f hm g144
       refine tk_skip okM ?_
       refine n124 _ ?_
       refine tk_os okM hok fun J hJ=>?_
       have a145:=ld_one (M:=Mt) (t:=3) f138 T.ag3 (Seg.refl.sub (S_b.seg1 (Sl.nth x0 j101)))
       obtain ⟨j146,ej146,hm⟩:=bind_s hm
       obtain ⟨mm147,k148⟩:=f136.h.blk (ck_lt ej146).1
       have a149:=lds_one (M:=Mt) (t:=3) k148 T.ag3 (seg_sl enc_int.len mm147 (ck_lt ej146).1)
       have a150:=ld_one (M:=Mt) (t:=3) f138 T.ag3 (Seg.refl.sub (S_b.seg1 (Sl.nth x0 j101)))
       obtain ⟨j151,ej151,hm⟩:=bind_s hm
       obtain ⟨mm152,k153⟩:=f137.h.blk (ck_lt ej151).1
       have a154:=lds_one (M:=Mt) (t:=3) k153 T.ag3 (seg_sl enc_int.len mm152 (ck_lt ej151).1)
       refine rn_k (fun ⟨σ,H,_⟩=>Lk σ 4 (slV l51 b52) ∧ Lk σ 5 (slV l53 b54) ∧ Lk σ 22 (slV x0 b0) ∧ Lk σ 23 (.int .i64 (x23_55)) ∧ Lk σ 24 (.int .i64 (x24_56)) ∧ Lk σ 54 (.bool ((!decide ((Sl.nth l51 j146) = (Sl.nth l53 j151))) || (decide (255 < (Sl.nth l51 j146))))) ∧ SlO c.nb H (cInt .i64) 3 l51 b52 ∧ SlO c.nb H (cInt .i64) 3 l53 b54 ∧ Iv c.nb [] H0 H) (fun J hJ=>?_) ?_
       ·skip
        cases g169:!decide ((Sl.nth l51 j146) = (Sl.nth l53 j151))
        ·skip
         have a170:=ld_one (M:=Mt) (t:=3) f138 T.ag3 (Seg.refl.sub (S_b.seg1 (Sl.nth x0 j101)))
         obtain ⟨mm171,k172⟩:=f136.h.blk (ck_lt ej146).1
         have a173:=lds_one (M:=Mt) (t:=3) k172 T.ag3 (seg_sl enc_int.len mm171 (ck_lt ej146).1)
         simp only [C.f40r11,R,Nat.reduceEqDiff,s_pt,s_gt,isW,Bool.false_eq_true,if_false,if_true,reduceIte,h129,fa72_1,h131,a145,ia100,ej146,a149,h130,a150,ej151,a154,g169,a170,a173]
         refine hJ _ ?_
         exact ⟨h129,h130,h132,h133,h134,(by first | rfl | (simp only [g169]; rfl) | simp only [g169,Lk,RB,Nat.reduceEqDiff,not_false_eq_true]),f136,f137,i139⟩
        ·skip
         simp only [C.f40r11,R,Nat.reduceEqDiff,s_pt,s_gt,isW,Bool.false_eq_true,if_false,if_true,reduceIte,h129,fa72_1,h131,a145,ia100,ej146,a149,h130,a150,ej151,a154,g169]
         refine hJ _ ?_
         exact ⟨h129,h130,h132,h133,h134,(by first | rfl | (simp only [g169]; rfl) | simp only [g169,Lk,RB,Nat.reduceEqDiff,not_false_eq_true]),f136,f137,i139⟩
       rintro ⟨σ174,H159,d175⟩ ⟨h160,h161,h162,h163,h164,h165,f166,f167,i168⟩
       refine hJ _ ?_
       refine tk_cond (t:=(!decide ((Sl.nth l51 j146) = (Sl.nth l53 j151))) || (decide (255 < (Sl.nth l51 j146)))) h165 (fun g176=>?_) (fun g176=>?_)
       ·replace hm:=cond_t hm g176
        refine tk_os okM hok fun J hJ=>?_
        simp only [C.f40r12,R,Nat.reduceEqDiff]
        refine hJ _ ?_
        refine tk_ret okM ?_
        refine x100 _ _ (by simp) (by simp) ?_
        refine x97 _ _ (by simp) ?_
        refine x58 _ _ (by simp) ?_
        refine x50 _ _ (by simp) (by simp) ?_
        refine x46 _ _ (by simp) ?_
        obtain rfl:=Option.some.inj hm
        exact end_flat (.inl rfl) (vs:=[(.int .i64 (7))]) (resT' (v:=(.int .i64 (7))) rfl resN) (fm_cons rfl fm_nil)
       ·replace hm:=cond_f hm g176
        refine tk_skip okM ?_
        refine n98 _ ?_
        refine n96 _ ?_
        exact ⟨l51,l53,x23_55,x24_56,b52,b54,hm,h160,h161,h162,h163,h164,f166,f167,n69,i168⟩
    ·replace hm:=cond_f hm g75
     refine tk_exit okM ?_
     refine x74 _ _ (by simp) ?_
     refine x58 _ _ (by simp) ?_
     refine e49 _ ?_
     refine n45 _ ?_
     refine tk_os okM hok fun J hJ=>?_
     simp only [C.f40r14,R,Nat.reduceEqDiff]
     refine hJ _ ?_
     refine tk_ret okM ?_
     obtain rfl:=Option.some.inj hm
     exact end_flat (.inl rfl) (vs:=[(.int .i64 (0))]) (resT' (v:=(.int .i64 (0))) rfl resN) (fm_cons rfl fm_nil)
def b_bs (c_N:T_bW) (n:Nat):Nat → Int → (Arr Int 4) → Int → Option (Int)
 | 0,_,_,_=>none
 | k + 1,x3_17,x7_18,x8_19=>bif decide (x8_19 < 4) then ((ck 4 x8_19).bind fun j37=>(c_N (x7_18.nth j37)).bind fun v39=>b_bs c_N n k (IntKind.i64.wrap (x3_17 + v39)) x7_18 (IntKind.i64.wrap (x8_19 + 1))) else (some x3_17)
def b_cm (c_N:T_bW) (n:Nat) (x0:S_d):Option (Int):=b_bs c_N n n 0 x0.f_W 0
theorem w_fD {call:CallF} (hok:CallOk Mt call) {n:Nat} {c_N:T_bW} (z_eP:A_du call c_N) {H0:Hp} {x0:S_d} {r:Int} {ro:Nat} (hro:ro ≤ H0.length) (hm:b_cm c_N n x0 = some r) :
  Pt Mt ro 44 [(vAgg (S_d.c x0))] H0 (.int .i64 (r)) H0 []:=by
 refine pt_new0 okM F44d (by exact Nat.le_of_ble_eq_true rfl) ?_ hro
 intro c hnt hnb hcr
 have hcn:c.ro ≤ c.nb:=by omega
 have iv:Iv c.nb [] H0 H0:=by rw [hnb]; exact iv_refl
 rw [show args0 [(vAgg (S_d.c x0))] = [(0,(vAgg (S_d.c x0)))] from rfl]
 rw [b_cm] at hm
 simp only [C.f44,C.f44b0]
 refine tk_os okM hok fun J hJ=>?_
 obtain ⟨b1,H2,a3,f4,q5,r6,x7,i8⟩:=bx_ok (M:=Mt) (t:=25) (u:=(vAgg (S_d.c (x0)))) (cs:=S_d.c x0) H0 iv.le (by rw [S_d.enc.len]; exact T.sz25) vAgg_cells (S_d.enc.one _)
 have i9:=i8 _ _ iv
 simp only [C.f44r0,R,Nat.reduceEqDiff,a3]
 refine hJ _ ?_
 refine tk_os okM hok fun J hJ=>?_
 simp only [C.f44r1,R,Nat.reduceEqDiff]
 refine hJ _ ?_
 refine tk_seq_k fun K n11 x12=>?_
 refine tk_os okM hok fun J hJ=>?_
 have a13:=ld_agg (M:=Mt) (t:=23) f4 T.ag23 (by rw [(enc_arr (n:=4) enc_int).len]; exact T.sz23) (Seg.refl.sub (S_d.seg0 x0))
 simp only [C.f44r2,R,Nat.reduceEqDiff,fa25_0,a13]
 refine hJ _ ?_
 refine tk_block_k fun K n14 e15 x16=>?_
 refine tk_loop_k (n:=n) (fun k1 ⟨σ,H,_⟩=>∃ x3_17 x7_18 x8_19,b_bs c_N n k1 x3_17 x7_18 x8_19 = some r ∧ Lk σ 3 (.int .i64 x3_17) ∧ Lk σ 7 (vAgg ((cArr (n:=4) (cInt .u64)) x7_18)) ∧ Lk σ 8 (.int .i64 x8_19) ∧ Iv c.nb [] H0 H) ?_ ?_ ?_
 ·exact ⟨0,x0.f_W,0,hm,rfl,rfl,rfl,i9⟩
 ·rintro ⟨σ,H,d⟩ ⟨_,_,_,hm,_⟩
  cases hm
 ·intro k1 K n20 x21
  rintro ⟨σ27,H22,d28⟩ ⟨x3_17,x7_18,x8_19,hm,h23,h24,h25,i26⟩
  rw [b_bs.eq_2] at hm
  refine tk_os okM hok fun J hJ=>?_
  simp only [C.f44r3,R,Nat.reduceEqDiff,h25]
  refine hJ _ ?_
  refine tk_seq_k fun K n29 x30=>?_
  refine tk_cond (t:=decide (x8_19 < 4)) rfl (fun g31=>?_) (fun g31=>?_)
  ·replace hm:=cond_t hm g31
   refine tk_skip okM ?_
   refine n29 _ ?_
   refine tk_seq_k fun K n32 x33=>?_
   refine tk_block_k fun K n34 e35 x36=>?_
   refine tk_os okM hok fun J hJ=>?_
   obtain ⟨j37,ej37,hm⟩:=bind_s hm
   simp only [C.f44r4,R,Nat.reduceEqDiff,ix23,ej37,h24,h25]
   refine hJ _ ?_
   refine tk_oe okM hok fun J hJ=>?_
   obtain ⟨v39,ev39,hm⟩:=bind_s hm
   have a38:=z_eP c.ro H22 (x7_18.nth j37) v39 ev39
   simp only [C.f44r5,R,Nat.reduceEqDiff,h23,c_fn F72,a38]
   refine hJ _ ?_
   refine n34 _ ?_
   refine n32 _ ?_
   refine tk_oe okM hok fun J hJ=>?_
   simp only [C.f44r6,R,Nat.reduceEqDiff,h25]
   refine hJ _ ?_
   refine n20 _ ?_
   exact ⟨IntKind.i64.wrap (x3_17 + v39),x7_18,IntKind.i64.wrap (x8_19 + 1),hm,rfl,h24,rfl,i26⟩
  ·replace hm:=cond_f hm g31
   refine tk_exit okM ?_
   refine x30 _ _ (by simp) ?_
   refine x21 _ _ (by simp) ?_
   refine e15 _ ?_
   refine n11 _ ?_
   refine tk_os okM hok fun J hJ=>?_
   simp only [C.f44r7,R,Nat.reduceEqDiff,h23]
   refine hJ _ ?_
   refine tk_ret okM ?_
   obtain rfl:=Option.some.inj hm
   exact end_flat (.inl rfl) (vs:=[(.int .i64 (x3_17))]) (resT' (v:=(.int .i64 (x3_17))) rfl resN) (fm_cons rfl fm_nil)
def b_z (c_m:T_bM) (c_h:T_M) (c_r:T_cl) (c_q:T_cj) (c_s:T_ck) (c_j:T_bD) (n:Nat) (q1:Sl S_a → Int → Int → Option ((Sl S_a))) (x0:(Sl S_b)) (l50:Sl S_a) (x12_52:Int) (x13_53:Int):Option ((Sl S_a)):=q1 l50 x12_52 (IntKind.i64.wrap (x13_53 + 1))
def b_bq (c_m:T_bM) (c_h:T_M) (c_r:T_cl) (c_q:T_cj) (c_s:T_ck) (c_j:T_bD) (n:Nat) (q1:Sl S_a → Int → Int → Option ((Sl S_a))) (x0:(Sl S_b)) (l193:Sl S_a) (x4_195:Int) (x196:S_b) (x12_197:Int) (x13_198:Int) (x95_199:Bool):Option ((Sl S_a)):=bif x95_199 then ((ck (Sl.l l193).length x196.f_A).bind fun j217=>(ck (Sl.l l193).length x4_195).bind fun j221=>b_z c_m c_h c_r c_q c_s c_j n q1 x0 (Sl.put l193 j221 (Sl.nth l193 j217)) x12_197 x13_198) else ((c_h).bind fun v230=>(ck (Sl.l l193).length x4_195).bind fun j231=>b_z c_m c_h c_r c_q c_s c_j n q1 x0 (Sl.put l193 j231 v230) x12_197 x13_198)
def b_A (c_m:T_bM) (c_h:T_M) (c_r:T_cl) (c_q:T_cj) (c_s:T_ck) (c_j:T_bD) (n:Nat) (x0:(Sl S_b)):Nat → Sl S_a → Int → Int → Option ((Sl S_a))
 | 0,_,_,_=>none
 | k + 1,l31,x12_33,x13_34=>bif decide (x13_34 < x12_33) then ((ck (Sl.l x0).length x13_34).bind fun j69=>bif decide (((Sl.nth x0 j69).f_Kind) = 1) then ((c_m ((Sl.nth x0 j69).f_Set)).bind fun v97=>(ck (Sl.l l31).length x13_34).bind fun j98=>b_z c_m c_h c_r c_q c_s c_j n (b_A c_m c_h c_r c_q c_s c_j n x0 k) x0 (Sl.put l31 j98 v97) x12_33 x13_34) else (bif decide (((Sl.nth x0 j69).f_Kind) = 2) then ((c_h).bind fun v108=>(ck (Sl.l l31).length x13_34).bind fun j109=>b_z c_m c_h c_r c_q c_s c_j n (b_A c_m c_h c_r c_q c_s c_j n x0 k) x0 (Sl.put (Sl.put l31 j109 v108) j109 (S_a.w0 (Sl.nth (Sl.put l31 j109 v108) j109) (S_c.w2 ((Sl.nth (Sl.put l31 j109 v108) j109).f_Facts) true))) x12_33 x13_34) else (bif decide (((Sl.nth x0 j69).f_Kind) = 12) then ((c_r).bind fun v125=>(ck (Sl.l l31).length x13_34).bind fun j126=>b_z c_m c_h c_r c_q c_s c_j n (b_A c_m c_h c_r c_q c_s c_j n x0 k) x0 (Sl.put l31 j126 (({ S_a.zero with f_Facts:=({ S_c.zero with f_First:=v125,f_Open:=true }:S_c) }:S_a))) x12_33 x13_34) else (bif decide (((Sl.nth x0 j69).f_Kind) = 8) then ((ck (Sl.l l31).length ((Sl.nth x0 j69).f_A)).bind fun j136=>(ck (Sl.l l31).length ((Sl.nth x0 j69).f_B)).bind fun j141=>(c_q (Sl.nth l31 j136) (Sl.nth l31 j141)).bind fun v146=>(ck (Sl.l l31).length x13_34).bind fun j147=>b_z c_m c_h c_r c_q c_s c_j n (b_A c_m c_h c_r c_q c_s c_j n x0 k) x0 (Sl.put l31 j147 v146) x12_33 x13_34) else (bif decide (((Sl.nth x0 j69).f_Kind) = 9) then ((ck (Sl.l l31).length ((Sl.nth x0 j69).f_A)).bind fun j157=>(ck (Sl.l l31).length ((Sl.nth x0 j69).f_B)).bind fun j162=>(c_s (Sl.nth l31 j157) (Sl.nth l31 j162)).bind fun v167=>(ck (Sl.l l31).length x13_34).bind fun j168=>b_z c_m c_h c_r c_q c_s c_j n (b_A c_m c_h c_r c_q c_s c_j n x0 k) x0 (Sl.put l31 j168 v167) x12_33 x13_34) else (bif decide (((Sl.nth x0 j69).f_Kind) = 10) then ((ck (Sl.l l31).length ((Sl.nth x0 j69).f_A)).bind fun j179=>(c_j (Sl.nth x0 j69) (Sl.nth l31 j179)).bind fun v184=>(ck (Sl.l l31).length x13_34).bind fun j185=>b_z c_m c_h c_r c_q c_s c_j n (b_A c_m c_h c_r c_q c_s c_j n x0 k) x0 (Sl.put l31 j185 v184) x12_33 x13_34) else (bif decide (((Sl.nth x0 j69).f_Kind) = 11) then (b_bq c_m c_h c_r c_q c_s c_j n (b_A c_m c_h c_r c_q c_s c_j n x0 k) x0 l31 x13_34 (Sl.nth x0 j69) x12_33 x13_34 (decide (((Sl.nth x0 j69).f_Kind) = 11))) else (b_bq c_m c_h c_r c_q c_s c_j n (b_A c_m c_h c_r c_q c_s c_j n x0 k) x0 l31 x13_34 (Sl.nth x0 j69) x12_33 x13_34 (decide (((Sl.nth x0 j69).f_Kind) = 17)))))))))) else (some l31)
def b_dq (c_m:T_bM) (c_h:T_M) (c_r:T_cl) (c_q:T_cj) (c_s:T_ck) (c_j:T_bD) (n:Nat) (x0:(Sl S_b)):Option ((Sl S_a)):=(Sl.make 64 (Sl.len x0) (Sl.len x0) (S_a.zero:S_a)).bind fun l13=>b_A c_m c_h c_r c_q c_s c_j n x0 n l13 (Sl.len x0) 0
theorem w_gE {call:CallF} (hok:CallOk Mt call) {n:Nat} {c_m:T_bM} (z_fY:A_eJ call c_m) {c_h:T_M} (z_cd:A_c6 call c_h) {c_r:T_cl} (z_gv:A_ff call c_r) {c_q:T_cj} (z_gn:A_fd call c_q) {c_s:T_ck} (z_gy:A_fk call c_s) {c_j:T_bD} (z_fS:A_ew call c_j) {H0:Hp} {x0:(Sl S_b)} {b0:Nat} {r:(Sl S_a)} {ro:Nat} (hro:ro ≤ H0.length) (h0:SlH H0 S_b.c 72 x0 b0) (hm:b_dq c_m c_h c_r c_q c_s c_j n x0 = some r) (hG1:TabH1 H0) :
  Pt Mt ro 57 [(vAgg [slV x0 b0])] H0 (slV r H0.length) (H0 ++ slB S_a.c 107 r) []:=by
 refine pt_new okM F57d (by exact Nat.le_of_ble_eq_true rfl) ?_ hro
 intro c hnt hnb hcr
 have hcn:c.ro ≤ c.nb:=by omega
 have l0:x0 ≠ none → b0 < c.nb:=fun h=>by rw [hnb]; exact h0.lt h
 have iv:Iv c.nb [] H0 H0:=by rw [hnb]; exact iv_refl
 rw [show args0 [(vAgg [slV x0 b0])] = [(0,(vAgg [slV x0 b0]))] from rfl]
 rw [b_dq] at hm
 simp only [C.f57,C.f57b0]
 refine tk_os okM hok fun J hJ=>?_
 obtain ⟨b2,H3,a4,f5,q6,r7,x8,i9⟩:=bx_ok (M:=Mt) (t:=37) (u:=(vAgg [(slV x0 b0)])) (cs:=[(slV x0 b0)]) H0 iv.le T.sz37 vAgg_cells one_sl
 have i10:=i9 _ _ iv
 simp only [C.f57r0,R,Nat.reduceEqDiff,a4]
 refine hJ _ ?_
 refine tk_os okM hok fun J hJ=>?_
 have a12:=ld_one (M:=Mt) (t:=35) (off:=0 + 0) f5 T.ag35 Seg.refl
 obtain ⟨l13,el13,hm⟩:=bind_s hm
 obtain ⟨b14,H15,a16,f17,q18,r19,x20,i21⟩:=mk_ok (M:=Mt) (t:=108) (e:=107) (k:=.i64) (k':=.i64) H3 i10.le Tryz.underlying108 T.by107 zs107 el13
 have i22:=i21 _ _ i10
 have f23:=x20 _ _ f5
 simp only [C.f57r1,R,Nat.reduceEqDiff,fa37_0,a12,ln35,o_makeSlice,a16]
 refine hJ _ ?_
 refine tk_seq_k fun K n25 x26=>?_
 refine tk_os okM hok fun J hJ=>?_
 have a27:=ld_one (M:=Mt) (t:=35) (off:=0 + 0) f23 T.ag35 Seg.refl
 simp only [C.f57r2,R,Nat.reduceEqDiff,fa37_0,a27,ln35]
 refine hJ _ ?_
 refine tk_block_k fun K n28 e29 x30=>?_
 refine tk_loop_k (n:=n) (fun k1 ⟨σ,H,_⟩=>∃ l31 x12_33 x13_34 b32,b_A c_m c_h c_r c_q c_s c_j n x0 k1 l31 x12_33 x13_34 = some r ∧ Lk σ 3 (slV l31 b32) ∧ Lk σ 11 (slV x0 b0) ∧ Lk σ 12 (.int .i64 x12_33) ∧ Lk σ 13 (.int .i64 x13_34) ∧ SlO c.nb H S_a.c 107 l31 b32 ∧ Iv c.nb [] H0 H) ?_ ?_ ?_
 ·exact ⟨l13,Sl.len x0,0,b14,hm,rfl,rfl,rfl,rfl,f17,i22⟩
 ·rintro ⟨σ,H,d⟩ ⟨_,_,_,_,hm,_⟩
  cases hm
 ·intro k1 K n35 x36
  rintro ⟨σ45,H37,d46⟩ ⟨l31,x12_33,x13_34,b32,hm,h39,h40,h41,h42,f43,i44⟩
  rw [b_A.eq_2] at hm
  refine tk_os okM hok fun J hJ=>?_
  simp only [C.f57r3,R,Nat.reduceEqDiff,h42,h41]
  refine hJ _ ?_
  refine tk_seq_k fun K n47 x48=>?_
  refine tk_cond (t:=decide (x13_34 < x12_33)) rfl (fun g49=>?_) (fun g49=>?_)
  ·replace hm:=cond_t hm g49
   refine tk_skip okM ?_
   refine n47 _ ?_
   refine tk_seq_j (fun ⟨σ,H,_⟩=>∃ l50 x12_52 x13_53 b51,b_z c_m c_h c_r c_q c_s c_j n (b_A c_m c_h c_r c_q c_s c_j n x0 k1) x0 l50 x12_52 x13_53 = some r ∧ Lk σ 3 (slV l50 b51) ∧ Lk σ 11 (slV x0 b0) ∧ Lk σ 12 (.int .i64 x12_52) ∧ Lk σ 13 (.int .i64 x13_53) ∧ SlO c.nb H S_a.c 107 l50 b51 ∧ Iv c.nb [] H0 H) ?_ ?_
   ·skip
    rintro ⟨σ62,H54,d63⟩ ⟨l50,x12_52,x13_53,b51,hm,h56,h57,h58,h59,f60,i61⟩
    rw [b_z] at hm
    refine tk_oe okM hok fun J hJ=>?_
    simp only [C.f57r23,R,Nat.reduceEqDiff,h59]
    refine hJ _ ?_
    refine n35 _ ?_
    exact ⟨l50,x12_52,IntKind.i64.wrap (x13_53 + 1),b51,hm,h56,h57,h58,rfl,f60,i61⟩
   ·refine fun K n64 x65=>?_
    refine tk_block_k fun K n66 e67 x68=>?_
    refine tk_os okM hok fun J hJ=>?_
    obtain ⟨j69,ej69,hm⟩:=bind_s hm
    obtain ⟨mm70,k71⟩:=(h0.iv l0 (fun _=>by simp) i44).blk (ck_lt ej69).1
    have a72:=lds_agg (M:=Mt) (t:=72) k71 T.ag72 (by rw [S_b.enc.len]; exact T.sz72) (seg_sl S_b.enc.len mm70 (ck_lt ej69).1)
    obtain ⟨b73,H74,a75,f76,q77,r78,x79,i80⟩:=al_ok H37 72 (S_b.c S_b.zero) i44.le
    have i81:=i80 _ _ i44
    have f82:=f43.ex x79
    obtain ⟨H84,a85,f86,u87⟩:=st_ok (M:=Mt) (t:=72) (v:=(vAgg (S_b.c (Sl.nth x0 j69)))) (c:=S_b.c (Sl.nth x0 j69)) (cs':=S_b.c (Sl.nth x0 j69)) f76 (by rw [S_b.enc.len]; exact T.sz72) vAgg_cells (S_b.enc.one _) (Nat.le_trans hcn r78) (le0 S_b.enc.len) (wrs_all (eqL S_b.enc.len))
    have i88:=i81.up u87 r78
    have f89:=f82.up u87 (f43.h.ne q77)
    simp only [C.f57r4,R,Nat.reduceEqDiff,h42,ia35,ej69,h40,a72,zs72,a75,a85]
    refine hJ _ ?_
    refine tk_os okM hok fun J hJ=>?_
    have a90:=ld_one (M:=Mt) (t:=3) f86 T.ag3 (Seg.refl.sub (S_b.seg0 (Sl.nth x0 j69)))
    simp only [C.f57r5,R,Nat.reduceEqDiff,fa72_0,a90]
    refine hJ _ ?_
    refine tk_block_k fun K n91 e92 x93=>?_
    refine tk_os okM hok fun J hJ=>?_
    simp only [C.f57r7,R,Nat.reduceEqDiff]
    refine hJ _ ?_
    refine tk_cond (t:=decide (((Sl.nth x0 j69).f_Kind) = 1)) rfl (fun g94=>?_) (fun g94=>?_)
    ·replace hm:=cond_t hm g94
     refine tk_oe okM hok fun J hJ=>?_
     have a95:=ld_agg (M:=Mt) (t:=25) f86 T.ag25 (by rw [S_d.enc.len]; exact T.sz25) (Seg.refl.sub (S_b.seg3 (Sl.nth x0 j69)))
     obtain ⟨v97,ev97,hm⟩:=bind_s hm
     have a96:=z_fY c.ro H84 ((Sl.nth x0 j69).f_Set) v97 (tabIv1 i88 hnb hG1) ev97
     obtain ⟨j98,ej98,hm⟩:=bind_s hm
     obtain ⟨H99,a100,f101,u102⟩:=st_sl0 (M:=Mt) (t:=107) (v:=(vAgg (S_a.c (v97)))) (y:=v97) S_a.enc.len f89 (ck_lt ej98).1 (by rw [S_a.enc.len]; exact T.sz107) vAgg_cells (S_a.enc.one _) hcn
     have i103:=i88.up u102 (f89.some (ck_lt ej98).1).1
     have z104:l31 ≠ none:=sl_some (j:=j98) (ck_lt ej98).1
     have f105:=(u102.get _ ((f43.h.ne q77) z104).symm).trans f86
     simp only [C.f57r8,R,Nat.reduceEqDiff,h39,fa72_3,a95,c_fn F86,a96,ia108,ej98,a100]
     refine hJ _ ?_
     refine n91 _ ?_
     refine n66 _ ?_
     refine n64 _ ?_
     exact ⟨Sl.put l31 j98 v97,x12_33,x13_34,b32,hm,(lk_eq (by simp only [slV_put,slV_copy]) h39),h40,h41,h42,f101,i103⟩
    ·replace hm:=cond_f hm g94
     refine tk_os okM hok fun J hJ=>?_
     simp only [C.f57r9,R,Nat.reduceEqDiff]
     refine hJ _ ?_
     refine tk_cond (t:=decide (((Sl.nth x0 j69).f_Kind) = 2)) rfl (fun g106=>?_) (fun g106=>?_)
     ·replace hm:=cond_t hm g106
      refine tk_os okM hok fun J hJ=>?_
      obtain ⟨v108,ev108,hm⟩:=bind_s hm
      have a107:=z_cd c.ro H84  v108 ev108
      obtain ⟨j109,ej109,hm⟩:=bind_s hm
      obtain ⟨H110,a111,f112,u113⟩:=st_sl0 (M:=Mt) (t:=107) (v:=(vAgg (S_a.c (v108)))) (y:=v108) S_a.enc.len f89 (ck_lt ej109).1 (by rw [S_a.enc.len]; exact T.sz107) vAgg_cells (S_a.enc.one _) hcn
      have i114:=i88.up u113 (f89.some (ck_lt ej109).1).1
      have z115:l31 ≠ none:=sl_some (j:=j109) (ck_lt ej109).1
      have f116:=(u113.get _ ((f43.h.ne q77) z115).symm).trans f86
      simp only [C.f57r10,R,Nat.reduceEqDiff,h39,c_fn F87,a107,ia108,ej109,a111]
      refine hJ _ ?_
      refine tk_oe okM hok fun J hJ=>?_
      obtain ⟨H117,a118,f119,u120⟩:∃ H',stP Mt c.ro H110 4 (.pointer (some ⟨b32,j109 * 9 + 0 + 5,none⟩)) (.bool (true)) = some H' ∧ SlO c.nb H' S_a.c 107 (Sl.put (Sl.put l31 j109 v108) j109 (S_a.w0 (Sl.nth (Sl.put l31 j109 v108) j109) (S_c.w2 ((Sl.nth (Sl.put l31 j109 v108) j109).f_Facts) true))) b32 ∧ Up b32 H110 H':=st_sl (M:=Mt) (t:=4) (o:=0 + 0 + 5) (v:=(.bool (true))) (d:=cBool true) (y:=S_a.w0 (Sl.nth (Sl.put l31 j109 v108) j109) (S_c.w2 ((Sl.nth (Sl.put l31 j109 v108) j109).f_Facts) true)) S_a.enc.len f112 (by simp only [Sl.put_len,Sl.copy_len]; exact (ck_lt ej109).1) (by rw [enc_bool.len]; exact T.sz4) rfl (enc_bool.one _) hcn (by rw [enc_bool.len]; omega) (by rw [wrs_in (Seg.refl.sub (S_a.seg0 (Sl.nth (Sl.put l31 j109 v108) j109))) (by have:=trivial; simp only [enc_bool.len,S_c.enc.len]; omega),S_c.wr2 ((Sl.nth (Sl.put l31 j109 v108) j109).f_Facts) true,Nat.zero_add,S_a.wr0 (Sl.nth (Sl.put l31 j109 v108) j109) (S_c.w2 ((Sl.nth (Sl.put l31 j109 v108) j109).f_Facts) true)])
      have i121:=i114.up u120 (f112.some (by simp only [Sl.put_len,Sl.copy_len]; exact (ck_lt ej109).1)).1
      have z122:(Sl.put l31 j109 v108) ≠ none:=sl_some (j:=j109) (by simp only [Sl.put_len,Sl.copy_len]; exact (ck_lt ej109).1)
      simp only [C.f57r11,R,Nat.reduceEqDiff,h39,ia108,ej109,fa107_0,fa54_2,a118]
      refine hJ _ ?_
      refine n91 _ ?_
      refine n66 _ ?_
      refine n64 _ ?_
      exact ⟨Sl.put (Sl.put l31 j109 v108) j109 (S_a.w0 (Sl.nth (Sl.put l31 j109 v108) j109) (S_c.w2 ((Sl.nth (Sl.put l31 j109 v108) j109).f_Facts) true)),x12_33,x13_34,b32,hm,(lk_eq (by simp only [slV_put,slV_copy]) h39),h40,h41,h42,f119,i121⟩
     ·replace hm:=cond_f hm g106
      refine tk_os okM hok fun J hJ=>?_
      simp only [C.f57r12,R,Nat.reduceEqDiff]
      refine hJ _ ?_
      refine tk_cond (t:=decide (((Sl.nth x0 j69).f_Kind) = 12)) rfl (fun g123=>?_) (fun g123=>?_)
      ·replace hm:=cond_t hm g123
       refine tk_oe okM hok fun J hJ=>?_
       obtain ⟨v125,ev125,hm⟩:=bind_s hm
       have a124:=z_gv c.ro H84  v125 ev125
       obtain ⟨j126,ej126,hm⟩:=bind_s hm
       obtain ⟨H127,a128,f129,u130⟩:=st_sl0 (M:=Mt) (t:=107) (v:=(vAgg (S_a.c (({ S_a.zero with f_Facts:=({ S_c.zero with f_First:=v125,f_Open:=true }:S_c) }:S_a))))) (y:=(({ S_a.zero with f_Facts:=({ S_c.zero with f_First:=v125,f_Open:=true }:S_c) }:S_a))) S_a.enc.len f89 (ck_lt ej126).1 (by rw [S_a.enc.len]; exact T.sz107) vAgg_cells (S_a.enc.one _) hcn
       have i131:=i88.up u130 (f89.some (ck_lt ej126).1).1
       have z132:l31 ≠ none:=sl_some (j:=j126) (ck_lt ej126).1
       have f133:=(u130.get _ ((f43.h.ne q77) z132).symm).trans f86
       simp only [C.f57r13,R,Nat.reduceEqDiff,h39,c_fn F88,a124,bd54_0_1,bd107_0,ia108,ej126,a128]
       refine hJ _ ?_
       refine n91 _ ?_
       refine n66 _ ?_
       refine n64 _ ?_
       exact ⟨Sl.put l31 j126 (({ S_a.zero with f_Facts:=({ S_c.zero with f_First:=v125,f_Open:=true }:S_c) }:S_a)),x12_33,x13_34,b32,hm,(lk_eq (by simp only [slV_put,slV_copy]) h39),h40,h41,h42,f129,i131⟩
      ·replace hm:=cond_f hm g123
       refine tk_os okM hok fun J hJ=>?_
       simp only [C.f57r14,R,Nat.reduceEqDiff]
       refine hJ _ ?_
       refine tk_cond (t:=decide (((Sl.nth x0 j69).f_Kind) = 8)) rfl (fun g134=>?_) (fun g134=>?_)
       ·replace hm:=cond_t hm g134
        refine tk_oe okM hok fun J hJ=>?_
        have a135:=ld_one (M:=Mt) (t:=3) f86 T.ag3 (Seg.refl.sub (S_b.seg1 (Sl.nth x0 j69)))
        obtain ⟨j136,ej136,hm⟩:=bind_s hm
        obtain ⟨mm137,k138⟩:=f89.h.blk (ck_lt ej136).1
        have a139:=lds_agg (M:=Mt) (t:=107) k138 T.ag107 (by rw [S_a.enc.len]; exact T.sz107) (seg_sl S_a.enc.len mm137 (ck_lt ej136).1)
        have a140:=ld_one (M:=Mt) (t:=3) f86 T.ag3 (Seg.refl.sub (S_b.seg2 (Sl.nth x0 j69)))
        obtain ⟨j141,ej141,hm⟩:=bind_s hm
        obtain ⟨mm142,k143⟩:=f89.h.blk (ck_lt ej141).1
        have a144:=lds_agg (M:=Mt) (t:=107) k143 T.ag107 (by rw [S_a.enc.len]; exact T.sz107) (seg_sl S_a.enc.len mm142 (ck_lt ej141).1)
        obtain ⟨v146,ev146,hm⟩:=bind_s hm
        have a145:=z_gn H84.length H84 (Sl.nth l31 j136) (Sl.nth l31 j141) v146 ev146
        obtain ⟨j147,ej147,hm⟩:=bind_s hm
        obtain ⟨H148,a149,f150,u151⟩:=st_sl0 (M:=Mt) (t:=107) (v:=(vAgg (S_a.c (v146)))) (y:=v146) S_a.enc.len f89 (ck_lt ej147).1 (by rw [S_a.enc.len]; exact T.sz107) vAgg_cells (S_a.enc.one _) hcn
        have i152:=i88.up u151 (f89.some (ck_lt ej147).1).1
        have z153:l31 ≠ none:=sl_some (j:=j147) (ck_lt ej147).1
        have f154:=(u151.get _ ((f43.h.ne q77) z153).symm).trans f86
        simp only [C.f57r15,R,Nat.reduceEqDiff,s_pt,s_gt,isW,Bool.false_eq_true,if_false,if_true,reduceIte,h39,fa72_1,a135,ia108,ej136,a139,fa72_2,a140,ej141,a144,c_fn F89,a145,ej147,a149]
        refine hJ _ ?_
        refine n91 _ ?_
        refine n66 _ ?_
        refine n64 _ ?_
        exact ⟨Sl.put l31 j147 v146,x12_33,x13_34,b32,hm,(lk_eq (by simp only [slV_put,slV_copy]) h39),h40,h41,h42,f150,i152⟩
       ·replace hm:=cond_f hm g134
        refine tk_os okM hok fun J hJ=>?_
        simp only [C.f57r16,R,Nat.reduceEqDiff]
        refine hJ _ ?_
        refine tk_cond (t:=decide (((Sl.nth x0 j69).f_Kind) = 9)) rfl (fun g155=>?_) (fun g155=>?_)
        ·replace hm:=cond_t hm g155
         refine tk_oe okM hok fun J hJ=>?_
         have a156:=ld_one (M:=Mt) (t:=3) f86 T.ag3 (Seg.refl.sub (S_b.seg1 (Sl.nth x0 j69)))
         obtain ⟨j157,ej157,hm⟩:=bind_s hm
         obtain ⟨mm158,k159⟩:=f89.h.blk (ck_lt ej157).1
         have a160:=lds_agg (M:=Mt) (t:=107) k159 T.ag107 (by rw [S_a.enc.len]; exact T.sz107) (seg_sl S_a.enc.len mm158 (ck_lt ej157).1)
         have a161:=ld_one (M:=Mt) (t:=3) f86 T.ag3 (Seg.refl.sub (S_b.seg2 (Sl.nth x0 j69)))
         obtain ⟨j162,ej162,hm⟩:=bind_s hm
         obtain ⟨mm163,k164⟩:=f89.h.blk (ck_lt ej162).1
         have a165:=lds_agg (M:=Mt) (t:=107) k164 T.ag107 (by rw [S_a.enc.len]; exact T.sz107) (seg_sl S_a.enc.len mm163 (ck_lt ej162).1)
         obtain ⟨v167,ev167,hm⟩:=bind_s hm
         have a166:=z_gy H84.length H84 (Sl.nth l31 j157) (Sl.nth l31 j162) v167 ev167
         obtain ⟨j168,ej168,hm⟩:=bind_s hm
         obtain ⟨H169,a170,f171,u172⟩:=st_sl0 (M:=Mt) (t:=107) (v:=(vAgg (S_a.c (v167)))) (y:=v167) S_a.enc.len f89 (ck_lt ej168).1 (by rw [S_a.enc.len]; exact T.sz107) vAgg_cells (S_a.enc.one _) hcn
         have i173:=i88.up u172 (f89.some (ck_lt ej168).1).1
         have z174:l31 ≠ none:=sl_some (j:=j168) (ck_lt ej168).1
         have f175:=(u172.get _ ((f43.h.ne q77) z174).symm).trans f86
         simp only [C.f57r17,R,Nat.reduceEqDiff,s_pt,s_gt,isW,Bool.false_eq_true,if_false,if_true,reduceIte,h39,fa72_1,a156,ia108,ej157,a160,fa72_2,a161,ej162,a165,c_fn F90,a166,ej168,a170]
         refine hJ _ ?_
         refine n91 _ ?_
         refine n66 _ ?_
         refine n64 _ ?_
         exact ⟨Sl.put l31 j168 v167,x12_33,x13_34,b32,hm,(lk_eq (by simp only [slV_put,slV_copy]) h39),h40,h41,h42,f171,i173⟩
        ·replace hm:=cond_f hm g155
         refine tk_os okM hok fun J hJ=>?_
         simp only [C.f57r18,R,Nat.reduceEqDiff]
         refine hJ _ ?_
         refine tk_cond (t:=decide (((Sl.nth x0 j69).f_Kind) = 10)) rfl (fun g176=>?_) (fun g176=>?_)
         ·replace hm:=cond_t hm g176
          refine tk_oe okM hok fun J hJ=>?_
          have a177:=ld_agg (M:=Mt) (t:=72) f86 T.ag72 (by rw [S_b.enc.len]; exact T.sz72) Seg.refl
          have a178:=ld_one (M:=Mt) (t:=3) f86 T.ag3 (Seg.refl.sub (S_b.seg1 (Sl.nth x0 j69)))
          obtain ⟨j179,ej179,hm⟩:=bind_s hm
          obtain ⟨mm180,k181⟩:=f89.h.blk (ck_lt ej179).1
          have a182:=lds_agg (M:=Mt) (t:=107) k181 T.ag107 (by rw [S_a.enc.len]; exact T.sz107) (seg_sl S_a.enc.len mm180 (ck_lt ej179).1)
          obtain ⟨v184,ev184,hm⟩:=bind_s hm
          have a183:=z_fS H84.length H84 (Sl.nth x0 j69) (Sl.nth l31 j179) v184 ev184
          obtain ⟨j185,ej185,hm⟩:=bind_s hm
          obtain ⟨H186,a187,f188,u189⟩:=st_sl0 (M:=Mt) (t:=107) (v:=(vAgg (S_a.c (v184)))) (y:=v184) S_a.enc.len f89 (ck_lt ej185).1 (by rw [S_a.enc.len]; exact T.sz107) vAgg_cells (S_a.enc.one _) hcn
          have i190:=i88.up u189 (f89.some (ck_lt ej185).1).1
          have z191:l31 ≠ none:=sl_some (j:=j185) (ck_lt ej185).1
          have f192:=(u189.get _ ((f43.h.ne q77) z191).symm).trans f86
          simp only [C.f57r19,R,Nat.reduceEqDiff,s_pt,s_gt,isW,Bool.false_eq_true,if_false,if_true,reduceIte,h39,a177,fa72_1,a178,ia108,ej179,a182,c_fn F91,a183,ej185,a187]
          refine hJ _ ?_
          refine n91 _ ?_
          refine n66 _ ?_
          refine n64 _ ?_
          exact ⟨Sl.put l31 j185 v184,x12_33,x13_34,b32,hm,(lk_eq (by simp only [slV_put,slV_copy]) h39),h40,h41,h42,f188,i190⟩
         ·replace hm:=cond_f hm g176
          refine tk_seq_j (fun ⟨σ,H,_⟩=>∃ l193 x4_195 x196 x12_197 x13_198 x95_199 b194,b_bq c_m c_h c_r c_q c_s c_j n (b_A c_m c_h c_r c_q c_s c_j n x0 k1) x0 l193 x4_195 x196 x12_197 x13_198 x95_199 = some r ∧ Lk σ 3 (slV l193 b194) ∧ Lk σ 4 (.int .i64 x4_195) ∧ Lk σ 5 (.pointer (some ⟨b73,0,none⟩)) ∧ Lk σ 11 (slV x0 b0) ∧ Lk σ 12 (.int .i64 x12_197) ∧ Lk σ 13 (.int .i64 x13_198) ∧ Lk σ 95 (.bool x95_199) ∧ SlO c.nb H S_a.c 107 l193 b194 ∧ H[b73]? = some (.cells (S_b.c x196) 72) ∧ (l193 ≠ none → b194 ≠ b73) ∧ Iv c.nb [] H0 H) ?_ ?_
          ·skip
           rintro ⟨σ213,H200,d214⟩ ⟨l193,x4_195,x196,x12_197,x13_198,x95_199,b194,hm,h202,h203,h204,h205,h206,h207,h208,f209,f210,n211,i212⟩
           rw [b_bq] at hm
           refine tk_cond (t:=x95_199) h208 (fun g215=>?_) (fun g215=>?_)
           ·replace hm:=cond_t hm g215
            refine tk_oe okM hok fun J hJ=>?_
            have a216:=ld_one (M:=Mt) (t:=3) f210 T.ag3 (Seg.refl.sub (S_b.seg1 x196))
            obtain ⟨j217,ej217,hm⟩:=bind_s hm
            obtain ⟨mm218,k219⟩:=f209.h.blk (ck_lt ej217).1
            have a220:=lds_agg (M:=Mt) (t:=107) k219 T.ag107 (by rw [S_a.enc.len]; exact T.sz107) (seg_sl S_a.enc.len mm218 (ck_lt ej217).1)
            obtain ⟨j221,ej221,hm⟩:=bind_s hm
            obtain ⟨H222,a223,f224,u225⟩:=st_sl0 (M:=Mt) (t:=107) (v:=(vAgg (S_a.c (Sl.nth l193 j217)))) (y:=(Sl.nth l193 j217)) S_a.enc.len f209 (ck_lt ej221).1 (by rw [S_a.enc.len]; exact T.sz107) vAgg_cells (S_a.enc.one _) hcn
            have i226:=i212.up u225 (f209.some (ck_lt ej221).1).1
            have z227:l193 ≠ none:=sl_some (j:=j221) (ck_lt ej221).1
            have f228:=(u225.get _ (n211 z227).symm).trans f210
            simp only [C.f57r22,R,Nat.reduceEqDiff,h202,h203,fa72_1,h204,a216,ia108,ej217,a220,ej221,a223]
            refine hJ _ ?_
            refine n91 _ ?_
            refine n66 _ ?_
            refine n64 _ ?_
            exact ⟨Sl.put l193 j221 (Sl.nth l193 j217),x12_197,x13_198,b194,hm,(lk_eq (by simp only [slV_put,slV_copy]) h202),h205,h206,h207,f224,i226⟩
           ·replace hm:=cond_f hm g215
            refine tk_oe okM hok fun J hJ=>?_
            obtain ⟨v230,ev230,hm⟩:=bind_s hm
            have a229:=z_cd c.ro H200  v230 ev230
            obtain ⟨j231,ej231,hm⟩:=bind_s hm
            obtain ⟨H232,a233,f234,u235⟩:=st_sl0 (M:=Mt) (t:=107) (v:=(vAgg (S_a.c (v230)))) (y:=v230) S_a.enc.len f209 (ck_lt ej231).1 (by rw [S_a.enc.len]; exact T.sz107) vAgg_cells (S_a.enc.one _) hcn
            have i236:=i212.up u235 (f209.some (ck_lt ej231).1).1
            have z237:l193 ≠ none:=sl_some (j:=j231) (ck_lt ej231).1
            have f238:=(u235.get _ (n211 z237).symm).trans f210
            simp only [C.f57r6,R,Nat.reduceEqDiff,h202,h203,c_fn F87,a229,ia108,ej231,a233]
            refine hJ _ ?_
            refine n91 _ ?_
            refine n66 _ ?_
            refine n64 _ ?_
            exact ⟨Sl.put l193 j231 v230,x12_197,x13_198,b194,hm,(lk_eq (by simp only [slV_put,slV_copy]) h202),h205,h206,h207,f234,i236⟩
          ·refine fun K n239 x240=>?_
           refine tk_os okM hok fun J hJ=>?_
           simp only [C.f57r20,R,Nat.reduceEqDiff]
           refine hJ _ ?_
           refine tk_cond (t:=decide (((Sl.nth x0 j69).f_Kind) = 11)) rfl (fun g241=>?_) (fun g241=>?_)
           ·replace hm:=cond_t hm g241
            refine tk_skip okM ?_
            refine n239 _ ?_
            exact ⟨l31,x13_34,Sl.nth x0 j69,x12_33,x13_34,decide (((Sl.nth x0 j69).f_Kind) = 11),b32,hm,h39,rfl,rfl,h40,h41,h42,rfl,f89,f86,(f43.h.ne q77),i88⟩
           ·replace hm:=cond_f hm g241
            refine tk_oe okM hok fun J hJ=>?_
            simp only [C.f57r21,R,Nat.reduceEqDiff]
            refine hJ _ ?_
            refine n239 _ ?_
            exact ⟨l31,x13_34,Sl.nth x0 j69,x12_33,x13_34,decide (((Sl.nth x0 j69).f_Kind) = 17),b32,hm,h39,rfl,rfl,h40,h41,h42,rfl,f89,f86,(f43.h.ne q77),i88⟩
  ·replace hm:=cond_f hm g49
   refine tk_exit okM ?_
   refine x48 _ _ (by simp) ?_
   refine x36 _ _ (by simp) ?_
   refine e29 _ ?_
   refine n25 _ ?_
   refine tk_os okM hok fun J hJ=>?_
   simp only [C.f57r24,R,Nat.reduceEqDiff,h39]
   refine hJ _ ?_
   refine tk_ret okM ?_
   obtain rfl:=Option.some.inj hm
   exact end_sl1 (P:=Mt.P) (rs:=[(.tmp 2)]) (pre:=[]) (post:=[]) (x:=l31) (b:=b32) (nb:=H0.length) (.inl rfl) (by rw [← hnb]; exact f43) S_a.enc fm_nil fm_nil (resT' (v:=(slV l31 b32)) rfl resN)
end Go.Proofs.YtaadjlpfdajggaaGreatDoor
