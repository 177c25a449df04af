import Derived.Test.YtaadjlpfdajggaaGreatDoorBvBase
set_option maxRecDepth 100000
set_option linter.unusedVariables false
set_option linter.unusedSimpArgs false
namespace Go.Proofs.YtaadjlpfdajggaaGreatDoor
open Go Go.AM
attribute [local congr] bind_first map_first
def b_bs (c_ce:T_dr) (c_q:T_bz) (c_bO:T_cS) (c_bM:T_cO) (c_cs:T_dJ) (c_cW:T_dT) (c_bW:T_dk) (c_c4:T_dQ) (n:Nat) (x0:(Sl S_a)) (x1:(Sl S_a)) (x2:Int):Option (Bool):=(c_ce x0 60).bind fun v26=>(c_ce x1 60).bind fun v41=>(c_q v26 (IntKind.i64.wrap x2)).bind fun v56=>(c_q v26 (IntKind.i64.wrap ((IntKind.i64.wrap x2) + 1))).bind fun v59=>(bif (!decide (v56.2 = v59.2)) || (!decide (v56.2 = 0)) then some true else ((c_cs v26).bind fun v79=>some (decide (39 ≤ v79)))).bind fun y80=>(bif y80 then some true else ((c_cs v41).bind fun v101=>some (decide (39 ≤ v101)))).bind fun y102=>(bif y102 then some true else ((c_bW v26).bind fun v123=>(c_bW v41).bind fun v126=>some (decide (0 < (IntKind.i64.wrap (v123 + v126)))))).bind fun y127=>bif y127 then ((bif (decide (v56.2 = v59.2)) && ((decide (v56.2 = 0)) || (decide (v56.1 = 0))) then ((c_bM).bind fun v158=>some v158) else some false).bind fun y159=>some y159) else ((c_cW v26 (({ S_a.zero with f_Kind:=17 }:S_a))).bind fun v170=>(c_q v170 (IntKind.i64.wrap x2)).bind fun v183=>(c_bO v26 (IntKind.i64.wrap x2)).bind fun v186=>(c_bO v26 (IntKind.i64.wrap ((IntKind.i64.wrap x2) + 1))).bind fun v189=>bif (((((!decide (v183.2 = 0)) || (!decide (v186.2 = 0))) || (!decide (v189.2 = 0))) || (decide (v59.1 < v56.1))) || (decide (v183.1 < v56.1))) || (fcmp .lss v189.1 v186.1) then (some false) else ((c_q v41 (IntKind.i64.wrap x2)).bind fun v269=>(c_c4 v26 v41 8).bind fun v273=>(c_q v273 (IntKind.i64.wrap x2)).bind fun v286=>(bif (!decide (v269.2 = 0)) || (((decide (v286.2 = 0)) && (decide (v56.1 ≤ v286.1))) && (decide (v269.1 ≤ v286.1))) then ((c_bM).bind fun v297=>some v297) else some false).bind fun y298=>some y298))
theorem w_d8 {call:CallF} (hok:CallOk Mt call) {n:Nat} {c_ce:T_dr} (z_ed:A_er call c_ce) {c_q:T_bz} (z_6:A_de call c_q) {c_bO:T_cS} (z_dH:A_d4 call c_bO) {c_bM:T_cO} (z_dI:A_dZ call c_bM) {c_cs:T_dJ} (z_en:A_eK call c_cs) {c_cW:T_dT} (z_fP:A_eF call c_cW) {c_bW:T_dk} (z_d2:A_ec call c_bW) {c_c4:T_dQ} (z_fK:A_eQ call c_c4) {H0:Hp} {x0:(Sl S_a)} {b0:Nat} {x1:(Sl S_a)} {b1:Nat} {x2:Int} {r:Bool} {ro:Nat} (hro:ro ≤ H0.length) (h0:SlH H0 S_a.c 72 x0 b0) (h1:SlH H0 S_a.c 72 x1 b1) (hm:b_bs c_ce c_q c_bO c_bM c_cs c_cW c_bW c_c4 n x0 x1 x2 = some r) (hG1:TabH1 H0) :
  Pt Mt ro 10 [(vAgg [slV x0 b0]),(vAgg [slV x1 b1]),(.int .u8 x2)] H0 (.bool (r)) H0 []:=by
 refine pt_new0 okM F10d (by exact Nat.le_of_ble_eq_true rfl) ?_ hro
 intro c hnt hnb hcr
 have hcn:c.ro ≤ c.nb:=by omega
 have l0:x0 ≠ none → b0 < c.nb:=fun h=>by rw [hnb]; exact h0.lt h
 have l1:x1 ≠ none → b1 < c.nb:=fun h=>by rw [hnb]; exact h1.lt h
 have iv:Iv c.nb [] H0 H0:=by rw [hnb]; exact iv_refl
 rw [aI3]
 rw [b_bs] at hm
 simp only [C.f10]
 refine tS hok fun J hJ=>?_
 obtain ⟨b3,H4,a5,f6,q7,r8,x9,i10⟩:=bx_ok (M:=Mt) (t:=37) (u:=(vAgg [(slV x0 b0)])) (cs:=[(slV x0 b0)]) H0 iv.le T.sz37 vAgg_cells one_sl
 have i11:=i10 _ _ iv
 obtain ⟨b13,H14,a15,f16,q17,r18,x19,i20⟩:=bx_ok (M:=Mt) (t:=37) (u:=(vAgg [(slV x1 b1)])) (cs:=[(slV x1 b1)]) H4 i11.le T.sz37 vAgg_cells one_sl
 have i21:=i20 _ _ i11
 have f22:=x19 _ _ f6
 simp only [C.f10r0,R,Nat.reduceEqDiff,a5,a15]
 refine hJ _ ?_
 refine tS hok fun J hJ=>?_
 have a24:=ld_agg (M:=Mt) (t:=37) (off:=0) (c:=[(slV x0 b0)]) f22 T.ag37 T.sz37 Seg.refl
 obtain ⟨v26,ev26,hm⟩:=bind_s hm
 have a25:=z_ed c.ro H14 x0 b0 60 v26 (h0.iv l0 (fun _=>by simp) i21) ev26
 obtain ⟨a29,l28,f27⟩:=a25
 have f30:=f27 _ _ h0
 have l31:=fun h=>l0 (l28 h)
 obtain ⟨H33,a34,f35,u36⟩:=st_ok (M:=Mt) (t:=37) (off:=0) (ro:=c.ro) (v:=(vAgg [(slV v26 b0)])) (c:=[(slV v26 b0)]) (cs':=[(slV v26 b0)]) f22 T.sz37 vAgg_cells one_sl (Nat.le_trans hcn r8) (Nat.le_refl _) rfl
 have i37:=i21.up u36 r8
 have f38:=(u36.get _ (ne_len f6 q17).symm).trans f16
 simp only [C.f10r1,R,Nat.reduceEqDiff,a24,c_fn F18,a29,a34]
 refine hJ _ ?_
 refine tS hok fun J hJ=>?_
 have a39:=ld_agg (M:=Mt) (t:=37) (off:=0) (c:=[(slV x1 b1)]) f38 T.ag37 T.sz37 Seg.refl
 obtain ⟨v41,ev41,hm⟩:=bind_s hm
 have a40:=z_ed c.ro H33 x1 b1 60 v41 (h1.iv l1 (fun _=>by simp) i37) ev41
 obtain ⟨a44,l43,f42⟩:=a40
 have f45:=f42 _ _ h1
 have l46:=fun h=>l1 (l43 h)
 obtain ⟨H48,a49,f50,u51⟩:=st_ok (M:=Mt) (t:=37) (off:=0) (ro:=c.ro) (v:=(vAgg [(slV v41 b1)])) (c:=[(slV v41 b1)]) (cs':=[(slV v41 b1)]) f38 T.sz37 vAgg_cells one_sl (Nat.le_trans hcn r18) (Nat.le_refl _) rfl
 have i52:=i37.up u51 r18
 have f53:=(u51.get _ (ne_len f6 q17)).trans f35
 simp only [C.f10r2,R,Nat.reduceEqDiff,a39,c_fn F18,a44,a49]
 refine hJ _ ?_
 refine tS hok fun J hJ=>?_
 have a54:=ld_agg (M:=Mt) (t:=37) (off:=0) (c:=[(slV v26 b0)]) f53 T.ag37 T.sz37 Seg.refl
 obtain ⟨v56,ev56,hm⟩:=bind_s hm
 have a55:=z_6 c.ro H48 v26 b0 (IntKind.i64.wrap x2) v56 (f30.iv l31 (fun _=>by simp) i52) ev56
 simp only [C.f10r3,R,Nat.reduceEqDiff,a54,cv_int (M:=Mt) Tryz.underlying5 Tryz.underlying3,c_fn F20,a55]
 refine hJ _ ?_
 refine tS hok fun J hJ=>?_
 have a57:=ld_agg (M:=Mt) (t:=37) (off:=0) (c:=[(slV v26 b0)]) f53 T.ag37 T.sz37 Seg.refl
 obtain ⟨v59,ev59,hm⟩:=bind_s hm
 have a58:=z_6 c.ro H48 v26 b0 (IntKind.i64.wrap ((IntKind.i64.wrap x2) + 1)) v59 (f30.iv l31 (fun _=>by simp) i52) ev59
 simp only [C.f10r4,R,Nat.reduceEqDiff,a57,cv_int (M:=Mt) Tryz.underlying5 Tryz.underlying3,c_fn F20,a58]
 refine hJ _ ?_
 refine tk_seq_k fun K n60 x61=>?_
 refine tS hok fun J hJ=>?_
 rw [C.f10r5]
 refine rn_app_k (fun ⟨σ,H,_⟩=>Lk σ 2 (.int .u8 (x2)) ∧ Lk σ 3 (.pointer (some ⟨b3,0,none⟩)) ∧ Lk σ 4 (.pointer (some ⟨b13,0,none⟩)) ∧ Lk σ 7 (.int .i64 (v56.1)) ∧ Lk σ 8 (.int .i64 (v56.2)) ∧ Lk σ 9 (.int .i64 (v59.1)) ∧ Lk σ 10 (.int .i64 (v59.2)) ∧ Lk σ 46 (.bool ((!decide (v56.2 = v59.2)) || (!decide (v56.2 = 0)))) ∧ H[b3]? = some (.cells [(slV v26 b0)] 37) ∧ H[b13]? = some (.cells [(slV v41 b1)] 37) ∧ Iv c.nb [] H0 H) (fun J hJ=>?_) ?_
 ·skip
  cases g74:!decide (v56.2 = v59.2)
  ·skip
   simp only [C.f10r5p0,R,Nat.reduceEqDiff,s_pt,s_gt,isW,Bool.false_eq_true,if_false,if_true,reduceIte,g74]
   exact hJ _ ⟨(by first | rfl | (simp only [g74]; rfl) | simp only [g74,Lk,RB,Nat.reduceEqDiff,not_false_eq_true]),rfl,rfl,(by first | rfl | (simp only [g74]; rfl) | simp only [g74,Lk,RB,Nat.reduceEqDiff,not_false_eq_true]),(by first | rfl | (simp only [g74]; rfl) | simp only [g74,Lk,RB,Nat.reduceEqDiff,not_false_eq_true]),(by first | rfl | (simp only [g74]; rfl) | simp only [g74,Lk,RB,Nat.reduceEqDiff,not_false_eq_true]),(by first | rfl | (simp only [g74]; rfl) | simp only [g74,Lk,RB,Nat.reduceEqDiff,not_false_eq_true]),(by first | rfl | (simp only [g74]; rfl) | simp only [g74,Lk,RB,Nat.reduceEqDiff,not_false_eq_true]),f53,f50,i52⟩
  ·skip
   simp only [C.f10r5p0,R,Nat.reduceEqDiff,s_pt,s_gt,isW,Bool.false_eq_true,if_false,if_true,reduceIte,g74]
   exact hJ _ ⟨(by first | rfl | (simp only [g74]; rfl) | simp only [g74,Lk,RB,Nat.reduceEqDiff,not_false_eq_true]),rfl,rfl,(by first | rfl | (simp only [g74]; rfl) | simp only [g74,Lk,RB,Nat.reduceEqDiff,not_false_eq_true]),(by first | rfl | (simp only [g74]; rfl) | simp only [g74,Lk,RB,Nat.reduceEqDiff,not_false_eq_true]),(by first | rfl | (simp only [g74]; rfl) | simp only [g74,Lk,RB,Nat.reduceEqDiff,not_false_eq_true]),(by first | rfl | (simp only [g74]; rfl) | simp only [g74,Lk,RB,Nat.reduceEqDiff,not_false_eq_true]),(by first | rfl | (simp only [g74]; rfl) | simp only [g74,Lk,RB,Nat.reduceEqDiff,not_false_eq_true]),f53,f50,i52⟩
 rintro ⟨σ75,H62,d76⟩ ⟨h63,h64,h65,h66,h67,h68,h69,h70,f71,f72,i73⟩
 obtain ⟨y80,ey80,hm⟩:=bind_s hm
 refine rn_app_k (fun ⟨σ,H,_⟩=>Lk σ 2 (.int .u8 (x2)) ∧ Lk σ 3 (.pointer (some ⟨b3,0,none⟩)) ∧ Lk σ 4 (.pointer (some ⟨b13,0,none⟩)) ∧ Lk σ 7 (.int .i64 (v56.1)) ∧ Lk σ 8 (.int .i64 (v56.2)) ∧ Lk σ 9 (.int .i64 (v59.1)) ∧ Lk σ 10 (.int .i64 (v59.2)) ∧ Lk σ 51 (.bool (y80)) ∧ H[b3]? = some (.cells [(slV v26 b0)] 37) ∧ H[b13]? = some (.cells [(slV v41 b1)] 37) ∧ Iv c.nb [] H0 H) (fun J hJ=>?_) ?_
 ·skip
  cases g93:(!decide (v56.2 = v59.2)) || (!decide (v56.2 = 0))
  ·skip
   have ey80:=cond_f ey80 g93
   have a94:=ld_agg (M:=Mt) (t:=37) (off:=0) (c:=[(slV v26 b0)]) f71 T.ag37 T.sz37 Seg.refl
   obtain ⟨v96,ev96,ey80⟩:=bind_s ey80
   have a95:=z_en H62.length H62 v26 b0 v96 (f30.iv l31 (fun _=>by simp) i73) ev96
   obtain rfl:=Option.some.inj ey80
   simp only [C.f10r5p1,R,Nat.reduceEqDiff,s_pt,s_gt,isW,Bool.false_eq_true,if_false,if_true,reduceIte,h70,↓g93,a94,h64,c_fn F32,a95]
   exact hJ _ ⟨h63,h64,h65,h66,h67,h68,h69,(by first | rfl | (simp only [↓g93]; rfl) | simp only [↓g93,Lk,RB,Nat.reduceEqDiff,not_false_eq_true]),f71,f72,i73⟩
  ·skip
   have ey80:=cond_t ey80 g93
   obtain rfl:=Option.some.inj ey80
   simp only [C.f10r5p1,R,Nat.reduceEqDiff,s_pt,s_gt,isW,Bool.false_eq_true,if_false,if_true,reduceIte,h70,↓g93]
   exact hJ _ ⟨h63,h64,h65,h66,h67,h68,h69,(by first | rfl | (simp only [↓g93]; rfl) | simp only [↓g93,Lk,RB,Nat.reduceEqDiff,not_false_eq_true]),f71,f72,i73⟩
 rintro ⟨σ97,H81,d98⟩ ⟨h82,h83,h84,h85,h86,h87,h88,h89,f90,f91,i92⟩
 obtain ⟨y102,ey102,hm⟩:=bind_s hm
 refine rn_app_k (fun ⟨σ,H,_⟩=>Lk σ 2 (.int .u8 (x2)) ∧ Lk σ 3 (.pointer (some ⟨b3,0,none⟩)) ∧ Lk σ 4 (.pointer (some ⟨b13,0,none⟩)) ∧ Lk σ 7 (.int .i64 (v56.1)) ∧ Lk σ 8 (.int .i64 (v56.2)) ∧ Lk σ 9 (.int .i64 (v59.1)) ∧ Lk σ 10 (.int .i64 (v59.2)) ∧ Lk σ 56 (.bool (y102)) ∧ H[b3]? = some (.cells [(slV v26 b0)] 37) ∧ H[b13]? = some (.cells [(slV v41 b1)] 37) ∧ Iv c.nb [] H0 H) (fun J hJ=>?_) ?_
 ·skip
  cases g115:y80
  ·skip
   have ey102:=cond_f ey102 g115
   have a116:=ld_agg (M:=Mt) (t:=37) (off:=0) (c:=[(slV v41 b1)]) f91 T.ag37 T.sz37 Seg.refl
   obtain ⟨v118,ev118,ey102⟩:=bind_s ey102
   have a117:=z_en H81.length H81 v41 b1 v118 (f45.iv l46 (fun _=>by simp) i92) ev118
   obtain rfl:=Option.some.inj ey102
   simp only [C.f10r5p2,R,Nat.reduceEqDiff,s_pt,s_gt,isW,Bool.false_eq_true,if_false,if_true,reduceIte,h89,g115,a116,h84,c_fn F32,a117]
   exact hJ _ ⟨h82,h83,h84,h85,h86,h87,h88,(by first | rfl | (simp only [g115]; rfl) | simp only [g115,Lk,RB,Nat.reduceEqDiff,not_false_eq_true]),f90,f91,i92⟩
  ·skip
   have ey102:=cond_t ey102 g115
   obtain rfl:=Option.some.inj ey102
   simp only [C.f10r5p2,R,Nat.reduceEqDiff,s_pt,s_gt,isW,Bool.false_eq_true,if_false,if_true,reduceIte,h89,g115]
   exact hJ _ ⟨h82,h83,h84,h85,h86,h87,h88,(by first | rfl | (simp only [g115]; rfl) | simp only [g115,Lk,RB,Nat.reduceEqDiff,not_false_eq_true]),f90,f91,i92⟩
 rintro ⟨σ119,H103,d120⟩ ⟨h104,h105,h106,h107,h108,h109,h110,h111,f112,f113,i114⟩
 obtain ⟨y127,ey127,hm⟩:=bind_s hm
 refine rn_k (fun ⟨σ,H,_⟩=>Lk σ 2 (.int .u8 (x2)) ∧ Lk σ 3 (.pointer (some ⟨b3,0,none⟩)) ∧ Lk σ 4 (.pointer (some ⟨b13,0,none⟩)) ∧ Lk σ 7 (.int .i64 (v56.1)) ∧ Lk σ 8 (.int .i64 (v56.2)) ∧ Lk σ 9 (.int .i64 (v59.1)) ∧ Lk σ 10 (.int .i64 (v59.2)) ∧ Lk σ 64 (.bool (y127)) ∧ H[b3]? = some (.cells [(slV v26 b0)] 37) ∧ H[b13]? = some (.cells [(slV v41 b1)] 37) ∧ Iv c.nb [] H0 H) (fun J hJ=>?_) ?_
 ·skip
  cases g140:y102
  ·skip
   have ey127:=cond_f ey127 g140
   have a141:=ld_agg (M:=Mt) (t:=37) (off:=0) (c:=[(slV v26 b0)]) f112 T.ag37 T.sz37 Seg.refl
   obtain ⟨v143,ev143,ey127⟩:=bind_s ey127
   have a142:=z_d2 H103.length H103 v26 b0 v143 (f30.iv l31 (fun _=>by simp) i114) ev143
   have a144:=ld_agg (M:=Mt) (t:=37) (off:=0) (c:=[(slV v41 b1)]) f113 T.ag37 T.sz37 Seg.refl
   obtain ⟨v146,ev146,ey127⟩:=bind_s ey127
   have a145:=z_d2 H103.length H103 v41 b1 v146 (f45.iv l46 (fun _=>by simp) i114) ev146
   obtain rfl:=Option.some.inj ey127
   simp only [C.f10r5p3,R,Nat.reduceEqDiff,s_pt,s_gt,isW,Bool.false_eq_true,if_false,if_true,reduceIte,h111,g140,a141,h105,c_fn F36,a142,a144,h106,a145]
   exact hJ _ ⟨h104,h105,h106,h107,h108,h109,h110,(by first | rfl | (simp only [g140]; rfl) | simp only [g140,Lk,RB,Nat.reduceEqDiff,not_false_eq_true]),f112,f113,i114⟩
  ·skip
   have ey127:=cond_t ey127 g140
   obtain rfl:=Option.some.inj ey127
   simp only [C.f10r5p3,R,Nat.reduceEqDiff,s_pt,s_gt,isW,Bool.false_eq_true,if_false,if_true,reduceIte,h111,g140]
   exact hJ _ ⟨h104,h105,h106,h107,h108,h109,h110,(by first | rfl | (simp only [g140]; rfl) | simp only [g140,Lk,RB,Nat.reduceEqDiff,not_false_eq_true]),f112,f113,i114⟩
 rintro ⟨σ147,H128,d148⟩ ⟨h129,h130,h131,h132,h133,h134,h135,h136,f137,f138,i139⟩
 refine hJ _ ?_
 refine tC h136 hm (fun g149 hm=>?_) (fun g149 hm=>?_)
 ·skip
  refine tS hok fun J hJ=>?_
  rw [C.f10r6]
  refine rn_app_k (fun ⟨σ,H,_⟩=>Lk σ 75 (.bool ((decide (v56.2 = v59.2)) && ((decide (v56.2 = 0)) || (decide (v56.1 = 0))))) ∧ Iv c.nb [] H0 H) (fun J hJ=>?_) ?_
  ·skip
   cases g153:decide (v56.2 = v59.2)
   ·skip
    simp only [C.f10r6p0,R,Nat.reduceEqDiff,h133,h135,g153]
    exact hJ _ ⟨(by first | rfl | (simp only [g153]; rfl) | simp only [g153,Lk,RB,Nat.reduceEqDiff,not_false_eq_true]),i139⟩
   ·skip
    cases g154:decide (v56.2 = 0)
    ·skip
     simp only [C.f10r6p0,R,Nat.reduceEqDiff,h133,h135,g153,g154,h132]
     exact hJ _ ⟨(by first | rfl | (simp only [g153,g154]; rfl) | simp only [g153,g154,Lk,RB,Nat.reduceEqDiff,not_false_eq_true]),i139⟩
    ·skip
     simp only [C.f10r6p0,R,Nat.reduceEqDiff,h133,h135,g153,g154]
     exact hJ _ ⟨(by first | rfl | (simp only [g153,g154]; rfl) | simp only [g153,g154,Lk,RB,Nat.reduceEqDiff,not_false_eq_true]),i139⟩
  rintro ⟨σ155,H150,d156⟩ ⟨h151,i152⟩
  obtain ⟨y159,ey159,hm⟩:=bind_s hm
  refine rn_app_k (fun ⟨σ,H,_⟩=>Lk σ 78 (.bool (y159)) ∧ Iv c.nb [] H0 H) (fun J hJ=>?_) ?_
  ·skip
   cases g163:(decide (v56.2 = v59.2)) && ((decide (v56.2 = 0)) || (decide (v56.1 = 0)))
   ·skip
    have ey159:=cond_f ey159 g163
    obtain rfl:=Option.some.inj ey159
    simp only [C.f10r6p1,R,Nat.reduceEqDiff,h151,↓g163]
    exact hJ _ ⟨(by first | rfl | (simp only [↓g163]; rfl) | simp only [↓g163,Lk,RB,Nat.reduceEqDiff,not_false_eq_true]),i152⟩
   ·skip
    have ey159:=cond_t ey159 g163
    obtain ⟨v165,ev165,ey159⟩:=bind_s ey159
    have a164:=z_dI c.ro H150  v165 (tabIv1 i152 hnb hG1) ev165
    obtain rfl:=Option.some.inj ey159
    simp only [C.f10r6p1,R,Nat.reduceEqDiff,h151,↓g163,c_fn F25,a164]
    exact hJ _ ⟨(by first | rfl | (simp only [↓g163]; rfl) | simp only [↓g163,Lk,RB,Nat.reduceEqDiff,not_false_eq_true]),i152⟩
  rintro ⟨σ166,H160,d167⟩ ⟨h161,i162⟩
  simp only [C.f10r6p2,R,Nat.reduceEqDiff,h161]
  refine hJ _ ?_
  refine tR ?_
  refine x61 _ _ (by simp) ?_
  obtain rfl:=Option.some.inj hm
  exact ef1 rfl rfl
 ·skip
  refine tK ?_
  refine n60 _ ?_
  refine tS hok fun J hJ=>?_
  have a168:=ld_agg (M:=Mt) (t:=37) (off:=0) (c:=[(slV v26 b0)]) f137 T.ag37 T.sz37 Seg.refl
  obtain ⟨v170,ev170,hm⟩:=bind_s hm
  have a169:=z_fP c.ro H128 v26 b0 (({ S_a.zero with f_Kind:=17 }:S_a)) v170 (f30.iv l31 (fun _=>by simp) i139) ev170
  obtain ⟨H171,q172⟩:∃ x,x = H128 ++ slB S_a.c 72 v170:=⟨_,rfl⟩
  obtain ⟨b173,q174⟩:∃ b,b = H128.length:=⟨_,rfl⟩
  rw [← q172,← q174] at a169
  have x178:Ex H128 H171:=by rw [q172]; exact ex_app
  have i176:Iv c.nb [] H0 H171:=by rw [q172]; exact i139.app
  have f175:SlO c.nb H171 S_a.c 72 v170 b173:=by rw [q172,q174]; exact slB_own i139.le
  have r177:c.nb ≤ b173:=by rw [q174]; exact i139.le
  have f179:=x178 _ _ f137
  have f180:=x178 _ _ f138
  obtain ⟨v183,ev183,hm⟩:=bind_s hm
  have a182:=z_6 c.ro H171 v170 b173 (IntKind.i64.wrap x2) v183 f175.h ev183
  simp only [C.f10r7,R,Nat.reduceEqDiff,a168,h130,bd72_0,c_fn F33,a169,h129,cv_int (M:=Mt) Tryz.underlying5 Tryz.underlying3,c_fn F20,a182]
  refine hJ _ ?_
  refine tS hok fun J hJ=>?_
  have a184:=ld_agg (M:=Mt) (t:=37) (off:=0) (c:=[(slV v26 b0)]) f179 T.ag37 T.sz37 Seg.refl
  obtain ⟨v186,ev186,hm⟩:=bind_s hm
  have a185:=z_dH c.ro H171 v26 b0 (IntKind.i64.wrap x2) v186 (f30.iv l31 (fun _=>by simp) i176) ev186
  simp only [C.f10r8,R,Nat.reduceEqDiff,a184,h130,h129,cv_int (M:=Mt) Tryz.underlying5 Tryz.underlying3,c_fn F22,a185]
  refine hJ _ ?_
  refine tS hok fun J hJ=>?_
  have a187:=ld_agg (M:=Mt) (t:=37) (off:=0) (c:=[(slV v26 b0)]) f179 T.ag37 T.sz37 Seg.refl
  obtain ⟨v189,ev189,hm⟩:=bind_s hm
  have a188:=z_dH c.ro H171 v26 b0 (IntKind.i64.wrap ((IntKind.i64.wrap x2) + 1)) v189 (f30.iv l31 (fun _=>by simp) i176) ev189
  simp only [C.f10r9,R,Nat.reduceEqDiff,a187,h130,h129,cv_int (M:=Mt) Tryz.underlying5 Tryz.underlying3,c_fn F22,a188]
  refine hJ _ ?_
  refine tk_seq_k fun K n190 x191=>?_
  refine tS hok fun J hJ=>?_
  rw [C.f10r10]
  refine rn_app_k (fun ⟨σ,H,_⟩=>Lk σ 2 (.int .u8 (x2)) ∧ Lk σ 3 (.pointer (some ⟨b3,0,none⟩)) ∧ Lk σ 4 (.pointer (some ⟨b13,0,none⟩)) ∧ Lk σ 7 (.int .i64 (v56.1)) ∧ Lk σ 9 (.int .i64 (v59.1)) ∧ Lk σ 11 (.int .i64 (v183.1)) ∧ Lk σ 13 (.float .f64 (v186.1)) ∧ Lk σ 15 (.float .f64 (v189.1)) ∧ Lk σ 16 (.int .i64 (v189.2)) ∧ Lk σ 108 (.bool ((!decide (v183.2 = 0)) || (!decide (v186.2 = 0)))) ∧ H[b3]? = some (.cells [(slV v26 b0)] 37) ∧ H[b13]? = some (.cells [(slV v41 b1)] 37) ∧ Iv c.nb [] H0 H) (fun J hJ=>?_) ?_
  ·skip
   cases g206:!decide (v183.2 = 0)
   ·skip
    simp only [C.f10r10p0,R,Nat.reduceEqDiff,g206]
    exact hJ _ ⟨h129,h130,h131,h132,h134,(by first | rfl | (simp only [g206]; rfl) | simp only [g206,Lk,RB,Nat.reduceEqDiff,not_false_eq_true]),(by first | rfl | (simp only [g206]; rfl) | simp only [g206,Lk,RB,Nat.reduceEqDiff,not_false_eq_true]),(by first | rfl | (simp only [g206]; rfl) | simp only [g206,Lk,RB,Nat.reduceEqDiff,not_false_eq_true]),(by first | rfl | (simp only [g206]; rfl) | simp only [g206,Lk,RB,Nat.reduceEqDiff,not_false_eq_true]),(by first | rfl | (simp only [g206]; rfl) | simp only [g206,Lk,RB,Nat.reduceEqDiff,not_false_eq_true]),f179,f180,i176⟩
   ·skip
    simp only [C.f10r10p0,R,Nat.reduceEqDiff,g206]
    exact hJ _ ⟨h129,h130,h131,h132,h134,(by first | rfl | (simp only [g206]; rfl) | simp only [g206,Lk,RB,Nat.reduceEqDiff,not_false_eq_true]),(by first | rfl | (simp only [g206]; rfl) | simp only [g206,Lk,RB,Nat.reduceEqDiff,not_false_eq_true]),(by first | rfl | (simp only [g206]; rfl) | simp only [g206,Lk,RB,Nat.reduceEqDiff,not_false_eq_true]),(by first | rfl | (simp only [g206]; rfl) | simp only [g206,Lk,RB,Nat.reduceEqDiff,not_false_eq_true]),(by first | rfl | (simp only [g206]; rfl) | simp only [g206,Lk,RB,Nat.reduceEqDiff,not_false_eq_true]),f179,f180,i176⟩
  rintro ⟨σ207,H192,d208⟩ ⟨h193,h194,h195,h196,h197,h198,h199,h200,h201,h202,f203,f204,i205⟩
  refine rn_app_k (fun ⟨σ,H,_⟩=>Lk σ 2 (.int .u8 (x2)) ∧ Lk σ 3 (.pointer (some ⟨b3,0,none⟩)) ∧ Lk σ 4 (.pointer (some ⟨b13,0,none⟩)) ∧ Lk σ 7 (.int .i64 (v56.1)) ∧ Lk σ 9 (.int .i64 (v59.1)) ∧ Lk σ 11 (.int .i64 (v183.1)) ∧ Lk σ 13 (.float .f64 (v186.1)) ∧ Lk σ 15 (.float .f64 (v189.1)) ∧ Lk σ 112 (.bool (((!decide (v183.2 = 0)) || (!decide (v186.2 = 0))) || (!decide (v189.2 = 0)))) ∧ H[b3]? = some (.cells [(slV v26 b0)] 37) ∧ H[b13]? = some (.cells [(slV v41 b1)] 37) ∧ Iv c.nb [] H0 H) (fun J hJ=>?_) ?_
  ·skip
   cases g222:(!decide (v183.2 = 0)) || (!decide (v186.2 = 0))
   ·skip
    simp only [C.f10r10p1,R,Nat.reduceEqDiff,h202,↓g222,h201]
    exact hJ _ ⟨h193,h194,h195,h196,h197,h198,h199,h200,(by first | rfl | (simp only [↓g222]; rfl) | simp only [↓g222,Lk,RB,Nat.reduceEqDiff,not_false_eq_true]),f203,f204,i205⟩
   ·skip
    simp only [C.f10r10p1,R,Nat.reduceEqDiff,h202,↓g222]
    exact hJ _ ⟨h193,h194,h195,h196,h197,h198,h199,h200,(by first | rfl | (simp only [↓g222]; rfl) | simp only [↓g222,Lk,RB,Nat.reduceEqDiff,not_false_eq_true]),f203,f204,i205⟩
  rintro ⟨σ223,H209,d224⟩ ⟨h210,h211,h212,h213,h214,h215,h216,h217,h218,f219,f220,i221⟩
  refine rn_app_k (fun ⟨σ,H,_⟩=>Lk σ 2 (.int .u8 (x2)) ∧ Lk σ 3 (.pointer (some ⟨b3,0,none⟩)) ∧ Lk σ 4 (.pointer (some ⟨b13,0,none⟩)) ∧ Lk σ 7 (.int .i64 (v56.1)) ∧ Lk σ 11 (.int .i64 (v183.1)) ∧ Lk σ 13 (.float .f64 (v186.1)) ∧ Lk σ 15 (.float .f64 (v189.1)) ∧ Lk σ 117 (.bool ((((!decide (v183.2 = 0)) || (!decide (v186.2 = 0))) || (!decide (v189.2 = 0))) || (decide (v59.1 < v56.1)))) ∧ H[b3]? = some (.cells [(slV v26 b0)] 37) ∧ H[b13]? = some (.cells [(slV v41 b1)] 37) ∧ Iv c.nb [] H0 H) (fun J hJ=>?_) ?_
  ·skip
   cases g237:((!decide (v183.2 = 0)) || (!decide (v186.2 = 0))) || (!decide (v189.2 = 0))
   ·skip
    simp only [C.f10r10p2,R,Nat.reduceEqDiff,h218,↓g237,h214,h213]
    exact hJ _ ⟨h210,h211,h212,h213,h215,h216,h217,(by first | rfl | (simp only [↓g237]; rfl) | simp only [↓g237,Lk,RB,Nat.reduceEqDiff,not_false_eq_true]),f219,f220,i221⟩
   ·skip
    simp only [C.f10r10p2,R,Nat.reduceEqDiff,h218,↓g237]
    exact hJ _ ⟨h210,h211,h212,h213,h215,h216,h217,(by first | rfl | (simp only [↓g237]; rfl) | simp only [↓g237,Lk,RB,Nat.reduceEqDiff,not_false_eq_true]),f219,f220,i221⟩
  rintro ⟨σ238,H225,d239⟩ ⟨h226,h227,h228,h229,h230,h231,h232,h233,f234,f235,i236⟩
  refine rn_app_k (fun ⟨σ,H,_⟩=>Lk σ 2 (.int .u8 (x2)) ∧ Lk σ 3 (.pointer (some ⟨b3,0,none⟩)) ∧ Lk σ 4 (.pointer (some ⟨b13,0,none⟩)) ∧ Lk σ 7 (.int .i64 (v56.1)) ∧ Lk σ 13 (.float .f64 (v186.1)) ∧ Lk σ 15 (.float .f64 (v189.1)) ∧ Lk σ 122 (.bool (((((!decide (v183.2 = 0)) || (!decide (v186.2 = 0))) || (!decide (v189.2 = 0))) || (decide (v59.1 < v56.1))) || (decide (v183.1 < v56.1)))) ∧ H[b3]? = some (.cells [(slV v26 b0)] 37) ∧ H[b13]? = some (.cells [(slV v41 b1)] 37) ∧ Iv c.nb [] H0 H) (fun J hJ=>?_) ?_
  ·skip
   cases g251:(((!decide (v183.2 = 0)) || (!decide (v186.2 = 0))) || (!decide (v189.2 = 0))) || (decide (v59.1 < v56.1))
   ·skip
    simp only [C.f10r10p3,R,Nat.reduceEqDiff,h233,↓g251,h230,h229]
    exact hJ _ ⟨h226,h227,h228,h229,h231,h232,(by first | rfl | (simp only [↓g251]; rfl) | simp only [↓g251,Lk,RB,Nat.reduceEqDiff,not_false_eq_true]),f234,f235,i236⟩
   ·skip
    simp only [C.f10r10p3,R,Nat.reduceEqDiff,h233,↓g251]
    exact hJ _ ⟨h226,h227,h228,h229,h231,h232,(by first | rfl | (simp only [↓g251]; rfl) | simp only [↓g251,Lk,RB,Nat.reduceEqDiff,not_false_eq_true]),f234,f235,i236⟩
  rintro ⟨σ252,H240,d253⟩ ⟨h241,h242,h243,h244,h245,h246,h247,f248,f249,i250⟩
  refine rn_k (fun ⟨σ,H,_⟩=>Lk σ 2 (.int .u8 (x2)) ∧ Lk σ 3 (.pointer (some ⟨b3,0,none⟩)) ∧ Lk σ 4 (.pointer (some ⟨b13,0,none⟩)) ∧ Lk σ 7 (.int .i64 (v56.1)) ∧ Lk σ 127 (.bool ((((((!decide (v183.2 = 0)) || (!decide (v186.2 = 0))) || (!decide (v189.2 = 0))) || (decide (v59.1 < v56.1))) || (decide (v183.1 < v56.1))) || (fcmp .lss v189.1 v186.1))) ∧ H[b3]? = some (.cells [(slV v26 b0)] 37) ∧ H[b13]? = some (.cells [(slV v41 b1)] 37) ∧ Iv c.nb [] H0 H) (fun J hJ=>?_) ?_
  ·skip
   cases g263:((((!decide (v183.2 = 0)) || (!decide (v186.2 = 0))) || (!decide (v189.2 = 0))) || (decide (v59.1 < v56.1))) || (decide (v183.1 < v56.1))
   ·skip
    simp only [C.f10r10p4,R,Nat.reduceEqDiff,h247,↓g263,h246,h245,bin_flss]
    exact hJ _ ⟨h241,h242,h243,h244,(by first | rfl | (simp only [↓g263]; rfl) | simp only [↓g263,Lk,RB,Nat.reduceEqDiff,not_false_eq_true]),f248,f249,i250⟩
   ·skip
    simp only [C.f10r10p4,R,Nat.reduceEqDiff,h247,↓g263]
    exact hJ _ ⟨h241,h242,h243,h244,(by first | rfl | (simp only [↓g263]; rfl) | simp only [↓g263,Lk,RB,Nat.reduceEqDiff,not_false_eq_true]),f248,f249,i250⟩
  rintro ⟨σ264,H254,d265⟩ ⟨h255,h256,h257,h258,h259,f260,f261,i262⟩
  refine hJ _ ?_
  refine tC h259 hm (fun g266 hm=>?_) (fun g266 hm=>?_)
  ·skip
   refine tS hok fun J hJ=>?_
   simp only [C.f10r11,R,Nat.reduceEqDiff]
   refine hJ _ ?_
   refine tR ?_
   refine x191 _ _ (by simp) ?_
   obtain rfl:=Option.some.inj hm
   exact ef1 rfl rfl
  ·skip
   refine tK ?_
   refine n190 _ ?_
   refine tS hok fun J hJ=>?_
   have a267:=ld_agg (M:=Mt) (t:=37) (off:=0) (c:=[(slV v41 b1)]) f261 T.ag37 T.sz37 Seg.refl
   obtain ⟨v269,ev269,hm⟩:=bind_s hm
   have a268:=z_6 c.ro H254 v41 b1 (IntKind.i64.wrap x2) v269 (f45.iv l46 (fun _=>by simp) i262) ev269
   simp only [C.f10r12,R,Nat.reduceEqDiff,a267,h257,h255,cv_int (M:=Mt) Tryz.underlying5 Tryz.underlying3,c_fn F20,a268]
   refine hJ _ ?_
   refine tS hok fun J hJ=>?_
   have a270:=ld_agg (M:=Mt) (t:=37) (off:=0) (c:=[(slV v26 b0)]) f260 T.ag37 T.sz37 Seg.refl
   have a271:=ld_agg (M:=Mt) (t:=37) (off:=0) (c:=[(slV v41 b1)]) f261 T.ag37 T.sz37 Seg.refl
   obtain ⟨v273,ev273,hm⟩:=bind_s hm
   have a272:=z_fK c.ro H254 v26 b0 v41 b1 8 v273 (f30.iv l31 (fun _=>by simp) i262) (f45.iv l46 (fun _=>by simp) i262) ev273
   obtain ⟨H274,q275⟩:∃ x,x = H254 ++ slB S_a.c 72 v273:=⟨_,rfl⟩
   obtain ⟨b276,q277⟩:∃ b,b = H254.length:=⟨_,rfl⟩
   rw [← q275,← q277] at a272
   have x281:Ex H254 H274:=by rw [q275]; exact ex_app
   have i279:Iv c.nb [] H0 H274:=by rw [q275]; exact i262.app
   have f278:SlO c.nb H274 S_a.c 72 v273 b276:=by rw [q275,q277]; exact slB_own i262.le
   have r280:c.nb ≤ b276:=by rw [q277]; exact i262.le
   have f282:=x281 _ _ f260
   have f283:=x281 _ _ f261
   obtain ⟨v286,ev286,hm⟩:=bind_s hm
   have a285:=z_6 c.ro H274 v273 b276 (IntKind.i64.wrap x2) v286 f278.h ev286
   simp only [C.f10r13,R,Nat.reduceEqDiff,a270,h256,a271,h257,c_fn F37,a272,h255,cv_int (M:=Mt) Tryz.underlying5 Tryz.underlying3,c_fn F20,a285]
   refine hJ _ ?_
   refine tS hok fun J hJ=>?_
   rw [C.f10r14]
   refine rn_app_k (fun ⟨σ,H,_⟩=>Lk σ 159 (.bool ((!decide (v269.2 = 0)) || (((decide (v286.2 = 0)) && (decide (v56.1 ≤ v286.1))) && (decide (v269.1 ≤ v286.1))))) ∧ Iv c.nb [] H0 H) (fun J hJ=>?_) ?_
   ·skip
    cases g290:!decide (v269.2 = 0)
    ·skip
     cases g291:decide (v286.2 = 0)
     ·skip
      simp only [C.f10r14p0,R,Nat.reduceEqDiff,g290,g291]
      exact hJ _ ⟨(by first | rfl | (simp only [g290,g291]; rfl) | simp only [g290,g291,Lk,RB,Nat.reduceEqDiff,not_false_eq_true]),i279⟩
     ·skip
      cases g293:decide (v56.1 ≤ v286.1)
      ·skip
       simp only [C.f10r14p0,R,Nat.reduceEqDiff,g290,g291,h258,g293]
       exact hJ _ ⟨(by first | rfl | (simp only [g290,g291,g293]; rfl) | simp only [g290,g291,g293,Lk,RB,Nat.reduceEqDiff,not_false_eq_true]),i279⟩
      ·skip
       simp only [C.f10r14p0,R,Nat.reduceEqDiff,g290,g291,h258,g293]
       exact hJ _ ⟨(by first | rfl | (simp only [g290,g291,g293]; rfl) | simp only [g290,g291,g293,Lk,RB,Nat.reduceEqDiff,not_false_eq_true]),i279⟩
    ·skip
     simp only [C.f10r14p0,R,Nat.reduceEqDiff,g290]
     exact hJ _ ⟨(by first | rfl | (simp only [g290]; rfl) | simp only [g290,Lk,RB,Nat.reduceEqDiff,not_false_eq_true]),i279⟩
   rintro ⟨σ294,H287,d295⟩ ⟨h288,i289⟩
   obtain ⟨y298,ey298,hm⟩:=bind_s hm
   refine rn_app_k (fun ⟨σ,H,_⟩=>Lk σ 162 (.bool (y298)) ∧ Iv c.nb [] H0 H) (fun J hJ=>?_) ?_
   ·skip
    cases g302:(!decide (v269.2 = 0)) || (((decide (v286.2 = 0)) && (decide (v56.1 ≤ v286.1))) && (decide (v269.1 ≤ v286.1)))
    ·skip
     have ey298:=cond_f ey298 g302
     obtain rfl:=Option.some.inj ey298
     simp only [C.f10r14p1,R,Nat.reduceEqDiff,h288,↓g302]
     exact hJ _ ⟨(by first | rfl | (simp only [↓g302]; rfl) | simp only [↓g302,Lk,RB,Nat.reduceEqDiff,not_false_eq_true]),i289⟩
    ·skip
     have ey298:=cond_t ey298 g302
     obtain ⟨v304,ev304,ey298⟩:=bind_s ey298
     have a303:=z_dI c.ro H287  v304 (tabIv1 i289 hnb hG1) ev304
     obtain rfl:=Option.some.inj ey298
     simp only [C.f10r14p1,R,Nat.reduceEqDiff,h288,↓g302,c_fn F25,a303]
     exact hJ _ ⟨(by first | rfl | (simp only [↓g302]; rfl) | simp only [↓g302,Lk,RB,Nat.reduceEqDiff,not_false_eq_true]),i289⟩
   rintro ⟨σ305,H299,d306⟩ ⟨h300,i301⟩
   simp only [C.f10r14p2,R,Nat.reduceEqDiff,h300]
   refine hJ _ ?_
   refine tR ?_
   obtain rfl:=Option.some.inj hm
   exact ef1 rfl rfl
def b_cd (n:Nat) (x0:(Sl S_a)) (x1:Int):Option ((Sl S_a)):=(Sl.upto x0 (min (Sl.len x0) x1)).bind fun l25=>some l25
theorem w_fB {call:CallF} (hok:CallOk Mt call) {n:Nat} {H0:Hp} {x0:(Sl S_a)} {b0:Nat} {x1:Int} {r:(Sl S_a)} {ro:Nat} (hro:ro ≤ H0.length) (h0:SlH H0 S_a.c 72 x0 b0) (hm:b_cd n x0 x1 = some r) :
  Pt Mt ro 18 [(vAgg [slV x0 b0]),(.int .i64 x1)] H0 (vAgg [slV r b0]) H0 []:=by
 refine pt_new0 okM F18d (by exact Nat.le_of_ble_eq_true rfl) ?_ hro
 intro c hnt hnb hcr
 have hcn:c.ro ≤ c.nb:=by omega
 have l0:x0 ≠ none → b0 < c.nb:=fun h=>by rw [hnb]; exact h0.lt h
 have iv:Iv c.nb [] H0 H0:=by rw [hnb]; exact iv_refl
 rw [aI2]
 rw [b_cd] at hm
 simp only [C.f18]
 refine tS hok fun J hJ=>?_
 obtain ⟨b2,H3,a4,f5,q6,r7,x8,i9⟩:=bx_ok (M:=Mt) (t:=37) (u:=(vAgg [(slV x0 b0)])) (cs:=[(slV x0 b0)]) H0 iv.le T.sz37 vAgg_cells one_sl
 have i10:=i9 _ _ iv
 obtain ⟨b12,H13,a14,f15,q16,r17,x18,i19⟩:=al_ok H3 37 [.slice none 0 0] i10.le
 have i20:=i19 _ _ i10
 have f21:=x18 _ _ f5
 simp only [C.f18r0,R,Nat.reduceEqDiff,a4,(show zc Mt.P 37 = _ from T.zc37),a14]
 refine hJ _ ?_
 refine tS hok fun J hJ=>?_
 have a23:=lo (off:=0 + 0) f21 T.ag35 Seg.refl
 have a24:=lo (off:=0 + 0) f21 T.ag35 Seg.refl
 obtain ⟨l25,el25,hm⟩:=bind_s hm
 have f26:=h0.upto el25
 have l27:=fun h=>l0 (Sl.upto_none el25 h)
 obtain ⟨H29,a30,f31,u32⟩:=st_ok (M:=Mt) (t:=37) (off:=0) (ro:=c.ro) (v:=(vAgg [(slV l25 b0)])) (c:=[(slV l25 b0)]) (cs':=[(slV l25 b0)]) f15 T.sz37 vAgg_cells one_sl (Nat.le_trans hcn r17) (Nat.le_refl _) rfl
 have i33:=i20.up u32 r17
 have f34:=(u32.get _ (ne_len f5 q16)).trans f21
 simp only [C.f18r1,R,Nat.reduceEqDiff,fa37_0,a23,a24,ln35,sl_upto (M:=Mt) Tryz.underlying35 T.sz72 (by decide) S_a.enc.len (h0.iv l0 (fun _=>by simp) i20) el25,bd_wr (M:=Mt) (x:=l25) (b:=b0) (show zc Mt.P 37 = _ from T.zc37) pl37,a30]
 refine hJ _ ?_
 refine tR ?_
 obtain rfl:=Option.some.inj hm
 refine end_old (.inl rfl) (vs:=[(vAgg [(slV l25 b0)])]) (resC' (v:=(vAgg [(slV l25 b0)])) rfl (ldv_of (ld_agg (M:=Mt) (t:=37) (c:=[(slV l25 b0)]) f31 T.ag37 T.sz37 Seg.refl)) resN) ?_
 intro v hv i hi
 simp only [List.mem_singleton] at hv; subst hv
 rw [← hnb]; exact slV_lt l27 i (by simpa [vAgg] using hi)
def b_bX (c_cG:T_dA) (c_e:T_bb) (c_cE:T_dB) (n:Nat) (x0:(Sl S_a)) (x1:Int):Option (Int × Int):=(c_cG x0).bind fun v16=>bif !decide (v16 = 0) then (some (0,v16)) else (bif (decide (x1 < 0)) || (decide (10000 < x1)) then (some (0,1)) else ((c_cE x0 x1).bind fun v34=>(ck (Sl.l v34).length (IntKind.i64.wrap ((Sl.len x0) - 1))).bind fun j46=>(c_e (Sl.nth v34 j46)).bind fun v51=>some (IntKind.i64.wrap (v51 + 1),0)))
theorem w_fr {call:CallF} (hok:CallOk Mt call) {n:Nat} {c_cG:T_dA} (z_fv:A_em call c_cG) {c_e:T_bb} (z_bi:A_dz call c_e) {c_cE:T_dB} (z_ft:A_eq call c_cE) {H0:Hp} {x0:(Sl S_a)} {b0:Nat} {x1:Int} {r:Int × Int} {ro:Nat} (hro:ro ≤ H0.length) (h0:SlH H0 S_a.c 72 x0 b0) (hm:b_bX c_cG c_e c_cE n x0 x1 = some r) :
  Pt Mt ro 20 [(vAgg [slV x0 b0]),(.int .i64 x1)] H0 (.tuple [(.int .i64 (r.1)),(.int .i64 (r.2))].toArray) H0 []:=by
 refine pt_new0 okM F20d (by exact Nat.le_of_ble_eq_true rfl) ?_ hro
 intro c hnt hnb hcr
 have hcn:c.ro ≤ c.nb:=by omega
 have l0:x0 ≠ none → b0 < c.nb:=fun h=>by rw [hnb]; exact h0.lt h
 have iv:Iv c.nb [] H0 H0:=by rw [hnb]; exact iv_refl
 rw [aI2]
 rw [b_bX] at hm
 simp only [C.f20]
 refine tS hok fun J hJ=>?_
 obtain ⟨b2,H3,a4,f5,q6,r7,x8,i9⟩:=bx_ok (M:=Mt) (t:=37) (u:=(vAgg [(slV x0 b0)])) (cs:=[(slV x0 b0)]) H0 iv.le T.sz37 vAgg_cells one_sl
 have i10:=i9 _ _ iv
 simp only [C.f20r0,R,Nat.reduceEqDiff,a4]
 refine hJ _ ?_
 refine tk_seq_k fun K n12 x13=>?_
 refine tS hok fun J hJ=>?_
 have a14:=ld_agg (M:=Mt) (t:=37) (off:=0) (c:=[(slV x0 b0)]) f5 T.ag37 T.sz37 Seg.refl
 obtain ⟨v16,ev16,hm⟩:=bind_s hm
 have a15:=z_fv c.ro H3 x0 b0 v16 (h0.iv l0 (fun _=>by simp) i10) ev16
 simp only [C.f20r1,R,Nat.reduceEqDiff,a14,c_fn F40,a15]
 refine hJ _ ?_
 refine tS hok fun J hJ=>?_
 simp only [C.f20r2,R,Nat.reduceEqDiff]
 refine hJ _ ?_
 refine tC rfl hm (fun g17 hm=>?_) (fun g17 hm=>?_)
 ·skip
  refine tS hok fun J hJ=>?_
  simp only [C.f20r3,R,Nat.reduceEqDiff]
  refine hJ _ ?_
  refine tR ?_
  refine x13 _ _ (by simp) ?_
  obtain rfl:=Option.some.inj hm
  exact end_flat (.inl rfl) (vs:=[(.int .i64 (0)),(.int .i64 (v16))]) (resT' (v:=(.int .i64 (0))) rfl (resT' (v:=(.int .i64 (v16))) rfl resN)) (fm_cons rfl (fm_cons rfl fm_nil))
 ·skip
  refine tK ?_
  refine n12 _ ?_
  refine tk_seq_k fun K n18 x19=>?_
  refine tS hok fun J hJ=>?_
  refine rn_k (fun ⟨σ,H,_⟩=>Lk σ 1 (.int .i64 (x1)) ∧ Lk σ 2 (.pointer (some ⟨b2,0,none⟩)) ∧ Lk σ 17 (.bool ((decide (x1 < 0)) || (decide (10000 < x1)))) ∧ H[b2]? = some (.cells [(slV x0 b0)] 37) ∧ Iv c.nb [] H0 H) (fun J hJ=>?_) ?_
  ·skip
   cases g26:decide (x1 < 0)
   ·skip
    simp only [C.f20r4,R,Nat.reduceEqDiff,g26]
    exact hJ _ ⟨(by first | rfl | (simp only [g26]; rfl) | simp only [g26,Lk,RB,Nat.reduceEqDiff,not_false_eq_true]),rfl,(by first | rfl | (simp only [g26]; rfl) | simp only [g26,Lk,RB,Nat.reduceEqDiff,not_false_eq_true]),f5,i10⟩
   ·skip
    simp only [C.f20r4,R,Nat.reduceEqDiff,g26]
    exact hJ _ ⟨(by first | rfl | (simp only [g26]; rfl) | simp only [g26,Lk,RB,Nat.reduceEqDiff,not_false_eq_true]),rfl,(by first | rfl | (simp only [g26]; rfl) | simp only [g26,Lk,RB,Nat.reduceEqDiff,not_false_eq_true]),f5,i10⟩
  rintro ⟨σ27,H20,d28⟩ ⟨h21,h22,h23,f24,i25⟩
  refine hJ _ ?_
  refine tC h23 hm (fun g29 hm=>?_) (fun g29 hm=>?_)
  ·skip
   refine tS hok fun J hJ=>?_
   simp only [C.f20r5,R,Nat.reduceEqDiff]
   refine hJ _ ?_
   refine tR ?_
   refine x19 _ _ (by simp) ?_
   obtain rfl:=Option.some.inj hm
   exact end_flat (.inl rfl) (vs:=[(.int .i64 (0)),(.int .i64 (1))]) (resT' (v:=(.int .i64 (0))) rfl (resT' (v:=(.int .i64 (1))) rfl resN)) (fm_cons rfl (fm_cons rfl fm_nil))
  ·skip
   refine tK ?_
   refine n18 _ ?_
   refine tS hok fun J hJ=>?_
   have a30:=ld_agg (M:=Mt) (t:=37) (off:=0) (c:=[(slV x0 b0)]) f24 T.ag37 T.sz37 Seg.refl
   obtain ⟨R32,q33⟩:∃ b,b = H20.length:=⟨_,rfl⟩
   obtain ⟨v34,ev34,hm⟩:=bind_s hm
   have a31:=z_ft R32 H20 x0 b0 x1 v34 (h0.iv l0 (fun _=>by simp) i25) ev34
   obtain ⟨H35,q36⟩:∃ x,x = H20 ++ slB (cInt .i64) 3 v34:=⟨_,rfl⟩
   obtain ⟨b37,q38⟩:∃ b,b = H20.length:=⟨_,rfl⟩
   rw [← q36,← q38] at a31
   have x42:Ex H20 H35:=by rw [q36]; exact ex_app
   have i40:Iv c.nb [] H0 H35:=by rw [q36]; exact i25.app
   have f39:SlO c.nb H35 (cInt .i64) 3 v34 b37:=by rw [q36,q38]; exact slB_own i25.le
   have r41:c.nb ≤ b37:=by rw [q38]; exact i25.le
   rw [q33] at a31
   have f43:=x42 _ _ f24
   have a45:=lo (off:=0 + 0) f43 T.ag35 Seg.refl
   obtain ⟨j46,ej46,hm⟩:=bind_s hm
   obtain ⟨mm47,k48⟩:=f39.h.blk (ck_lt ej46).1
   have a49:=lso k48 T.ag3 (seg_sl enc_int.len mm47 (ck_lt ej46).1)
   obtain ⟨v51,ev51,hm⟩:=bind_s hm
   have a50:=z_bi H35.length H35 (Sl.nth v34 j46) v51 ev51
   simp only [C.f20r6,R,Nat.reduceEqDiff,s_pt,s_gt,isW,Bool.false_eq_true,if_false,if_true,reduceIte,a30,h22,h21,c_fn F52,a31,fa37_0,a45,ln35,ia100,ej46,a49,c_fn F51,a50]
   refine hJ _ ?_
   refine tR ?_
   obtain rfl:=Option.some.inj hm
   exact end_flat (.inl rfl) (vs:=[(.int .i64 (IntKind.i64.wrap (v51 + 1))),(.int .i64 (0))]) (resT' (v:=(.int .i64 (IntKind.i64.wrap (v51 + 1)))) rfl (resT' (v:=(.int .i64 (0))) rfl resN)) (fm_cons rfl (fm_cons rfl fm_nil))
def b_R (c_q:T_bz) (c_4:T_cq) (c_bt:T_cU) (n:Nat) (x0:(Sl S_a)):Nat → Int → Nat → Int → Int → Option (Nat × Int)
 | 0,_,_,_,_=>none
 | k + 1,x6_24,x8_25,x22_26,x23_27=>bif decide (x23_27 < x22_26) then ((Ieee.double.add x8_25 x8_25).bind fun v46=>b_R c_q c_4 c_bt n x0 k x6_24 v46 x22_26 (IntKind.i64.wrap (x23_27 + 1))) else ((bif decide (2000 < x6_24) then ((c_4 x8_25 1).bind fun v50=>some (!v50)) else some false).bind fun y51=>bif y51 then ((c_bt 1).bind fun v63=>some (v63,0)) else (some (x8_25,0)))
def b_cf (c_q:T_bz) (c_4:T_cq) (c_bt:T_cU) (n:Nat) (x0:(Sl S_a)) (x1:Int):Option (Nat × Int):=(c_q x0 x1).bind fun v14=>bif !decide (v14.2 = 0) then (some ((0:Nat),v14.2)) else ((Ieee.double.add (fnear x1) ((4607182418800017408:Nat))).bind fun v18=>b_R c_q c_4 c_bt n x0 n v14.1 v18 (min v14.1 2000) 0)
theorem w_fl {call:CallF} (hok:CallOk Mt call) {n:Nat} {c_q:T_bz} (z_6:A_de call c_q) {c_4:T_cq} (z_fj:A_ea call c_4) {c_bt:T_cU} (z_fD:A_eM call c_bt) {H0:Hp} {x0:(Sl S_a)} {b0:Nat} {x1:Int} {r:Nat × Int} {ro:Nat} (hro:ro ≤ H0.length) (h0:SlH H0 S_a.c 72 x0 b0) (hm:b_cf c_q c_4 c_bt n x0 x1 = some r) :
  Pt Mt ro 22 [(vAgg [slV x0 b0]),(.int .i64 x1)] H0 (.tuple [(.float .f64 (r.1)),(.int .i64 (r.2))].toArray) H0 []:=by
 refine pt_new0 okM F22d (by exact Nat.le_of_ble_eq_true rfl) ?_ hro
 intro c hnt hnb hcr
 have hcn:c.ro ≤ c.nb:=by omega
 have l0:x0 ≠ none → b0 < c.nb:=fun h=>by rw [hnb]; exact h0.lt h
 have iv:Iv c.nb [] H0 H0:=by rw [hnb]; exact iv_refl
 rw [aI2]
 rw [b_cf] at hm
 simp only [C.f22,C.f22b0]
 refine tS hok fun J hJ=>?_
 obtain ⟨b2,H3,a4,f5,q6,r7,x8,i9⟩:=bx_ok (M:=Mt) (t:=37) (u:=(vAgg [(slV x0 b0)])) (cs:=[(slV x0 b0)]) H0 iv.le T.sz37 vAgg_cells one_sl
 have i10:=i9 _ _ iv
 simp only [C.f22r0,R,Nat.reduceEqDiff,a4]
 refine hJ _ ?_
 refine tS hok fun J hJ=>?_
 have a12:=ld_agg (M:=Mt) (t:=37) (off:=0) (c:=[(slV x0 b0)]) f5 T.ag37 T.sz37 Seg.refl
 obtain ⟨v14,ev14,hm⟩:=bind_s hm
 have a13:=z_6 c.ro H3 x0 b0 x1 v14 (h0.iv l0 (fun _=>by simp) i10) ev14
 simp only [C.f22r1,R,Nat.reduceEqDiff,a12,c_fn F20,a13]
 refine hJ _ ?_
 refine tk_seq_k fun K n15 x16=>?_
 refine tS hok fun J hJ=>?_
 simp only [C.f22r2,R,Nat.reduceEqDiff]
 refine hJ _ ?_
 refine tC rfl hm (fun g17 hm=>?_) (fun g17 hm=>?_)
 ·skip
  refine tS hok fun J hJ=>?_
  simp only [C.f22r3,R,Nat.reduceEqDiff]
  refine hJ _ ?_
  refine tR ?_
  refine x16 _ _ (by simp) ?_
  obtain rfl:=Option.some.inj hm
  exact end_flat (.inl rfl) (vs:=[(.float .f64 ((0:Nat))),(.int .i64 (v14.2))]) (resT' (v:=(.float .f64 ((0:Nat)))) rfl (resT' (v:=(.int .i64 (v14.2))) rfl resN)) (fm_cons rfl (fm_cons rfl fm_nil))
 ·skip
  refine tK ?_
  refine n15 _ ?_
  refine tS hok fun J hJ=>?_
  obtain ⟨v18,ev18,hm⟩:=bind_s hm
  simp only [C.f22r4,R,Nat.reduceEqDiff,cv_i2f (M:=Mt) Tryz.underlying3 Tryz.underlying44,bin_fadd,ev18]
  refine hJ _ ?_
  refine tk_seq_k fun K n19 x20=>?_
  refine tS hok fun J hJ=>?_
  simp only [C.f22r5,R,Nat.reduceEqDiff]
  refine hJ _ ?_
  refine tk_block_k fun K n21 e22 x23=>?_
  refine tk_loop_k (n:=n) (fun k1 ⟨σ,H,_⟩=>∃ x6_24 x8_25 x22_26 x23_27,b_R c_q c_4 c_bt n x0 k1 x6_24 x8_25 x22_26 x23_27 = some r ∧ Lk σ 6 (.int .i64 x6_24) ∧ Lk σ 8 (.float .f64 x8_25) ∧ Lk σ 22 (.int .i64 x22_26) ∧ Lk σ 23 (.int .i64 x23_27) ∧ Iv c.nb [] H0 H) ?_ ?_ ?_
  ·exact ⟨v14.1,v18,min v14.1 2000,0,hm,rfl,rfl,rfl,rfl,i10⟩
  ·rintro ⟨σ,H,d⟩ ⟨_,_,_,_,hm,_⟩
   cases hm
  ·intro k1 K n28 x29
   rintro ⟨σ36,H30,d37⟩ ⟨x6_24,x8_25,x22_26,x23_27,hm,h31,h32,h33,h34,i35⟩
   rw [b_R.eq_2] at hm
   refine tS hok fun J hJ=>?_
   simp only [C.f22r6,R,Nat.reduceEqDiff,h34,h33]
   refine hJ _ ?_
   refine tk_seq_k fun K n38 x39=>?_
   refine tC rfl hm (fun g40 hm=>?_) (fun g40 hm=>?_)
   ·skip
    refine tK ?_
    refine n38 _ ?_
    refine tk_seq_k fun K n41 x42=>?_
    refine tk_block_k fun K n43 e44 x45=>?_
    refine tE hok fun J hJ=>?_
    obtain ⟨v46,ev46,hm⟩:=bind_s hm
    simp only [C.f22r7,R,Nat.reduceEqDiff,h32,bin_fadd,ev46]
    refine hJ _ ?_
    refine n43 _ ?_
    refine n41 _ ?_
    refine tE hok fun J hJ=>?_
    simp only [C.f22r8,R,Nat.reduceEqDiff,h34]
    refine hJ _ ?_
    refine n28 _ ?_
    exact ⟨x6_24,v46,x22_26,IntKind.i64.wrap (x23_27 + 1),hm,h31,rfl,h33,rfl,i35⟩
   ·skip
    refine tX ?_
    refine x39 _ _ (by simp) ?_
    refine x29 _ _ (by simp) ?_
    refine e22 _ ?_
    refine n19 _ ?_
    refine tk_seq_k fun K n47 x48=>?_
    refine tS hok fun J hJ=>?_
    obtain ⟨y51,ey51,hm⟩:=bind_s hm
    refine rn_k (fun ⟨σ,H,_⟩=>Lk σ 8 (.float .f64 (x8_25)) ∧ Lk σ 35 (.bool (y51)) ∧ Iv c.nb [] H0 H) (fun J hJ=>?_) ?_
    ·skip
     cases g56:decide (2000 < x6_24)
     ·skip
      have ey51:=cond_f ey51 g56
      obtain rfl:=Option.some.inj ey51
      simp only [C.f22r9,R,Nat.reduceEqDiff,h31,g56]
      exact hJ _ ⟨h32,(by first | rfl | (simp only [g56]; rfl) | simp only [g56,Lk,RB,Nat.reduceEqDiff,not_false_eq_true]),i35⟩
     ·skip
      have ey51:=cond_t ey51 g56
      obtain ⟨v58,ev58,ey51⟩:=bind_s ey51
      have a57:=z_fj c.ro H30 x8_25 1 v58 ev58
      obtain rfl:=Option.some.inj ey51
      simp only [C.f22r9,R,Nat.reduceEqDiff,h31,g56,h32,c_fn F55,a57]
      exact hJ _ ⟨h32,(by first | rfl | (simp only [g56]; rfl) | simp only [g56,Lk,RB,Nat.reduceEqDiff,not_false_eq_true]),i35⟩
    rintro ⟨σ59,H52,d60⟩ ⟨h53,h54,i55⟩
    refine hJ _ ?_
    refine tC h54 hm (fun g61 hm=>?_) (fun g61 hm=>?_)
    ·skip
     refine tS hok fun J hJ=>?_
     obtain ⟨v63,ev63,hm⟩:=bind_s hm
     have a62:=z_fD c.ro H52 1 v63 ev63
     simp only [C.f22r10,R,Nat.reduceEqDiff,c_fn F56,a62]
     refine hJ _ ?_
     refine tR ?_
     refine x48 _ _ (by simp) ?_
     obtain rfl:=Option.some.inj hm
     exact end_flat (.inl rfl) (vs:=[(.float .f64 (v63)),(.int .i64 (0))]) (resT' (v:=(.float .f64 (v63))) rfl (resT' (v:=(.int .i64 (0))) rfl resN)) (fm_cons rfl (fm_cons rfl fm_nil))
    ·skip
     refine tK ?_
     refine n47 _ ?_
     refine tS hok fun J hJ=>?_
     simp only [C.f22r11,R,Nat.reduceEqDiff,h53]
     refine hJ _ ?_
     refine tR ?_
     obtain rfl:=Option.some.inj hm
     exact end_flat (.inl rfl) (vs:=[(.float .f64 (x8_25)),(.int .i64 (0))]) (resT' (v:=(.float .f64 (x8_25))) rfl (resT' (v:=(.int .i64 (0))) rfl resN)) (fm_cons rfl (fm_cons rfl fm_nil))
def b_cY (c_k:T_Q) (c_W:T_b0) (n:Nat) (x0:(Sl S_a)):Option (Int):=bif decide (500 < (Sl.len x0)) then (some 0) else ((c_k x0).bind fun v20=>bif !v20.2 then (some 0) else ((c_W x0).bind fun v36=>(ck (Sl.l v36).length (IntKind.i64.wrap ((Sl.len x0) - 1))).bind fun j48=>some (Sl.nth v36 j48)))
theorem w_fU {call:CallF} (hok:CallOk Mt call) {n:Nat} {c_k:T_Q} (z_bZ:A_cB call c_k) {c_W:T_b0} (z_cR:A_c8 call c_W) {H0:Hp} {x0:(Sl S_a)} {b0:Nat} {r:Int} {ro:Nat} (hro:ro ≤ H0.length) (h0:SlH H0 S_a.c 72 x0 b0) (hm:b_cY c_k c_W n x0 = some r) :
  Pt Mt ro 32 [(vAgg [slV x0 b0])] H0 (.int .i64 (r)) H0 []:=by
 refine pt_new0 okM F32d (by exact Nat.le_of_ble_eq_true rfl) ?_ hro
 intro c hnt hnb hcr
 have hcn:c.ro ≤ c.nb:=by omega
 have l0:x0 ≠ none → b0 < c.nb:=fun h=>by rw [hnb]; exact h0.lt h
 have iv:Iv c.nb [] H0 H0:=by rw [hnb]; exact iv_refl
 rw [aI1]
 rw [b_cY] at hm
 simp only [C.f32]
 refine tS hok fun J hJ=>?_
 obtain ⟨b2,H3,a4,f5,q6,r7,x8,i9⟩:=bx_ok (M:=Mt) (t:=37) (u:=(vAgg [(slV x0 b0)])) (cs:=[(slV x0 b0)]) H0 iv.le T.sz37 vAgg_cells one_sl
 have i10:=i9 _ _ iv
 simp only [C.f32r0,R,Nat.reduceEqDiff,a4]
 refine hJ _ ?_
 refine tk_seq_k fun K n12 x13=>?_
 refine tS hok fun J hJ=>?_
 have a14:=lo (off:=0 + 0) f5 T.ag35 Seg.refl
 simp only [C.f32r1,R,Nat.reduceEqDiff,fa37_0,a14,ln35]
 refine hJ _ ?_
 refine tC rfl hm (fun g15 hm=>?_) (fun g15 hm=>?_)
 ·skip
  refine tS hok fun J hJ=>?_
  simp only [C.f32r2,R,Nat.reduceEqDiff]
  refine hJ _ ?_
  refine tR ?_
  refine x13 _ _ (by simp) ?_
  obtain rfl:=Option.some.inj hm
  exact ef1 rfl rfl
 ·skip
  refine tK ?_
  refine n12 _ ?_
  refine tk_seq_k fun K n16 x17=>?_
  refine tS hok fun J hJ=>?_
  have a18:=ld_agg (M:=Mt) (t:=37) (off:=0) (c:=[(slV x0 b0)]) f5 T.ag37 T.sz37 Seg.refl
  obtain ⟨v20,ev20,hm⟩:=bind_s hm
  have a19:=z_bZ c.ro H3 x0 b0 v20 (h0.iv l0 (fun _=>by simp) i10) ev20
  obtain ⟨H21,q22⟩:∃ x,x = H3 ++ slB (cInt .i64) 3 v20.1:=⟨_,rfl⟩
  obtain ⟨b23,q24⟩:∃ b,b = H3.length:=⟨_,rfl⟩
  rw [← q22,← q24] at a19
  have x28:Ex H3 H21:=by rw [q22]; exact ex_app
  have i26:Iv c.nb [] H0 H21:=by rw [q22]; exact i10.app
  have f25:SlO c.nb H21 (cInt .i64) 3 v20.1 b23:=by rw [q22,q24]; exact slB_own i10.le
  have r27:c.nb ≤ b23:=by rw [q24]; exact i10.le
  have f29:=x28 _ _ f5
  simp only [C.f32r3,R,Nat.reduceEqDiff,a18,c_fn F62,a19]
  refine hJ _ ?_
  refine tS hok fun J hJ=>?_
  simp only [C.f32r4,R,Nat.reduceEqDiff]
  refine hJ _ ?_
  refine tC rfl hm (fun g31 hm=>?_) (fun g31 hm=>?_)
  ·skip
   refine tS hok fun J hJ=>?_
   simp only [C.f32r5,R,Nat.reduceEqDiff]
   refine hJ _ ?_
   refine tR ?_
   refine x17 _ _ (by simp) ?_
   obtain rfl:=Option.some.inj hm
   exact ef1 rfl rfl
  ·skip
   refine tK ?_
   refine n16 _ ?_
   refine tS hok fun J hJ=>?_
   have a32:=ld_agg (M:=Mt) (t:=37) (off:=0) (c:=[(slV x0 b0)]) f29 T.ag37 T.sz37 Seg.refl
   obtain ⟨R34,q35⟩:∃ b,b = H21.length:=⟨_,rfl⟩
   obtain ⟨v36,ev36,hm⟩:=bind_s hm
   have a33:=z_cR R34 H21 x0 b0 v36 (h0.iv l0 (fun _=>by simp) i26) ev36
   obtain ⟨H37,q38⟩:∃ x,x = H21 ++ slB (cInt .i64) 3 v36:=⟨_,rfl⟩
   obtain ⟨b39,q40⟩:∃ b,b = H21.length:=⟨_,rfl⟩
   rw [← q38,← q40] at a33
   have x44:Ex H21 H37:=by rw [q38]; exact ex_app
   have i42:Iv c.nb [] H0 H37:=by rw [q38]; exact i26.app
   have f41:SlO c.nb H37 (cInt .i64) 3 v36 b39:=by rw [q38,q40]; exact slB_own i26.le
   have r43:c.nb ≤ b39:=by rw [q40]; exact i26.le
   rw [q35] at a33
   have f45:=x44 _ _ f29
   have a47:=lo (off:=0 + 0) f45 T.ag35 Seg.refl
   obtain ⟨j48,ej48,hm⟩:=bind_s hm
   obtain ⟨mm49,k50⟩:=f41.h.blk (ck_lt ej48).1
   have a51:=lso k50 T.ag3 (seg_sl enc_int.len mm49 (ck_lt ej48).1)
   simp only [C.f32r6,R,Nat.reduceEqDiff,s_pt,s_gt,isW,Bool.false_eq_true,if_false,if_true,reduceIte,a32,c_fn F63,a33,fa37_0,a47,ln35,ia100,ej48,a51]
   refine hJ _ ?_
   refine tR ?_
   obtain rfl:=Option.some.inj hm
   exact ef1 rfl rfl
def b_cV (n:Nat) (x0:(Sl S_a)) (x1:S_a):Option ((Sl S_a)):=(Sl.make 96 (Sl.len x0) (IntKind.i64.wrap ((Sl.len x0) + 1)) (S_a.zero:S_a)).bind fun l37=>(Sl.app 96 (Sl.copy l37 x0) (some ([S_a.w2 ({ x1 with f_A:=IntKind.i64.wrap ((Sl.len l37) - 1) }) 0]:List S_a))).bind fun v88=>some v88
theorem w_fX {call:CallF} (hok:CallOk Mt call) {n:Nat} {H0:Hp} {x0:(Sl S_a)} {b0:Nat} {x1:S_a} {r:(Sl S_a)} {ro:Nat} (hro:ro ≤ H0.length) (h0:SlH H0 S_a.c 72 x0 b0) (hm:b_cV n x0 x1 = some r) :
  Pt Mt ro 33 [(vAgg [slV x0 b0]),(vAgg (S_a.c x1))] H0 (vAgg [slV r H0.length]) (H0 ++ slB S_a.c 72 r) []:=by
 refine pt_new okM F33d (by exact Nat.le_of_ble_eq_true rfl) ?_ hro
 intro c hnt hnb hcr
 have hcn:c.ro ≤ c.nb:=by omega
 have l0:x0 ≠ none → b0 < c.nb:=fun h=>by rw [hnb]; exact h0.lt h
 have iv:Iv c.nb [] H0 H0:=by rw [hnb]; exact iv_refl
 rw [aI2]
 rw [b_cV] at hm
 simp only [C.f33]
 refine tS hok fun J hJ=>?_
 obtain ⟨b2,H3,a4,f5,q6,r7,x8,i9⟩:=bx_ok (M:=Mt) (t:=37) (u:=(vAgg [(slV x0 b0)])) (cs:=[(slV x0 b0)]) H0 iv.le T.sz37 vAgg_cells one_sl
 have i10:=i9 _ _ iv
 obtain ⟨b12,H13,a14,f15,q16,r17,x18,i19⟩:=bx_ok (M:=Mt) (t:=72) (u:=(vAgg (S_a.c (x1)))) (cs:=S_a.c x1) H3 i10.le (by rw [S_a.enc.len]; exact T.sz72) vAgg_cells (S_a.enc.one _)
 have i20:=i19 _ _ i10
 have f21:=x18 _ _ f5
 obtain ⟨b23,H24,a25,f26,q27,r28,x29,i30⟩:=al_ok H13 37 [.slice none 0 0] i20.le
 have i31:=i30 _ _ i20
 have f32:=x29 _ _ f21
 have f33:=x29 _ _ f15
 simp only [C.f33r0,R,Nat.reduceEqDiff,a4,a14,(show zc Mt.P 37 = _ from T.zc37),a25]
 refine hJ _ ?_
 refine tS hok fun J hJ=>?_
 have a35:=lo (off:=0 + 0) f32 T.ag35 Seg.refl
 have a36:=lo (off:=0 + 0) f32 T.ag35 Seg.refl
 obtain ⟨l37,el37,hm⟩:=bind_s hm
 obtain ⟨b38,H39,a40,f41,q42,r43,x44,i45⟩:=mk_ok (M:=Mt) (t:=35) (e:=72) (k:=.i64) (k':=.i64) H24 i31.le Tryz.underlying35 T.by72 zs72 el37
 have i46:=i45 _ _ i31
 have f47:=x44 _ _ f32
 have f48:=x44 _ _ f33
 have f49:=x44 _ _ f26
 simp only [C.f33r1,R,Nat.reduceEqDiff,fa37_0,a35,ln35,a36,o_makeSlice,a40]
 refine hJ _ ?_
 refine tS hok fun J hJ=>?_
 have a51:=lo (off:=0 + 0) f47 T.ag35 Seg.refl
 obtain ⟨H52,a53,f54,u55⟩:=cp_ok (M:=Mt) (t:=35) (u:=35) (nb:=c.nb) (x:=l37) (y:=x0) (b:=b38) (b2:=b0) Tryz.underlying35 T.sz72 S_a.enc f41 (h0.iv l0 (fun _=>by simp) i46) hcn
 have i56:=i46.up u55 r43
 have f57:=(u55.get _ (ne_len f32 q42)).trans f47
 have f58:=(u55.get _ (ne_len f33 q42)).trans f48
 have f59:=(u55.get _ (ne_len f26 q42)).trans f49
 simp only [C.f33r2,R,Nat.reduceEqDiff,fa37_0,a51,c_f2,a53]
 refine hJ _ ?_
 refine tS hok fun J hJ=>?_
 obtain ⟨H60,a61,f62,u63⟩:=st_ok (M:=Mt) (t:=3) (v:=(.int .i64 (IntKind.i64.wrap ((Sl.len l37) - 1)))) (c:=(cInt .i64) (IntKind.i64.wrap ((Sl.len l37) - 1))) (cs':=S_a.c ({ x1 with f_A:=IntKind.i64.wrap ((Sl.len l37) - 1) })) f58 (by rw [enc_int.len]; exact T.sz3) rfl (enc_int.one _) (Nat.le_trans hcn r17) (Nat.le_trans (Nat.le_of_eq (congrArg _ (eqL enc_int.len))) (Seg.refl.sub (S_a.seg1 x1)).2) (by rw [Nat.zero_add,S_a.wr1 x1 (IntKind.i64.wrap ((Sl.len l37) - 1))])
 have i64:=i56.up u63 r17
 have f65:=(u63.get _ (ne_len f15 q27).symm).trans f59
 have f66:=f54.up u63 (fun h=>(fun _=>(ne_len f33 q42).symm) (by simpa only [Sl.put_none,Sl.copy_none] using h))
 obtain ⟨H67,a68,f69,u70⟩:=st_ok (M:=Mt) (t:=3) (v:=(.int .i64 (0))) (c:=(cInt .i64) 0) (cs':=S_a.c (S_a.w2 ({ x1 with f_A:=IntKind.i64.wrap ((Sl.len l37) - 1) }) 0)) f62 (by rw [enc_int.len]; exact T.sz3) rfl (enc_int.one _) (Nat.le_trans hcn r17) (Nat.le_trans (Nat.le_of_eq (congrArg _ (eqL enc_int.len))) (Seg.refl.sub (S_a.seg2 ({ x1 with f_A:=IntKind.i64.wrap ((Sl.len l37) - 1) }))).2) (by rw [Nat.zero_add,S_a.wr2 ({ x1 with f_A:=IntKind.i64.wrap ((Sl.len l37) - 1) }) 0])
 have i71:=i64.up u70 r17
 have f72:=(u70.get _ (ne_len f15 q27).symm).trans f65
 have f73:=f66.up u70 (fun h=>(fun _=>(ne_len f33 q42).symm) (by simpa only [Sl.put_none,Sl.copy_none] using h))
 simp only [C.f33r3,R,Nat.reduceEqDiff,ln35,fa72_1,a61,fa72_2,a68]
 refine hJ _ ?_
 refine tS hok fun J hJ=>?_
 have a74:=la f69 T.ag72 (by rw [S_a.enc.len]; exact T.sz72) Seg.refl
 obtain ⟨b75,H76,a77,f78,q79,r80,x81,i82⟩:=bs_ok (M:=Mt) (t:=35) (e:=72) (c:=S_a.c) (l:=([S_a.w2 ({ x1 with f_A:=IntKind.i64.wrap ((Sl.len l37) - 1) }) 0]:List S_a)) (ps:=[(0,(vAgg (S_a.c (S_a.w2 ({ x1 with f_A:=IntKind.i64.wrap ((Sl.len l37) - 1) }) 0))))]) (n:=1) H67 i71.le Tryz.underlying35 (zs72) rfl (by simp only [S_a.enc.len,List.length_cons,List.length_nil]; decide) (fun _=>by rw [S_a.enc.len,S_a.enc.len]) S_a.enc.one rfl rfl
 have i83:=i82 _ _ i71
 have f84:=x81 _ _ f69
 have f85:=x81 _ _ f72
 have f86:=f73.ex x81
 obtain ⟨v88,ev88,hm⟩:=bind_s hm
 obtain ⟨b89,H90,a91,f92,mv93,i94,nw95⟩:=app_ok (M:=Mt) (t:=35) (u:=35) (nb:=c.nb) (x:=Sl.copy l37 x0) (y:=some ([S_a.w2 ({ x1 with f_A:=IntKind.i64.wrap ((Sl.len l37) - 1) }) 0]:List S_a)) (b:=b38) (b2:=b75) Tryz.underlying35 Tryz.underlying35 T.sz72 T.by72 zs72 (by decide) (by decide) S_a.enc.len S_a.enc.one i83.le hcn f86 f78.h ev88
 simp only [slV_put,slV_copy] at a91
 have i96:=i94 _ _ i83
 have n97:=nw95 b12 (get_lt f84) (fun h=>(fun _=>(ne_len f33 q42).symm) (by simpa only [Sl.put_none,Sl.copy_none] using h))
 have n98:=nw95 b23 (get_lt f85) (fun h=>(fun _=>(ne_len f26 q42).symm) (by simpa only [Sl.put_none,Sl.copy_none] using h))
 have f99:=mv93.2 _ _ (fun h=>((fun h=>(fun _=>(ne_len f33 q42).symm) (by simpa only [Sl.put_none,Sl.copy_none] using h)) h).symm) f84
 have f100:=mv93.2 _ _ (fun h=>((fun h=>(fun _=>(ne_len f26 q42).symm) (by simpa only [Sl.put_none,Sl.copy_none] using h)) h).symm) f85
 obtain ⟨H102,a103,f104,u105⟩:=st_ok (M:=Mt) (t:=37) (off:=0) (ro:=c.ro) (v:=(vAgg [(slV v88 b89)])) (c:=[(slV v88 b89)]) (cs':=[(slV v88 b89)]) f100 T.sz37 vAgg_cells one_sl (Nat.le_trans hcn r28) (Nat.le_refl _) rfl
 have i106:=i96.up u105 r28
 have f107:=(u105.get _ (ne_len f15 q27)).trans f99
 have f108:=f92.up u105 n98
 simp only [C.f33r4,R,Nat.reduceEqDiff,a74,a77,a91,bd_wr (M:=Mt) (x:=v88) (b:=b89) (show zc Mt.P 37 = _ from T.zc37) pl37,a103]
 refine hJ _ ?_
 refine tR ?_
 obtain rfl:=Option.some.inj hm
 exact end_wr1 (P:=Mt.P) (rs:=[(.cell 4 37)]) (pre:=[]) (post:=[]) (x:=v88) (b:=b89) (nb:=H0.length) (.inl rfl) (by rw [← hnb]; exact f108) S_a.enc fm_nil fm_nil (resC' (v:=(vAgg [(slV v88 b89)])) rfl (ldv_of (ld_agg (M:=Mt) (t:=37) (c:=[(slV v88 b89)]) f104 T.ag37 T.sz37 Seg.refl)) resN)
def b_bD (n:Nat) (q1:Int → Int → Int → Option (Int)) (x0:(Sl S_a)) (x3_34:Int) (x8_35:Int) (x9_36:Int):Option (Int):=q1 x3_34 x8_35 (IntKind.i64.wrap (x9_36 + 1))
def b_K (n:Nat) (x0:(Sl S_a)):Nat → Int → Int → Int → Option (Int)
 | 0,_,_,_=>none
 | k + 1,x3_18,x8_19,x9_20=>bif decide (x9_20 < x8_19) then ((ck (Sl.l x0).length x9_20).bind fun j50=>bif decide (((Sl.nth x0 j50).f_Kind) = 11) then (b_bD n (b_K n x0 k) x0 (IntKind.i64.wrap (x3_18 + 1)) x8_19 x9_20) else (b_bD n (b_K n x0 k) x0 x3_18 x8_19 x9_20)) else (some x3_18)
def b_cv (n:Nat) (x0:(Sl S_a)):Option (Int):=b_K n x0 n 0 (Sl.len x0) 0
theorem w_fy {call:CallF} (hok:CallOk Mt call) {n:Nat} {H0:Hp} {x0:(Sl S_a)} {b0:Nat} {r:Int} {ro:Nat} (hro:ro ≤ H0.length) (h0:SlH H0 S_a.c 72 x0 b0) (hm:b_cv n x0 = some r) :
  Pt Mt ro 36 [(vAgg [slV x0 b0])] H0 (.int .i64 (r)) H0 []:=by
 refine pt_new0 okM F36d (by exact Nat.le_of_ble_eq_true rfl) ?_ hro
 intro c hnt hnb hcr
 have hcn:c.ro ≤ c.nb:=by omega
 have l0:x0 ≠ none → b0 < c.nb:=fun h=>by rw [hnb]; exact h0.lt h
 have iv:Iv c.nb [] H0 H0:=by rw [hnb]; exact iv_refl
 rw [aI1]
 rw [b_cv] at hm
 simp only [C.f36,C.f36b0]
 refine tS hok fun J hJ=>?_
 obtain ⟨b2,H3,a4,f5,q6,r7,x8,i9⟩:=bx_ok (M:=Mt) (t:=37) (u:=(vAgg [(slV x0 b0)])) (cs:=[(slV x0 b0)]) H0 iv.le T.sz37 vAgg_cells one_sl
 have i10:=i9 _ _ iv
 simp only [C.f36r0,R,Nat.reduceEqDiff,a4]
 refine hJ _ ?_
 refine tS hok fun J hJ=>?_
 simp only [C.f36r1,R,Nat.reduceEqDiff]
 refine hJ _ ?_
 refine tk_seq_k fun K n12 x13=>?_
 refine tS hok fun J hJ=>?_
 have a14:=lo (off:=0 + 0) f5 T.ag35 Seg.refl
 simp only [C.f36r2,R,Nat.reduceEqDiff,fa37_0,a14,ln35]
 refine hJ _ ?_
 refine tk_block_k fun K n15 e16 x17=>?_
 refine tk_loop_k (n:=n) (fun k1 ⟨σ,H,_⟩=>∃ x3_18 x8_19 x9_20,b_K n x0 k1 x3_18 x8_19 x9_20 = some r ∧ Lk σ 3 (.int .i64 x3_18) ∧ Lk σ 7 (slV x0 b0) ∧ Lk σ 8 (.int .i64 x8_19) ∧ Lk σ 9 (.int .i64 x9_20) ∧ Iv c.nb [] H0 H) ?_ ?_ ?_
 ·exact ⟨0,Sl.len x0,0,hm,rfl,rfl,rfl,rfl,i10⟩
 ·rintro ⟨σ,H,d⟩ ⟨_,_,_,hm,_⟩
  cases hm
 ·intro k1 K n21 x22
  rintro ⟨σ29,H23,d30⟩ ⟨x3_18,x8_19,x9_20,hm,h24,h25,h26,h27,i28⟩
  rw [b_K.eq_2] at hm
  refine tS hok fun J hJ=>?_
  simp only [C.f36r3,R,Nat.reduceEqDiff,h27,h26]
  refine hJ _ ?_
  refine tk_seq_k fun K n31 x32=>?_
  refine tC rfl hm (fun g33 hm=>?_) (fun g33 hm=>?_)
  ·skip
   refine tK ?_
   refine n31 _ ?_
   refine tk_seq_j (fun ⟨σ,H,_⟩=>∃ x3_34 x8_35 x9_36,b_bD n (b_K n x0 k1) x0 x3_34 x8_35 x9_36 = some r ∧ Lk σ 3 (.int .i64 x3_34) ∧ Lk σ 7 (slV x0 b0) ∧ Lk σ 8 (.int .i64 x8_35) ∧ Lk σ 9 (.int .i64 x9_36) ∧ Iv c.nb [] H0 H) ?_ ?_
   ·skip
    rintro ⟨σ43,H37,d44⟩ ⟨x3_34,x8_35,x9_36,hm,h38,h39,h40,h41,i42⟩
    rw [b_bD] at hm
    refine tE hok fun J hJ=>?_
    simp only [C.f36r7,R,Nat.reduceEqDiff,h41]
    refine hJ _ ?_
    refine n21 _ ?_
    exact ⟨x3_34,x8_35,IntKind.i64.wrap (x9_36 + 1),hm,h38,h39,h40,rfl,i42⟩
   ·refine fun K n45 x46=>?_
    refine tk_block_k fun K n47 e48 x49=>?_
    refine tS hok fun J hJ=>?_
    obtain ⟨j50,ej50,hm⟩:=bind_s hm
    obtain ⟨mm51,k52⟩:=(h0.iv l0 (fun _=>by simp) i28).blk (ck_lt ej50).1
    have a53:=lsa k52 T.ag72 (by rw [S_a.enc.len]; exact T.sz72) (seg_sl S_a.enc.len mm51 (ck_lt ej50).1)
    obtain ⟨b54,H55,a56,f57,q58,r59,x60,i61⟩:=al_ok H23 72 (S_a.c S_a.zero) i28.le
    have i62:=i61 _ _ i28
    obtain ⟨H64,a65,f66,u67⟩:=st_ok (M:=Mt) (t:=72) (v:=(vAgg (S_a.c (Sl.nth x0 j50)))) (c:=S_a.c (Sl.nth x0 j50)) (cs':=S_a.c (Sl.nth x0 j50)) f57 (by rw [S_a.enc.len]; exact T.sz72) vAgg_cells (S_a.enc.one _) (Nat.le_trans hcn r59) (le0 S_a.enc.len) (wrs_all (eqL S_a.enc.len))
    have i68:=i62.up u67 r59
    simp only [C.f36r4,R,Nat.reduceEqDiff,ia35,ej50,h25,h27,a53,zs72,a56,a65]
    refine hJ _ ?_
    refine tS hok fun J hJ=>?_
    have a69:=lo f66 T.ag3 (Seg.refl.sub (S_a.seg0 (Sl.nth x0 j50)))
    simp only [C.f36r5,R,Nat.reduceEqDiff,fa72_0,a69]
    refine hJ _ ?_
    refine tC rfl hm (fun g70 hm=>?_) (fun g70 hm=>?_)
    ·skip
     refine tE hok fun J hJ=>?_
     simp only [C.f36r6,R,Nat.reduceEqDiff,h24]
     refine hJ _ ?_
     refine n47 _ ?_
     refine n45 _ ?_
     exact ⟨IntKind.i64.wrap (x3_18 + 1),x8_19,x9_20,hm,rfl,h25,h26,h27,i68⟩
    ·skip
     refine tK ?_
     refine n47 _ ?_
     refine n45 _ ?_
     exact ⟨x3_18,x8_19,x9_20,hm,h24,h25,h26,h27,i68⟩
  ·skip
   refine tX ?_
   refine x32 _ _ (by simp) ?_
   refine x22 _ _ (by simp) ?_
   refine e16 _ ?_
   refine n12 _ ?_
   refine tS hok fun J hJ=>?_
   simp only [C.f36r8,R,Nat.reduceEqDiff,h24]
   refine hJ _ ?_
   refine tR ?_
   obtain rfl:=Option.some.inj hm
   exact ef1 rfl rfl
def b_S (c_c:T_F) (n:Nat) (q1:Int → Sl S_a → Int → Sl S_a → Int → Int → Option ((Sl S_a))) (x0:(Sl S_a)) (x1:(Sl S_a)) (x2_164:Int) (l165:Sl S_a) (x7_167:Int) (l168:Sl S_a) (x9_170:Int) (x171:S_a) (x32_172:Int) (x33_173:Int):Option ((Sl S_a)):=(ck (Sl.l l168).length (IntKind.i64.wrap (x7_167 + x9_170))).bind fun j199=>q1 x2_164 l165 x7_167 (Sl.put l168 j199 x171) x32_172 (IntKind.i64.wrap (x33_173 + 1))
def b_be (c_c:T_F) (n:Nat) (q1:Int → Sl S_a → Int → Sl S_a → Int → Int → Option ((Sl S_a))) (x0:(Sl S_a)) (x1:(Sl S_a)) (x2_130:Int) (l131:Sl S_a) (x7_133:Int) (l134:Sl S_a) (x9_136:Int) (x137:S_a) (x32_138:Int) (x33_139:Int):Option ((Sl S_a)):=(c_c x137.f_Kind).bind fun v213=>bif decide (1 < v213) then (b_S c_c n q1 x0 x1 x2_130 l131 x7_133 l134 x9_136 ({ x137 with f_B:=IntKind.i64.wrap (x137.f_B + x7_133) }) x32_138 x33_139) else (b_S c_c n q1 x0 x1 x2_130 l131 x7_133 l134 x9_136 x137 x32_138 x33_139)
def b_r (c_c:T_F) (n:Nat) (x0:(Sl S_a)) (x1:(Sl S_a)):Nat → Int → Sl S_a → Int → Sl S_a → Int → Int → Option ((Sl S_a))
 | 0,_,_,_,_,_,_=>none
 | k + 1,x2_68,l69,x7_71,l72,x32_74,x33_75=>bif decide (x33_75 < x32_74) then ((ck (Sl.l x1).length x33_75).bind fun j105=>(c_c ((Sl.nth x1 j105).f_Kind)).bind fun v228=>bif decide (0 < v228) then (b_be c_c n (b_r c_c n x0 x1 k) x0 x1 x2_68 l69 x7_71 l72 x33_75 (S_a.w1 (Sl.nth x1 j105) (IntKind.i64.wrap (((Sl.nth x1 j105).f_A) + x7_71))) x32_74 x33_75) else (b_be c_c n (b_r c_c n x0 x1 k) x0 x1 x2_68 l69 x7_71 l72 x33_75 (Sl.nth x1 j105) x32_74 x33_75)) else ((Sl.app 96 l72 (some ([({ S_a.zero with f_Kind:=x2_68,f_A:=IntKind.i64.wrap (x7_71 - 1),f_B:=IntKind.i64.wrap ((Sl.len l72) - 1) }:S_a)]:List S_a))).bind fun v252=>some v252)
def b_cu (c_c:T_F) (n:Nat) (x0:(Sl S_a)) (x1:(Sl S_a)) (x2:Int):Option ((Sl S_a)):=(Sl.make 96 (IntKind.i64.wrap ((Sl.len x0) + (Sl.len x1))) (IntKind.i64.wrap ((IntKind.i64.wrap ((Sl.len x0) + (Sl.len x1))) + 1)) (S_a.zero:S_a)).bind fun l39=>b_r c_c n x0 x1 n x2 none (Sl.len x0) (Sl.copy l39 x0) (Sl.len x1) 0
theorem w_fW {call:CallF} (hok:CallOk Mt call) {n:Nat} {c_c:T_F} (z_bP:A_c0 call c_c) {H0:Hp} {x0:(Sl S_a)} {b0:Nat} {x1:(Sl S_a)} {b1:Nat} {x2:Int} {r:(Sl S_a)} {ro:Nat} (hro:ro ≤ H0.length) (h0:SlH H0 S_a.c 72 x0 b0) (h1:SlH H0 S_a.c 72 x1 b1) (hm:b_cu c_c n x0 x1 x2 = some r) :
  Pt Mt ro 37 [(vAgg [slV x0 b0]),(vAgg [slV x1 b1]),(.int .i64 x2)] H0 (vAgg [slV r H0.length]) (H0 ++ slB S_a.c 72 r) []:=by
 refine pt_new okM F37d (by exact Nat.le_of_ble_eq_true rfl) ?_ hro
 intro c hnt hnb hcr
 have hcn:c.ro ≤ c.nb:=by omega
 have l0:x0 ≠ none → b0 < c.nb:=fun h=>by rw [hnb]; exact h0.lt h
 have l1:x1 ≠ none → b1 < c.nb:=fun h=>by rw [hnb]; exact h1.lt h
 have iv:Iv c.nb [] H0 H0:=by rw [hnb]; exact iv_refl
 rw [aI3]
 rw [b_cu] at hm
 simp only [C.f37,C.f37b0]
 refine tS hok fun J hJ=>?_
 obtain ⟨b3,H4,a5,f6,q7,r8,x9,i10⟩:=bx_ok (M:=Mt) (t:=37) (u:=(vAgg [(slV x0 b0)])) (cs:=[(slV x0 b0)]) H0 iv.le T.sz37 vAgg_cells one_sl
 have i11:=i10 _ _ iv
 obtain ⟨b13,H14,a15,f16,q17,r18,x19,i20⟩:=bx_ok (M:=Mt) (t:=37) (u:=(vAgg [(slV x1 b1)])) (cs:=[(slV x1 b1)]) H4 i11.le T.sz37 vAgg_cells one_sl
 have i21:=i20 _ _ i11
 have f22:=x19 _ _ f6
 obtain ⟨b24,H25,a26,f27,q28,r29,x30,i31⟩:=al_ok H14 37 [.slice none 0 0] i21.le
 have i32:=i31 _ _ i21
 have f33:=x30 _ _ f22
 have f34:=x30 _ _ f16
 simp only [C.f37r0,R,Nat.reduceEqDiff,a5,a15,(show zc Mt.P 37 = _ from T.zc37),a26]
 refine hJ _ ?_
 refine tS hok fun J hJ=>?_
 have a36:=lo (off:=0 + 0) f33 T.ag35 Seg.refl
 simp only [C.f37r1,R,Nat.reduceEqDiff,fa37_0,a36,ln35]
 refine hJ _ ?_
 refine tS hok fun J hJ=>?_
 have a37:=lo (off:=0 + 0) f34 T.ag35 Seg.refl
 have a38:=lo (off:=0 + 0) f34 T.ag35 Seg.refl
 obtain ⟨l39,el39,hm⟩:=bind_s hm
 obtain ⟨b40,H41,a42,f43,q44,r45,x46,i47⟩:=mk_ok (M:=Mt) (t:=35) (e:=72) (k:=.i64) (k':=.i64) H25 i32.le Tryz.underlying35 T.by72 zs72 el39
 have i48:=i47 _ _ i32
 have f49:=x46 _ _ f33
 have f50:=x46 _ _ f34
 have f51:=x46 _ _ f27
 simp only [C.f37r2,R,Nat.reduceEqDiff,fa37_0,a37,ln35,a38,o_makeSlice,a42]
 refine hJ _ ?_
 refine tS hok fun J hJ=>?_
 have a53:=lo (off:=0 + 0) f49 T.ag35 Seg.refl
 obtain ⟨H54,a55,f56,u57⟩:=cp_ok (M:=Mt) (t:=35) (u:=35) (nb:=c.nb) (x:=l39) (y:=x0) (b:=b40) (b2:=b0) Tryz.underlying35 T.sz72 S_a.enc f43 (h0.iv l0 (fun _=>by simp) i48) hcn
 have i58:=i48.up u57 r45
 have f59:=(u57.get _ (ne_len f33 q44)).trans f49
 have f60:=(u57.get _ (ne_len f34 q44)).trans f50
 have f61:=(u57.get _ (ne_len f27 q44)).trans f51
 simp only [C.f37r3,R,Nat.reduceEqDiff,fa37_0,a53,c_f2,a55]
 refine hJ _ ?_
 refine tk_seq_k fun K n62 x63=>?_
 refine tS hok fun J hJ=>?_
 have a64:=lo (off:=0 + 0) f60 T.ag35 Seg.refl
 simp only [C.f37r4,R,Nat.reduceEqDiff,fa37_0,a64,ln35]
 refine hJ _ ?_
 refine tk_block_k fun K n65 e66 x67=>?_
 refine tk_loop_k (n:=n) (fun k1 ⟨σ,H,_⟩=>∃ x2_68 l69 x7_71 l72 x32_74 x33_75 b70 b73,b_r c_c n x0 x1 k1 x2_68 l69 x7_71 l72 x32_74 x33_75 = some r ∧ Lk σ 2 (.int .i64 x2_68) ∧ Lk σ 6 (.pointer (some ⟨b24,0,none⟩)) ∧ Lk σ 7 (.int .i64 x7_71) ∧ Lk σ 8 (slV l72 b73) ∧ Lk σ 31 (slV x1 b1) ∧ Lk σ 32 (.int .i64 x32_74) ∧ Lk σ 33 (.int .i64 x33_75) ∧ SlO c.nb H S_a.c 72 l69 b70 ∧ H[b24]? = some (.cells [(slV l69 b70)] 37) ∧ SlO c.nb H S_a.c 72 l72 b73 ∧ (l69 ≠ none → b70 ≠ b24) ∧ (l72 ≠ none → b73 ≠ b24) ∧ (l69 ≠ none → l72 ≠ none → b70 ≠ b73) ∧ Iv c.nb [] H0 H) ?_ ?_ ?_
 ·exact ⟨x2,none,Sl.len x0,Sl.copy l39 x0,Sl.len x1,0,0,b40,hm,rfl,rfl,rfl,(lk_eq (by simp only [slV_put,slV_copy]) rfl),rfl,rfl,rfl,slO_nil,f61,f56,(fun h=>absurd rfl h),(fun h=>(fun _=>(ne_len f27 q44).symm) (by simpa only [Sl.put_none,Sl.copy_none] using h)),(fun h _=>absurd rfl h),i58⟩
 ·rintro ⟨σ,H,d⟩ ⟨_,_,_,_,_,_,_,_,hm,_⟩
  cases hm
 ·intro k1 K n76 x77
  rintro ⟨σ95,H78,d96⟩ ⟨x2_68,l69,x7_71,l72,x32_74,x33_75,b70,b73,hm,h81,h82,h83,h84,h85,h86,h87,f88,f89,f90,n91,n92,n93,i94⟩
  rw [b_r.eq_2] at hm
  refine tS hok fun J hJ=>?_
  simp only [C.f37r5,R,Nat.reduceEqDiff,h87,h86]
  refine hJ _ ?_
  refine tk_seq_k fun K n97 x98=>?_
  refine tC rfl hm (fun g99 hm=>?_) (fun g99 hm=>?_)
  ·skip
   refine tK ?_
   refine n97 _ ?_
   refine tk_seq_k fun K n100 x101=>?_
   refine tk_block_k fun K n102 e103 x104=>?_
   refine tS hok fun J hJ=>?_
   obtain ⟨j105,ej105,hm⟩:=bind_s hm
   obtain ⟨mm106,k107⟩:=(h1.iv l1 (fun _=>by simp) i94).blk (ck_lt ej105).1
   have a108:=lsa k107 T.ag72 (by rw [S_a.enc.len]; exact T.sz72) (seg_sl S_a.enc.len mm106 (ck_lt ej105).1)
   obtain ⟨b109,H110,a111,f112,q113,r114,x115,i116⟩:=al_ok H78 72 (S_a.c S_a.zero) i94.le
   have i117:=i116 _ _ i94
   have f118:=f88.ex x115
   have f119:=x115 _ _ f89
   have f120:=f90.ex x115
   obtain ⟨H122,a123,f124,u125⟩:=st_ok (M:=Mt) (t:=72) (v:=(vAgg (S_a.c (Sl.nth x1 j105)))) (c:=S_a.c (Sl.nth x1 j105)) (cs':=S_a.c (Sl.nth x1 j105)) f112 (by rw [S_a.enc.len]; exact T.sz72) vAgg_cells (S_a.enc.one _) (Nat.le_trans hcn r114) (le0 S_a.enc.len) (wrs_all (eqL S_a.enc.len))
   have i126:=i117.up u125 r114
   have f127:=f118.up u125 (f88.h.ne q113)
   have f128:=(u125.get _ (ne_len f89 q113)).trans f119
   have f129:=f120.up u125 (f90.h.ne q113)
   simp only [C.f37r6,R,Nat.reduceEqDiff,h87,ia35,ej105,h85,a108,zs72,a111,a123]
   refine hJ _ ?_
   refine tk_seq_j (fun ⟨σ,H,_⟩=>∃ x2_130 l131 x7_133 l134 x9_136 x137 x32_138 x33_139 b132 b135,b_be c_c n (b_r c_c n x0 x1 k1) x0 x1 x2_130 l131 x7_133 l134 x9_136 x137 x32_138 x33_139 = some r ∧ Lk σ 2 (.int .i64 x2_130) ∧ Lk σ 6 (.pointer (some ⟨b24,0,none⟩)) ∧ Lk σ 7 (.int .i64 x7_133) ∧ Lk σ 8 (slV l134 b135) ∧ Lk σ 9 (.int .i64 x9_136) ∧ Lk σ 10 (.pointer (some ⟨b109,0,none⟩)) ∧ Lk σ 31 (slV x1 b1) ∧ Lk σ 32 (.int .i64 x32_138) ∧ Lk σ 33 (.int .i64 x33_139) ∧ SlO c.nb H S_a.c 72 l131 b132 ∧ H[b24]? = some (.cells [(slV l131 b132)] 37) ∧ SlO c.nb H S_a.c 72 l134 b135 ∧ H[b109]? = some (.cells (S_a.c x137) 72) ∧ (l131 ≠ none → b132 ≠ b24) ∧ (l131 ≠ none → b132 ≠ b109) ∧ (l134 ≠ none → b135 ≠ b24) ∧ (l134 ≠ none → b135 ≠ b109) ∧ (l131 ≠ none → l134 ≠ none → b132 ≠ b135) ∧ Iv c.nb [] H0 H) ?_ ?_
   ·skip
    rintro ⟨σ162,H140,d163⟩ ⟨x2_130,l131,x7_133,l134,x9_136,x137,x32_138,x33_139,b132,b135,hm,h143,h144,h145,h146,h147,h148,h149,h150,h151,f152,f153,f154,f155,n156,n157,n158,n159,n160,i161⟩
    rw [b_be] at hm
    refine tk_seq_j (fun ⟨σ,H,_⟩=>∃ x2_164 l165 x7_167 l168 x9_170 x171 x32_172 x33_173 b166 b169,b_S c_c n (b_r c_c n x0 x1 k1) x0 x1 x2_164 l165 x7_167 l168 x9_170 x171 x32_172 x33_173 = some r ∧ Lk σ 2 (.int .i64 x2_164) ∧ Lk σ 6 (.pointer (some ⟨b24,0,none⟩)) ∧ Lk σ 7 (.int .i64 x7_167) ∧ Lk σ 8 (slV l168 b169) ∧ Lk σ 9 (.int .i64 x9_170) ∧ Lk σ 10 (.pointer (some ⟨b109,0,none⟩)) ∧ Lk σ 31 (slV x1 b1) ∧ Lk σ 32 (.int .i64 x32_172) ∧ Lk σ 33 (.int .i64 x33_173) ∧ SlO c.nb H S_a.c 72 l165 b166 ∧ H[b24]? = some (.cells [(slV l165 b166)] 37) ∧ SlO c.nb H S_a.c 72 l168 b169 ∧ H[b109]? = some (.cells (S_a.c x171) 72) ∧ (l165 ≠ none → b166 ≠ b24) ∧ (l165 ≠ none → b166 ≠ b109) ∧ (l168 ≠ none → b169 ≠ b24) ∧ (l168 ≠ none → b169 ≠ b109) ∧ (l165 ≠ none → l168 ≠ none → b166 ≠ b169) ∧ Iv c.nb [] H0 H) ?_ ?_
    ·skip
     rintro ⟨σ196,H174,d197⟩ ⟨x2_164,l165,x7_167,l168,x9_170,x171,x32_172,x33_173,b166,b169,hm,h177,h178,h179,h180,h181,h182,h183,h184,h185,f186,f187,f188,f189,n190,n191,n192,n193,n194,i195⟩
     rw [b_S] at hm
     refine tE hok fun J hJ=>?_
     have a198:=la f189 T.ag72 (by rw [S_a.enc.len]; exact T.sz72) Seg.refl
     obtain ⟨j199,ej199,hm⟩:=bind_s hm
     obtain ⟨H200,a201,f202,u203⟩:=st_sl0 (M:=Mt) (t:=72) (v:=(vAgg (S_a.c (x171)))) (y:=x171) S_a.enc.len f188 (ck_lt ej199).1 (by rw [S_a.enc.len]; exact T.sz72) vAgg_cells (S_a.enc.one _) hcn
     have i204:=i195.up u203 (f188.some (ck_lt ej199).1).1
     have z205:l168 ≠ none:=sl_some (j:=j199) (ck_lt ej199).1
     have f206:=f186.up u203 (fun h=>n194 h z205)
     have f207:=(u203.get _ (n192 z205).symm).trans f187
     have f208:=(u203.get _ (n193 z205).symm).trans f189
     simp only [C.f37r11,R,Nat.reduceEqDiff,h180,h179,h181,a198,h182,ia35,ej199,a201]
     refine hJ _ ?_
     refine n102 _ ?_
     refine n100 _ ?_
     refine tE hok fun J hJ=>?_
     simp only [C.f37r12,R,Nat.reduceEqDiff,h185]
     refine hJ _ ?_
     refine n76 _ ?_
     exact ⟨x2_164,l165,x7_167,Sl.put l168 j199 x171,x32_172,IntKind.i64.wrap (x33_173 + 1),b166,b169,hm,h177,h178,h179,(lk_eq (by simp only [slV_put,slV_copy]) h180),h183,h184,rfl,f206,f207,f202,n190,(fun h=>n192 (by simpa only [Sl.put_none,Sl.copy_none] using h)),(fun h h'=>n194 (by simpa only [Sl.put_none,Sl.copy_none] using h) (by simpa only [Sl.put_none,Sl.copy_none] using h')),i204⟩
    ·refine fun K n209 x210=>?_
     refine tS hok fun J hJ=>?_
     have a211:=lo f155 T.ag3 (Seg.refl.sub (S_a.seg0 x137))
     obtain ⟨v213,ev213,hm⟩:=bind_s hm
     have a212:=z_bP c.ro H140 x137.f_Kind v213 ev213
     simp only [C.f37r9,R,Nat.reduceEqDiff,fa72_0,h148,a211,c_fn F66,a212]
     refine hJ _ ?_
     refine tC rfl hm (fun g214 hm=>?_) (fun g214 hm=>?_)
     ·skip
      refine tE hok fun J hJ=>?_
      have a215:=lo f155 T.ag3 (Seg.refl.sub (S_a.seg2 x137))
      obtain ⟨H216,a217,f218,u219⟩:=st_ok (M:=Mt) (t:=3) (v:=(.int .i64 (IntKind.i64.wrap (x137.f_B + x7_133)))) (c:=(cInt .i64) (IntKind.i64.wrap (x137.f_B + x7_133))) (cs':=S_a.c ({ x137 with f_B:=IntKind.i64.wrap (x137.f_B + x7_133) })) f155 (by rw [enc_int.len]; exact T.sz3) rfl (enc_int.one _) (Nat.le_trans hcn r114) (Nat.le_trans (Nat.le_of_eq (congrArg _ (eqL enc_int.len))) (Seg.refl.sub (S_a.seg2 x137)).2) (by rw [Nat.zero_add,S_a.wr2 x137 (IntKind.i64.wrap (x137.f_B + x7_133))])
      have i220:=i161.up u219 r114
      have f221:=f152.up u219 n157
      have f222:=(u219.get _ (ne_len f89 q113)).trans f153
      have f223:=f154.up u219 n159
      simp only [C.f37r10,R,Nat.reduceEqDiff,fa72_2,h148,a215,h145,a217]
      refine hJ _ ?_
      refine n209 _ ?_
      exact ⟨x2_130,l131,x7_133,l134,x9_136,{ x137 with f_B:=IntKind.i64.wrap (x137.f_B + x7_133) },x32_138,x33_139,b132,b135,hm,h143,h144,h145,h146,h147,h148,h149,h150,h151,f221,f222,f223,f218,n156,n157,n158,n159,n160,i220⟩
     ·skip
      refine tK ?_
      refine n209 _ ?_
      exact ⟨x2_130,l131,x7_133,l134,x9_136,x137,x32_138,x33_139,b132,b135,hm,h143,h144,h145,h146,h147,h148,h149,h150,h151,f152,f153,f154,f155,n156,n157,n158,n159,n160,i161⟩
   ·refine fun K n224 x225=>?_
    refine tS hok fun J hJ=>?_
    have a226:=lo f124 T.ag3 (Seg.refl.sub (S_a.seg0 (Sl.nth x1 j105)))
    obtain ⟨v228,ev228,hm⟩:=bind_s hm
    have a227:=z_bP c.ro H122 ((Sl.nth x1 j105).f_Kind) v228 ev228
    simp only [C.f37r7,R,Nat.reduceEqDiff,fa72_0,a226,c_fn F66,a227]
    refine hJ _ ?_
    refine tC rfl hm (fun g229 hm=>?_) (fun g229 hm=>?_)
    ·skip
     refine tE hok fun J hJ=>?_
     have a230:=lo f124 T.ag3 (Seg.refl.sub (S_a.seg1 (Sl.nth x1 j105)))
     obtain ⟨H231,a232,f233,u234⟩:=st_ok (M:=Mt) (t:=3) (v:=(.int .i64 (IntKind.i64.wrap (((Sl.nth x1 j105).f_A) + x7_71)))) (c:=(cInt .i64) (IntKind.i64.wrap (((Sl.nth x1 j105).f_A) + x7_71))) (cs':=S_a.c (S_a.w1 (Sl.nth x1 j105) (IntKind.i64.wrap (((Sl.nth x1 j105).f_A) + x7_71)))) f124 (by rw [enc_int.len]; exact T.sz3) rfl (enc_int.one _) (Nat.le_trans hcn r114) (Nat.le_trans (Nat.le_of_eq (congrArg _ (eqL enc_int.len))) (Seg.refl.sub (S_a.seg1 (Sl.nth x1 j105))).2) (by rw [Nat.zero_add,S_a.wr1 (Sl.nth x1 j105) (IntKind.i64.wrap (((Sl.nth x1 j105).f_A) + x7_71))])
     have i235:=i126.up u234 r114
     have f236:=f127.up u234 (f88.h.ne q113)
     have f237:=(u234.get _ (ne_len f89 q113)).trans f128
     have f238:=f129.up u234 (f90.h.ne q113)
     simp only [C.f37r8,R,Nat.reduceEqDiff,fa72_1,a230,h83,a232]
     refine hJ _ ?_
     refine n224 _ ?_
     exact ⟨x2_68,l69,x7_71,l72,x33_75,S_a.w1 (Sl.nth x1 j105) (IntKind.i64.wrap (((Sl.nth x1 j105).f_A) + x7_71)),x32_74,x33_75,b70,b73,hm,h81,h82,h83,h84,rfl,rfl,h85,h86,h87,f236,f237,f238,f233,n91,(f88.h.ne q113),n92,(f90.h.ne q113),n93,i235⟩
    ·skip
     refine tK ?_
     refine n224 _ ?_
     exact ⟨x2_68,l69,x7_71,l72,x33_75,Sl.nth x1 j105,x32_74,x33_75,b70,b73,hm,h81,h82,h83,h84,rfl,rfl,h85,h86,h87,f127,f128,f129,f124,n91,(f88.h.ne q113),n92,(f90.h.ne q113),n93,i126⟩
  ·skip
   refine tX ?_
   refine x98 _ _ (by simp) ?_
   refine x77 _ _ (by simp) ?_
   refine e66 _ ?_
   refine n62 _ ?_
   refine tS hok fun J hJ=>?_
   obtain ⟨b239,H240,a241,f242,q243,r244,x245,i246⟩:=bs_ok (M:=Mt) (t:=35) (e:=72) (c:=S_a.c) (l:=([({ S_a.zero with f_Kind:=x2_68,f_A:=IntKind.i64.wrap (x7_71 - 1),f_B:=IntKind.i64.wrap ((Sl.len l72) - 1) }:S_a)]:List S_a)) (ps:=[(0,(vAgg (S_a.c (({ S_a.zero with f_Kind:=x2_68,f_A:=IntKind.i64.wrap (x7_71 - 1),f_B:=IntKind.i64.wrap ((Sl.len l72) - 1) }:S_a)))))]) (n:=1) H78 i94.le Tryz.underlying35 (zs72) rfl (by simp only [S_a.enc.len,List.length_cons,List.length_nil]; decide) (fun _=>by rw [S_a.enc.len,S_a.enc.len]) S_a.enc.one rfl rfl
   have i247:=i246 _ _ i94
   have f248:=f88.ex x245
   have f249:=x245 _ _ f89
   have f250:=f90.ex x245
   obtain ⟨v252,ev252,hm⟩:=bind_s hm
   obtain ⟨b253,H254,a255,f256,mv257,i258,nw259⟩:=app_ok (M:=Mt) (t:=35) (u:=35) (nb:=c.nb) (x:=l72) (y:=some ([({ S_a.zero with f_Kind:=x2_68,f_A:=IntKind.i64.wrap (x7_71 - 1),f_B:=IntKind.i64.wrap ((Sl.len l72) - 1) }:S_a)]:List S_a)) (b:=b73) (b2:=b239) Tryz.underlying35 Tryz.underlying35 T.sz72 T.by72 zs72 (by decide) (by decide) S_a.enc.len S_a.enc.one i247.le hcn f250 f242.h ev252
   have i260:=i258 _ _ i247
   have n261:=fun (h:l69 ≠ none)=>nw259 b70 (f248.h.lt h) (fun h'=>(n93 h h').symm)
   have n262:=nw259 b24 (get_lt f249) n92
   have f263:=f248.mv mv257 n93
   have f264:=mv257.2 _ _ (fun h=>(n92 h).symm) f249
   obtain ⟨H266,a267,f268,u269⟩:=st_ok (M:=Mt) (t:=37) (off:=0) (ro:=c.ro) (v:=(vAgg [(slV v252 b253)])) (c:=[(slV v252 b253)]) (cs':=[(slV v252 b253)]) f264 T.sz37 vAgg_cells one_sl (Nat.le_trans hcn r29) (Nat.le_refl _) rfl
   have i270:=i260.up u269 r29
   have f271:=f263.up u269 n91
   have f272:=f256.up u269 n262
   simp only [C.f37r13,R,Nat.reduceEqDiff,h84,h81,h83,ln35,bd72_0_1_2,a241,a255,bd_wr (M:=Mt) (x:=v252) (b:=b253) (show zc Mt.P 37 = _ from T.zc37) pl37,a267,h82]
   refine hJ _ ?_
   refine tR ?_
   obtain rfl:=Option.some.inj hm
   exact end_wr1 (P:=Mt.P) (rs:=[(.cell 6 37)]) (pre:=[]) (post:=[]) (x:=v252) (b:=b253) (nb:=H0.length) (.inl rfl) (by rw [← hnb]; exact f272) S_a.enc fm_nil fm_nil (resC' (v:=(vAgg [(slV v252 b253)])) h82 (ldv_of (ld_agg (M:=Mt) (t:=37) (c:=[(slV v252 b253)]) f268 T.ag37 T.sz37 Seg.refl)) resN)
def b_bm (c_y:T_bA) (c_G:T_b7) (c_u:T_bp) (n:Nat) (q1:Sl Int → Sl Int → Int → Int → Option (Int)) (x0:(Sl S_a)) (l76:Sl Int) (l78:Sl Int) (x23_80:Int) (x24_81:Int):Option (Int):=q1 l76 l78 x23_80 (IntKind.i64.wrap (x24_81 + 1))
def b_N (c_y:T_bA) (c_G:T_b7) (c_u:T_bp) (n:Nat) (x0:(Sl S_a)):Nat → Sl Int → Sl Int → Int → Int → Option (Int)
 | 0,_,_,_,_=>none
 | k + 1,l51,l53,x23_55,x24_56=>bif decide (x24_56 < x23_55) then ((ck (Sl.l x0).length x24_56).bind fun j101=>bif (!decide (((Sl.nth x0 j101).f_Kind) = 15)) && (!decide (((Sl.nth x0 j101).f_Kind) = 16)) then (b_bm c_y c_G c_u n (b_N c_y c_G c_u n x0 k) x0 l51 l53 x23_55 x24_56) else ((ck (Sl.l l51).length ((Sl.nth x0 j101).f_A)).bind fun j146=>(ck (Sl.l l53).length ((Sl.nth x0 j101).f_A)).bind fun j151=>bif (!decide ((Sl.nth l51 j146) = (Sl.nth l53 j151))) || (decide (255 < (Sl.nth l51 j146))) then (some 7) else (b_bm c_y c_G c_u n (b_N c_y c_G c_u n x0 k) x0 l51 l53 x23_55 x24_56))) else (some 0)
def b_cD (c_y:T_bA) (c_G:T_b7) (c_u:T_bp) (n:Nat) (x0:(Sl S_a)):Option (Int):=(c_y x0).bind fun v16=>bif !decide (v16 = 0) then (some v16) else ((c_u x0).bind fun v22=>bif !v22 then (some 6) else ((c_G x0).bind fun v26=>b_N c_y c_G c_u n x0 n v26.1 v26.2 (Sl.len x0) 0))
theorem w_fG {call:CallF} (hok:CallOk Mt call) {n:Nat} {c_y:T_bA} (z_fd:A_eg call c_y) {c_G:T_b7} (z_fF:A_eT call c_G) {c_u:T_bp} (z_e1:A_dY call c_u) {H0:Hp} {x0:(Sl S_a)} {b0:Nat} {r:Int} {ro:Nat} (hro:ro ≤ H0.length) (h0:SlH H0 S_a.c 72 x0 b0) (hm:b_cD c_y c_G c_u n x0 = some r) :
  Pt Mt ro 40 [(vAgg [slV x0 b0])] H0 (.int .i64 (r)) H0 []:=by
 refine pt_new0 okM F40d (by exact Nat.le_of_ble_eq_true rfl) ?_ hro
 intro c hnt hnb hcr
 have hcn:c.ro ≤ c.nb:=by omega
 have l0:x0 ≠ none → b0 < c.nb:=fun h=>by rw [hnb]; exact h0.lt h
 have iv:Iv c.nb [] H0 H0:=by rw [hnb]; exact iv_refl
 rw [aI1]
 rw [b_cD] at hm
 simp only [C.f40,C.f40b0]
 refine tS hok fun J hJ=>?_
 obtain ⟨b2,H3,a4,f5,q6,r7,x8,i9⟩:=bx_ok (M:=Mt) (t:=37) (u:=(vAgg [(slV x0 b0)])) (cs:=[(slV x0 b0)]) H0 iv.le T.sz37 vAgg_cells one_sl
 have i10:=i9 _ _ iv
 simp only [C.f40r0,R,Nat.reduceEqDiff,a4]
 refine hJ _ ?_
 refine tk_seq_k fun K n12 x13=>?_
 refine tS hok fun J hJ=>?_
 have a14:=ld_agg (M:=Mt) (t:=37) (off:=0) (c:=[(slV x0 b0)]) f5 T.ag37 T.sz37 Seg.refl
 obtain ⟨v16,ev16,hm⟩:=bind_s hm
 have a15:=z_fd c.ro H3 x0 b0 v16 (h0.iv l0 (fun _=>by simp) i10) ev16
 simp only [C.f40r1,R,Nat.reduceEqDiff,a14,c_fn F64,a15]
 refine hJ _ ?_
 refine tS hok fun J hJ=>?_
 simp only [C.f40r2,R,Nat.reduceEqDiff]
 refine hJ _ ?_
 refine tC rfl hm (fun g17 hm=>?_) (fun g17 hm=>?_)
 ·skip
  refine tS hok fun J hJ=>?_
  simp only [C.f40r3,R,Nat.reduceEqDiff]
  refine hJ _ ?_
  refine tR ?_
  refine x13 _ _ (by simp) ?_
  obtain rfl:=Option.some.inj hm
  exact ef1 rfl rfl
 ·skip
  refine tK ?_
  refine n12 _ ?_
  refine tk_seq_k fun K n18 x19=>?_
  refine tS hok fun J hJ=>?_
  have a20:=ld_agg (M:=Mt) (t:=37) (off:=0) (c:=[(slV x0 b0)]) f5 T.ag37 T.sz37 Seg.refl
  obtain ⟨v22,ev22,hm⟩:=bind_s hm
  have a21:=z_e1 c.ro H3 x0 b0 v22 (h0.iv l0 (fun _=>by simp) i10) ev22
  simp only [C.f40r4,R,Nat.reduceEqDiff,a20,c_fn F68,a21]
  refine hJ _ ?_
  refine tC rfl hm (fun g23 hm=>?_) (fun g23 hm=>?_)
  ·skip
   refine tS hok fun J hJ=>?_
   simp only [C.f40r5,R,Nat.reduceEqDiff]
   refine hJ _ ?_
   refine tR ?_
   refine x19 _ _ (by simp) ?_
   obtain rfl:=Option.some.inj hm
   exact ef1 rfl rfl
  ·skip
   refine tK ?_
   refine n18 _ ?_
   refine tS hok fun J hJ=>?_
   have a24:=ld_agg (M:=Mt) (t:=37) (off:=0) (c:=[(slV x0 b0)]) f5 T.ag37 T.sz37 Seg.refl
   obtain ⟨v26,ev26,hm⟩:=bind_s hm
   have a25:=z_fF c.ro H3 x0 b0 v26 (h0.iv l0 (fun _=>by simp) i10) ev26
   have f39:=slB_own2 (c:=(cInt .i64)) (d:=(cInt .i64)) (e:=3) (e2:=3) (x:=v26.1) (y:=v26.2) (r:=c.nb) (H:=H3) i10.le
   have n40:=slB_ne (c:=(cInt .i64)) (e:=3) (x:=v26.1) (y:=v26.2) (H:=H3)
   obtain ⟨H27,q28⟩:∃ x,x = H3 ++ (slB (cInt .i64) 3 v26.1 ++ slB (cInt .i64) 3 v26.2):=⟨_,rfl⟩
   have x38:Ex H3 H27:=by rw [q28]; exact ex_app
   have i35:Iv c.nb [] H0 H27:=by rw [q28]; exact i10.app
   obtain ⟨b31,q32⟩:∃ b,b = H3.length + (slB (cInt .i64) 3 v26.1).length:=⟨_,rfl⟩
   obtain ⟨b29,q30⟩:∃ b,b = H3.length:=⟨_,rfl⟩
   rw [← q28,← q32] at a25
   rw [← q30] at a25
   rw [← q28,← q32] at f39
   rw [← q30] at f39
   rw [← q32,← q30] at n40
   have r36:c.nb ≤ b29:=by rw [q30]; exact i10.le
   have r37:c.nb ≤ b31:=by rw [q32]; have:=i10.le; omega
   have f41:=x38 _ _ f5
   have n44:b2 ≠ b31:=by have:=get_lt f5; omega
   simp only [C.f40r6,R,Nat.reduceEqDiff,a24,c_fn F65,a25]
   refine hJ _ ?_
   refine tk_seq_k fun K n45 x46=>?_
   refine tS hok fun J hJ=>?_
   have a47:=lo (off:=0 + 0) f41 T.ag35 Seg.refl
   simp only [C.f40r7,R,Nat.reduceEqDiff,fa37_0,a47,ln35]
   refine hJ _ ?_
   refine tk_block_k fun K n48 e49 x50=>?_
   refine tk_loop_k (n:=n) (fun k1 ⟨σ,H,_⟩=>∃ l51 l53 x23_55 x24_56 b52 b54,b_N c_y c_G c_u n x0 k1 l51 l53 x23_55 x24_56 = some r ∧ Lk σ 4 (slV l51 b52) ∧ Lk σ 5 (slV l53 b54) ∧ Lk σ 22 (slV x0 b0) ∧ Lk σ 23 (.int .i64 x23_55) ∧ Lk σ 24 (.int .i64 x24_56) ∧ SlO c.nb H (cInt .i64) 3 l51 b52 ∧ SlO c.nb H (cInt .i64) 3 l53 b54 ∧ (l51 ≠ none → l53 ≠ none → b52 ≠ b54) ∧ Iv c.nb [] H0 H) ?_ ?_ ?_
   ·exact ⟨v26.1,v26.2,Sl.len x0,0,b29,b31,hm,rfl,rfl,rfl,rfl,rfl,f39.1,f39.2,n40,i35⟩
   ·rintro ⟨σ,H,d⟩ ⟨_,_,_,_,_,_,hm,_⟩
    cases hm
   ·intro k1 K n57 x58
    rintro ⟨σ71,H59,d72⟩ ⟨l51,l53,x23_55,x24_56,b52,b54,hm,h62,h63,h64,h65,h66,f67,f68,n69,i70⟩
    rw [b_N.eq_2] at hm
    refine tS hok fun J hJ=>?_
    simp only [C.f40r8,R,Nat.reduceEqDiff,h66,h65]
    refine hJ _ ?_
    refine tk_seq_k fun K n73 x74=>?_
    refine tC rfl hm (fun g75 hm=>?_) (fun g75 hm=>?_)
    ·skip
     refine tK ?_
     refine n73 _ ?_
     refine tk_seq_j (fun ⟨σ,H,_⟩=>∃ l76 l78 x23_80 x24_81 b77 b79,b_bm c_y c_G c_u n (b_N c_y c_G c_u n x0 k1) x0 l76 l78 x23_80 x24_81 = some r ∧ Lk σ 4 (slV l76 b77) ∧ Lk σ 5 (slV l78 b79) ∧ Lk σ 22 (slV x0 b0) ∧ Lk σ 23 (.int .i64 x23_80) ∧ Lk σ 24 (.int .i64 x24_81) ∧ SlO c.nb H (cInt .i64) 3 l76 b77 ∧ SlO c.nb H (cInt .i64) 3 l78 b79 ∧ (l76 ≠ none → l78 ≠ none → b77 ≠ b79) ∧ Iv c.nb [] H0 H) ?_ ?_
     ·skip
      rintro ⟨σ94,H82,d95⟩ ⟨l76,l78,x23_80,x24_81,b77,b79,hm,h85,h86,h87,h88,h89,f90,f91,n92,i93⟩
      rw [b_bm] at hm
      refine tE hok fun J hJ=>?_
      simp only [C.f40r13,R,Nat.reduceEqDiff,h89]
      refine hJ _ ?_
      refine n57 _ ?_
      exact ⟨l76,l78,x23_80,IntKind.i64.wrap (x24_81 + 1),b77,b79,hm,h85,h86,h87,h88,rfl,f90,f91,n92,i93⟩
     ·refine fun K n96 x97=>?_
      refine tk_block_k fun K n98 e99 x100=>?_
      refine tS hok fun J hJ=>?_
      obtain ⟨j101,ej101,hm⟩:=bind_s hm
      obtain ⟨mm102,k103⟩:=(h0.iv l0 (fun _=>by simp) i70).blk (ck_lt ej101).1
      have a104:=lsa k103 T.ag72 (by rw [S_a.enc.len]; exact T.sz72) (seg_sl S_a.enc.len mm102 (ck_lt ej101).1)
      obtain ⟨b105,H106,a107,f108,q109,r110,x111,i112⟩:=al_ok H59 72 (S_a.c S_a.zero) i70.le
      have i113:=i112 _ _ i70
      have f114:=f67.ex x111
      have f115:=f68.ex x111
      obtain ⟨H117,a118,f119,u120⟩:=st_ok (M:=Mt) (t:=72) (v:=(vAgg (S_a.c (Sl.nth x0 j101)))) (c:=S_a.c (Sl.nth x0 j101)) (cs':=S_a.c (Sl.nth x0 j101)) f108 (by rw [S_a.enc.len]; exact T.sz72) vAgg_cells (S_a.enc.one _) (Nat.le_trans hcn r110) (le0 S_a.enc.len) (wrs_all (eqL S_a.enc.len))
      have i121:=i113.up u120 r110
      have f122:=f114.up u120 (f67.h.ne q109)
      have f123:=f115.up u120 (f68.h.ne q109)
      simp only [C.f40r9,R,Nat.reduceEqDiff,ia35,ej101,h64,h66,a104,zs72,a107,a118]
      refine hJ _ ?_
      refine tk_seq_k fun K n124 x125=>?_
      refine tS hok fun J hJ=>?_
      have a126:=lo f119 T.ag3 (Seg.refl.sub (S_a.seg0 (Sl.nth x0 j101)))
      refine rn_k (fun ⟨σ,H,_⟩=>Lk σ 4 (slV l51 b52) ∧ Lk σ 5 (slV l53 b54) ∧ Lk σ 7 (.pointer (some ⟨b105,0,none⟩)) ∧ Lk σ 22 (slV x0 b0) ∧ Lk σ 23 (.int .i64 (x23_55)) ∧ Lk σ 24 (.int .i64 (x24_56)) ∧ Lk σ 35 (.bool ((!decide (((Sl.nth x0 j101).f_Kind) = 15)) && (!decide (((Sl.nth x0 j101).f_Kind) = 16)))) ∧ SlO c.nb H (cInt .i64) 3 l51 b52 ∧ SlO c.nb H (cInt .i64) 3 l53 b54 ∧ H[b105]? = some (.cells (S_a.c (Sl.nth x0 j101)) 72) ∧ Iv c.nb [] H0 H) (fun J hJ=>?_) ?_
      ·skip
       cases g140:!decide (((Sl.nth x0 j101).f_Kind) = 15)
       ·skip
        simp only [C.f40r10,R,Nat.reduceEqDiff,fa72_0,a126,g140]
        exact hJ _ ⟨h62,h63,rfl,h64,h65,h66,(by first | rfl | (simp only [g140]; rfl) | simp only [g140,Lk,RB,Nat.reduceEqDiff,not_false_eq_true]),f122,f123,f119,i121⟩
       ·skip
        have a141:=lo f119 T.ag3 (Seg.refl.sub (S_a.seg0 (Sl.nth x0 j101)))
        simp only [C.f40r10,R,Nat.reduceEqDiff,fa72_0,a126,g140,a141]
        exact hJ _ ⟨h62,h63,rfl,h64,h65,h66,(by first | rfl | (simp only [g140]; rfl) | simp only [g140,Lk,RB,Nat.reduceEqDiff,not_false_eq_true]),f122,f123,f119,i121⟩
      rintro ⟨σ142,H128,d143⟩ ⟨h129,h130,h131,h132,h133,h134,h135,f136,f137,f138,i139⟩
      refine hJ _ ?_
      refine tC h135 hm (fun g144 hm=>?_) (fun g144 hm=>?_)
      ·skip
       refine tX ?_
       refine x125 _ _ (by simp) ?_
       refine e99 _ ?_
       refine n96 _ ?_
       exact ⟨l51,l53,x23_55,x24_56,b52,b54,hm,h129,h130,h132,h133,h134,f136,f137,n69,i139⟩
      ·skip
       refine tK ?_
       refine n124 _ ?_
       refine tS hok fun J hJ=>?_
       have a145:=lo f138 T.ag3 (Seg.refl.sub (S_a.seg1 (Sl.nth x0 j101)))
       obtain ⟨j146,ej146,hm⟩:=bind_s hm
       obtain ⟨mm147,k148⟩:=f136.h.blk (ck_lt ej146).1
       have a149:=lso k148 T.ag3 (seg_sl enc_int.len mm147 (ck_lt ej146).1)
       have a150:=lo f138 T.ag3 (Seg.refl.sub (S_a.seg1 (Sl.nth x0 j101)))
       obtain ⟨j151,ej151,hm⟩:=bind_s hm
       obtain ⟨mm152,k153⟩:=f137.h.blk (ck_lt ej151).1
       have a154:=lso k153 T.ag3 (seg_sl enc_int.len mm152 (ck_lt ej151).1)
       refine rn_k (fun ⟨σ,H,_⟩=>Lk σ 4 (slV l51 b52) ∧ Lk σ 5 (slV l53 b54) ∧ Lk σ 22 (slV x0 b0) ∧ Lk σ 23 (.int .i64 (x23_55)) ∧ Lk σ 24 (.int .i64 (x24_56)) ∧ Lk σ 54 (.bool ((!decide ((Sl.nth l51 j146) = (Sl.nth l53 j151))) || (decide (255 < (Sl.nth l51 j146))))) ∧ SlO c.nb H (cInt .i64) 3 l51 b52 ∧ SlO c.nb H (cInt .i64) 3 l53 b54 ∧ Iv c.nb [] H0 H) (fun J hJ=>?_) ?_
       ·skip
        cases g169:!decide ((Sl.nth l51 j146) = (Sl.nth l53 j151))
        ·skip
         have a170:=lo f138 T.ag3 (Seg.refl.sub (S_a.seg1 (Sl.nth x0 j101)))
         obtain ⟨mm171,k172⟩:=f136.h.blk (ck_lt ej146).1
         have a173:=lso k172 T.ag3 (seg_sl enc_int.len mm171 (ck_lt ej146).1)
         simp only [C.f40r11,R,Nat.reduceEqDiff,s_pt,s_gt,isW,Bool.false_eq_true,if_false,if_true,reduceIte,h129,fa72_1,h131,a145,ia100,ej146,a149,h130,a150,ej151,a154,g169,a170,a173]
         exact hJ _ ⟨h129,h130,h132,h133,h134,(by first | rfl | (simp only [g169]; rfl) | simp only [g169,Lk,RB,Nat.reduceEqDiff,not_false_eq_true]),f136,f137,i139⟩
        ·skip
         simp only [C.f40r11,R,Nat.reduceEqDiff,s_pt,s_gt,isW,Bool.false_eq_true,if_false,if_true,reduceIte,h129,fa72_1,h131,a145,ia100,ej146,a149,h130,a150,ej151,a154,g169]
         exact hJ _ ⟨h129,h130,h132,h133,h134,(by first | rfl | (simp only [g169]; rfl) | simp only [g169,Lk,RB,Nat.reduceEqDiff,not_false_eq_true]),f136,f137,i139⟩
       rintro ⟨σ174,H159,d175⟩ ⟨h160,h161,h162,h163,h164,h165,f166,f167,i168⟩
       refine hJ _ ?_
       refine tC h165 hm (fun g176 hm=>?_) (fun g176 hm=>?_)
       ·skip
        refine tS hok fun J hJ=>?_
        simp only [C.f40r12,R,Nat.reduceEqDiff]
        refine hJ _ ?_
        refine tR ?_
        refine x100 _ _ (by simp) (by simp) ?_
        refine x97 _ _ (by simp) ?_
        refine x58 _ _ (by simp) ?_
        refine x50 _ _ (by simp) (by simp) ?_
        refine x46 _ _ (by simp) ?_
        obtain rfl:=Option.some.inj hm
        exact ef1 rfl rfl
       ·skip
        refine tK ?_
        refine n98 _ ?_
        refine n96 _ ?_
        exact ⟨l51,l53,x23_55,x24_56,b52,b54,hm,h160,h161,h162,h163,h164,f166,f167,n69,i168⟩
    ·skip
     refine tX ?_
     refine x74 _ _ (by simp) ?_
     refine x58 _ _ (by simp) ?_
     refine e49 _ ?_
     refine n45 _ ?_
     refine tS hok fun J hJ=>?_
     simp only [C.f40r14,R,Nat.reduceEqDiff]
     refine hJ _ ?_
     refine tR ?_
     obtain rfl:=Option.some.inj hm
     exact ef1 rfl rfl
def b_dx (n:Nat) (x0:Int):Option (Int):=some (min x0 1099511627776)
theorem w_fE {call:CallF} (hok:CallOk Mt call) {n:Nat} {H0:Hp} {x0:Int} {r:Int} {ro:Nat} (hro:ro ≤ H0.length) (hm:b_dx n x0 = some r) :
  Pt Mt ro 51 [(.int .i64 x0)] H0 (.int .i64 (r)) H0 []:=by
 refine pt_new0 okM F51d (by exact Nat.le_of_ble_eq_true rfl) ?_ hro
 intro c hnt hnb hcr
 have hcn:c.ro ≤ c.nb:=by omega
 have iv:Iv c.nb [] H0 H0:=by rw [hnb]; exact iv_refl
 rw [aI1]
 rw [b_dx] at hm
 simp only [C.f51]
 refine tS hok fun J hJ=>?_
 simp only [C.f51r0,R,Nat.reduceEqDiff]
 refine hJ _ ?_
 refine tS hok fun J hJ=>?_
 simp only [C.f51r1,R,Nat.reduceEqDiff]
 refine hJ _ ?_
 refine tR ?_
 obtain rfl:=Option.some.inj hm
 exact ef1 rfl rfl
def b_t (c_e:T_bb) (c_g:T_bn) (n:Nat) (q1:Int → Sl Int → Int → Int → Option ((Sl Int))) (x0:(Sl S_a)) (x1_52:Int) (l53:Sl Int) (x14_55:Int) (x15_56:Int):Option ((Sl Int)):=q1 x1_52 l53 x14_55 (IntKind.i64.wrap (x15_56 + 1))
def b_J (c_e:T_bb) (c_g:T_bn) (n:Nat) (q1:Int → Sl Int → Int → Int → Option ((Sl Int))) (x0:(Sl S_a)) (x1_156:Int) (l157:Sl Int) (x6_159:Int) (x160:S_a) (x14_161:Int) (x15_162:Int) (x21_163:Int) (x73_164:Bool):Option ((Sl Int)):=bif x73_164 then ((ck (Sl.l l157).length x160.f_A).bind fun j184=>(c_e (IntKind.i64.wrap (3 + (Sl.nth l157 j184)))).bind fun v189=>(ck (Sl.l l157).length x6_159).bind fun j190=>b_t c_e c_g n q1 x0 x1_156 (Sl.put l157 j190 v189) x14_161 x15_162) else (bif decide (x21_163 = 10) then ((c_g x160 x1_156).bind fun v201=>(ck (Sl.l l157).length x160.f_A).bind fun j203=>(c_e (IntKind.i64.wrap (4 + (IntKind.i64.wrap (v201 * (IntKind.i64.wrap (1 + (Sl.nth l157 j203)))))))).bind fun v208=>(ck (Sl.l l157).length x6_159).bind fun j209=>b_t c_e c_g n q1 x0 x1_156 (Sl.put l157 j209 v208) x14_161 x15_162) else ((ck (Sl.l l157).length x6_159).bind fun j217=>b_t c_e c_g n q1 x0 x1_156 (Sl.put l157 j217 1) x14_161 x15_162))
def b_n (c_e:T_bb) (c_g:T_bn) (n:Nat) (x0:(Sl S_a)):Nat → Int → Sl Int → Int → Int → Option ((Sl Int))
 | 0,_,_,_,_=>none
 | k + 1,x1_31,l32,x14_34,x15_35=>bif decide (x15_35 < x14_34) then ((ck (Sl.l x0).length x15_35).bind fun j73=>bif decide (((Sl.nth x0 j73).f_Kind) = 8) then ((ck (Sl.l l32).length ((Sl.nth x0 j73).f_A)).bind fun j100=>(ck (Sl.l l32).length ((Sl.nth x0 j73).f_B)).bind fun j105=>(c_e (IntKind.i64.wrap ((IntKind.i64.wrap (1 + (Sl.nth l32 j100))) + (Sl.nth l32 j105)))).bind fun v110=>(ck (Sl.l l32).length x15_35).bind fun j111=>b_t c_e c_g n (b_n c_e c_g n x0 k) x0 x1_31 (Sl.put l32 j111 v110) x14_34 x15_35) else (bif decide (((Sl.nth x0 j73).f_Kind) = 9) then ((ck (Sl.l l32).length ((Sl.nth x0 j73).f_A)).bind fun j121=>(ck (Sl.l l32).length ((Sl.nth x0 j73).f_B)).bind fun j126=>(c_e (IntKind.i64.wrap (1 + (max (Sl.nth l32 j121) (Sl.nth l32 j126))))).bind fun v131=>(ck (Sl.l l32).length x15_35).bind fun j132=>b_t c_e c_g n (b_n c_e c_g n x0 k) x0 x1_31 (Sl.put l32 j132 v131) x14_34 x15_35) else (bif decide (((Sl.nth x0 j73).f_Kind) = 11) then ((ck (Sl.l l32).length ((Sl.nth x0 j73).f_A)).bind fun j142=>(c_e (IntKind.i64.wrap (2 + (Sl.nth l32 j142)))).bind fun v147=>(ck (Sl.l l32).length x15_35).bind fun j148=>b_t c_e c_g n (b_n c_e c_g n x0 k) x0 x1_31 (Sl.put l32 j148 v147) x14_34 x15_35) else (bif decide (((Sl.nth x0 j73).f_Kind) = 13) then (b_J c_e c_g n (b_n c_e c_g n x0 k) x0 x1_31 l32 x15_35 (Sl.nth x0 j73) x14_34 x15_35 ((Sl.nth x0 j73).f_Kind) (decide (((Sl.nth x0 j73).f_Kind) = 13))) else (bif decide (((Sl.nth x0 j73).f_Kind) = 14) then (b_J c_e c_g n (b_n c_e c_g n x0 k) x0 x1_31 l32 x15_35 (Sl.nth x0 j73) x14_34 x15_35 ((Sl.nth x0 j73).f_Kind) (decide (((Sl.nth x0 j73).f_Kind) = 14))) else (bif decide (((Sl.nth x0 j73).f_Kind) = 15) then (b_J c_e c_g n (b_n c_e c_g n x0 k) x0 x1_31 l32 x15_35 (Sl.nth x0 j73) x14_34 x15_35 ((Sl.nth x0 j73).f_Kind) (decide (((Sl.nth x0 j73).f_Kind) = 15))) else (bif decide (((Sl.nth x0 j73).f_Kind) = 16) then (b_J c_e c_g n (b_n c_e c_g n x0 k) x0 x1_31 l32 x15_35 (Sl.nth x0 j73) x14_34 x15_35 ((Sl.nth x0 j73).f_Kind) (decide (((Sl.nth x0 j73).f_Kind) = 16))) else (b_J c_e c_g n (b_n c_e c_g n x0 k) x0 x1_31 l32 x15_35 (Sl.nth x0 j73) x14_34 x15_35 ((Sl.nth x0 j73).f_Kind) (decide (((Sl.nth x0 j73).f_Kind) = 17)))))))))) else (some l32)
def b_cH (c_e:T_bb) (c_g:T_bn) (n:Nat) (x0:(Sl S_a)) (x1:Int):Option ((Sl Int)):=(Sl.make 8 (Sl.len x0) (Sl.len x0) (0:Int)).bind fun l13=>b_n c_e c_g n x0 n x1 l13 (Sl.len x0) 0
theorem w_fQ {call:CallF} (hok:CallOk Mt call) {n:Nat} {c_e:T_bb} (z_bi:A_dz call c_e) {c_g:T_bn} (z_e3:A_d3 call c_g) {H0:Hp} {x0:(Sl S_a)} {b0:Nat} {x1:Int} {r:(Sl Int)} {ro:Nat} (hro:ro ≤ H0.length) (h0:SlH H0 S_a.c 72 x0 b0) (hm:b_cH c_e c_g n x0 x1 = some r) :
  Pt Mt ro 52 [(vAgg [slV x0 b0]),(.int .i64 x1)] H0 (slV r H0.length) (H0 ++ slB (cInt .i64) 3 r) []:=by
 refine pt_new okM F52d (by exact Nat.le_of_ble_eq_true rfl) ?_ hro
 intro c hnt hnb hcr
 have hcn:c.ro ≤ c.nb:=by omega
 have l0:x0 ≠ none → b0 < c.nb:=fun h=>by rw [hnb]; exact h0.lt h
 have iv:Iv c.nb [] H0 H0:=by rw [hnb]; exact iv_refl
 rw [aI2]
 rw [b_cH] at hm
 simp only [C.f52,C.f52b0]
 refine tS hok fun J hJ=>?_
 obtain ⟨b2,H3,a4,f5,q6,r7,x8,i9⟩:=bx_ok (M:=Mt) (t:=37) (u:=(vAgg [(slV x0 b0)])) (cs:=[(slV x0 b0)]) H0 iv.le T.sz37 vAgg_cells one_sl
 have i10:=i9 _ _ iv
 simp only [C.f52r0,R,Nat.reduceEqDiff,a4]
 refine hJ _ ?_
 refine tS hok fun J hJ=>?_
 have a12:=lo (off:=0 + 0) f5 T.ag35 Seg.refl
 obtain ⟨l13,el13,hm⟩:=bind_s hm
 obtain ⟨b14,H15,a16,f17,q18,r19,x20,i21⟩:=mk_ok (M:=Mt) (t:=100) (e:=3) (k:=.i64) (k':=.i64) H3 i10.le Tryz.underlying100 T.by3 zs3 el13
 have i22:=i21 _ _ i10
 have f23:=x20 _ _ f5
 simp only [C.f52r1,R,Nat.reduceEqDiff,fa37_0,a12,ln35,o_makeSlice,a16]
 refine hJ _ ?_
 refine tk_seq_k fun K n25 x26=>?_
 refine tS hok fun J hJ=>?_
 have a27:=lo (off:=0 + 0) f23 T.ag35 Seg.refl
 simp only [C.f52r2,R,Nat.reduceEqDiff,fa37_0,a27,ln35]
 refine hJ _ ?_
 refine tk_block_k fun K n28 e29 x30=>?_
 refine tk_loop_k (n:=n) (fun k1 ⟨σ,H,_⟩=>∃ x1_31 l32 x14_34 x15_35 b33,b_n c_e c_g n x0 k1 x1_31 l32 x14_34 x15_35 = some r ∧ Lk σ 1 (.int .i64 x1_31) ∧ Lk σ 5 (slV l32 b33) ∧ Lk σ 13 (slV x0 b0) ∧ Lk σ 14 (.int .i64 x14_34) ∧ Lk σ 15 (.int .i64 x15_35) ∧ SlO c.nb H (cInt .i64) 3 l32 b33 ∧ Iv c.nb [] H0 H) ?_ ?_ ?_
 ·exact ⟨x1,l13,Sl.len x0,0,b14,hm,rfl,rfl,rfl,rfl,rfl,f17,i22⟩
 ·rintro ⟨σ,H,d⟩ ⟨_,_,_,_,_,hm,_⟩
  cases hm
 ·intro k1 K n36 x37
  rintro ⟨σ47,H38,d48⟩ ⟨x1_31,l32,x14_34,x15_35,b33,hm,h40,h41,h42,h43,h44,f45,i46⟩
  rw [b_n.eq_2] at hm
  refine tS hok fun J hJ=>?_
  simp only [C.f52r3,R,Nat.reduceEqDiff,h44,h43]
  refine hJ _ ?_
  refine tk_seq_k fun K n49 x50=>?_
  refine tC rfl hm (fun g51 hm=>?_) (fun g51 hm=>?_)
  ·skip
   refine tK ?_
   refine n49 _ ?_
   refine tk_seq_j (fun ⟨σ,H,_⟩=>∃ x1_52 l53 x14_55 x15_56 b54,b_t c_e c_g n (b_n c_e c_g n x0 k1) x0 x1_52 l53 x14_55 x15_56 = some r ∧ Lk σ 1 (.int .i64 x1_52) ∧ Lk σ 5 (slV l53 b54) ∧ Lk σ 13 (slV x0 b0) ∧ Lk σ 14 (.int .i64 x14_55) ∧ Lk σ 15 (.int .i64 x15_56) ∧ SlO c.nb H (cInt .i64) 3 l53 b54 ∧ Iv c.nb [] H0 H) ?_ ?_
   ·skip
    rintro ⟨σ66,H57,d67⟩ ⟨x1_52,l53,x14_55,x15_56,b54,hm,h59,h60,h61,h62,h63,f64,i65⟩
    rw [b_t] at hm
    refine tE hok fun J hJ=>?_
    simp only [C.f52r21,R,Nat.reduceEqDiff,h63]
    refine hJ _ ?_
    refine n36 _ ?_
    exact ⟨x1_52,l53,x14_55,IntKind.i64.wrap (x15_56 + 1),b54,hm,h59,h60,h61,h62,rfl,f64,i65⟩
   ·refine fun K n68 x69=>?_
    refine tk_block_k fun K n70 e71 x72=>?_
    refine tS hok fun J hJ=>?_
    obtain ⟨j73,ej73,hm⟩:=bind_s hm
    obtain ⟨mm74,k75⟩:=(h0.iv l0 (fun _=>by simp) i46).blk (ck_lt ej73).1
    have a76:=lsa k75 T.ag72 (by rw [S_a.enc.len]; exact T.sz72) (seg_sl S_a.enc.len mm74 (ck_lt ej73).1)
    obtain ⟨b77,H78,a79,f80,q81,r82,x83,i84⟩:=al_ok H38 72 (S_a.c S_a.zero) i46.le
    have i85:=i84 _ _ i46
    have f86:=f45.ex x83
    obtain ⟨H88,a89,f90,u91⟩:=st_ok (M:=Mt) (t:=72) (v:=(vAgg (S_a.c (Sl.nth x0 j73)))) (c:=S_a.c (Sl.nth x0 j73)) (cs':=S_a.c (Sl.nth x0 j73)) f80 (by rw [S_a.enc.len]; exact T.sz72) vAgg_cells (S_a.enc.one _) (Nat.le_trans hcn r82) (le0 S_a.enc.len) (wrs_all (eqL S_a.enc.len))
    have i92:=i85.up u91 r82
    have f93:=f86.up u91 (f45.h.ne q81)
    simp only [C.f52r4,R,Nat.reduceEqDiff,h44,ia35,ej73,h42,a76,zs72,a79,a89]
    refine hJ _ ?_
    refine tS hok fun J hJ=>?_
    have a94:=lo f90 T.ag3 (Seg.refl.sub (S_a.seg0 (Sl.nth x0 j73)))
    simp only [C.f52r5,R,Nat.reduceEqDiff,fa72_0,a94]
    refine hJ _ ?_
    refine tk_block_k fun K n95 e96 x97=>?_
    refine tS hok fun J hJ=>?_
    simp only [C.f52r7,R,Nat.reduceEqDiff]
    refine hJ _ ?_
    refine tC rfl hm (fun g98 hm=>?_) (fun g98 hm=>?_)
    ·skip
     refine tE hok fun J hJ=>?_
     have a99:=lo f90 T.ag3 (Seg.refl.sub (S_a.seg1 (Sl.nth x0 j73)))
     obtain ⟨j100,ej100,hm⟩:=bind_s hm
     obtain ⟨mm101,k102⟩:=f93.h.blk (ck_lt ej100).1
     have a103:=lso k102 T.ag3 (seg_sl enc_int.len mm101 (ck_lt ej100).1)
     have a104:=lo f90 T.ag3 (Seg.refl.sub (S_a.seg2 (Sl.nth x0 j73)))
     obtain ⟨j105,ej105,hm⟩:=bind_s hm
     obtain ⟨mm106,k107⟩:=f93.h.blk (ck_lt ej105).1
     have a108:=lso k107 T.ag3 (seg_sl enc_int.len mm106 (ck_lt ej105).1)
     obtain ⟨v110,ev110,hm⟩:=bind_s hm
     have a109:=z_bi H88.length H88 (IntKind.i64.wrap ((IntKind.i64.wrap (1 + (Sl.nth l32 j100))) + (Sl.nth l32 j105))) v110 ev110
     obtain ⟨j111,ej111,hm⟩:=bind_s hm
     obtain ⟨H112,a113,f114,u115⟩:=st_sl0 (M:=Mt) (t:=3) (v:=(.int .i64 (v110))) (y:=v110) enc_int.len f93 (ck_lt ej111).1 (by rw [enc_int.len]; exact T.sz3) rfl (enc_int.one _) hcn
     have i116:=i92.up u115 (f93.some (ck_lt ej111).1).1
     have z117:l32 ≠ none:=sl_some (j:=j111) (ck_lt ej111).1
     have f118:=(u115.get _ ((f45.h.ne q81) z117).symm).trans f90
     simp only [C.f52r8,R,Nat.reduceEqDiff,s_pt,s_gt,isW,Bool.false_eq_true,if_false,if_true,reduceIte,h41,fa72_1,a99,ia100,ej100,a103,fa72_2,a104,ej105,a108,c_fn F51,a109,ej111,a113]
     refine hJ _ ?_
     refine n95 _ ?_
     refine n70 _ ?_
     refine n68 _ ?_
     exact ⟨x1_31,Sl.put l32 j111 v110,x14_34,x15_35,b33,hm,h40,(lk_eq (by simp only [slV_put,slV_copy]) h41),h42,h43,h44,f114,i116⟩
    ·skip
     refine tS hok fun J hJ=>?_
     simp only [C.f52r9,R,Nat.reduceEqDiff]
     refine hJ _ ?_
     refine tC rfl hm (fun g119 hm=>?_) (fun g119 hm=>?_)
     ·skip
      refine tE hok fun J hJ=>?_
      have a120:=lo f90 T.ag3 (Seg.refl.sub (S_a.seg1 (Sl.nth x0 j73)))
      obtain ⟨j121,ej121,hm⟩:=bind_s hm
      obtain ⟨mm122,k123⟩:=f93.h.blk (ck_lt ej121).1
      have a124:=lso k123 T.ag3 (seg_sl enc_int.len mm122 (ck_lt ej121).1)
      have a125:=lo f90 T.ag3 (Seg.refl.sub (S_a.seg2 (Sl.nth x0 j73)))
      obtain ⟨j126,ej126,hm⟩:=bind_s hm
      obtain ⟨mm127,k128⟩:=f93.h.blk (ck_lt ej126).1
      have a129:=lso k128 T.ag3 (seg_sl enc_int.len mm127 (ck_lt ej126).1)
      obtain ⟨v131,ev131,hm⟩:=bind_s hm
      have a130:=z_bi H88.length H88 (IntKind.i64.wrap (1 + (max (Sl.nth l32 j121) (Sl.nth l32 j126)))) v131 ev131
      obtain ⟨j132,ej132,hm⟩:=bind_s hm
      obtain ⟨H133,a134,f135,u136⟩:=st_sl0 (M:=Mt) (t:=3) (v:=(.int .i64 (v131))) (y:=v131) enc_int.len f93 (ck_lt ej132).1 (by rw [enc_int.len]; exact T.sz3) rfl (enc_int.one _) hcn
      have i137:=i92.up u136 (f93.some (ck_lt ej132).1).1
      have z138:l32 ≠ none:=sl_some (j:=j132) (ck_lt ej132).1
      have f139:=(u136.get _ ((f45.h.ne q81) z138).symm).trans f90
      simp only [C.f52r10,R,Nat.reduceEqDiff,s_pt,s_gt,isW,Bool.false_eq_true,if_false,if_true,reduceIte,h41,fa72_1,a120,ia100,ej121,a124,fa72_2,a125,ej126,a129,c_fn F51,a130,ej132,a134]
      refine hJ _ ?_
      refine n95 _ ?_
      refine n70 _ ?_
      refine n68 _ ?_
      exact ⟨x1_31,Sl.put l32 j132 v131,x14_34,x15_35,b33,hm,h40,(lk_eq (by simp only [slV_put,slV_copy]) h41),h42,h43,h44,f135,i137⟩
     ·skip
      refine tS hok fun J hJ=>?_
      simp only [C.f52r11,R,Nat.reduceEqDiff]
      refine hJ _ ?_
      refine tC rfl hm (fun g140 hm=>?_) (fun g140 hm=>?_)
      ·skip
       refine tE hok fun J hJ=>?_
       have a141:=lo f90 T.ag3 (Seg.refl.sub (S_a.seg1 (Sl.nth x0 j73)))
       obtain ⟨j142,ej142,hm⟩:=bind_s hm
       obtain ⟨mm143,k144⟩:=f93.h.blk (ck_lt ej142).1
       have a145:=lso k144 T.ag3 (seg_sl enc_int.len mm143 (ck_lt ej142).1)
       obtain ⟨v147,ev147,hm⟩:=bind_s hm
       have a146:=z_bi c.ro H88 (IntKind.i64.wrap (2 + (Sl.nth l32 j142))) v147 ev147
       obtain ⟨j148,ej148,hm⟩:=bind_s hm
       obtain ⟨H149,a150,f151,u152⟩:=st_sl0 (M:=Mt) (t:=3) (v:=(.int .i64 (v147))) (y:=v147) enc_int.len f93 (ck_lt ej148).1 (by rw [enc_int.len]; exact T.sz3) rfl (enc_int.one _) hcn
       have i153:=i92.up u152 (f93.some (ck_lt ej148).1).1
       have z154:l32 ≠ none:=sl_some (j:=j148) (ck_lt ej148).1
       have f155:=(u152.get _ ((f45.h.ne q81) z154).symm).trans f90
       simp only [C.f52r12,R,Nat.reduceEqDiff,h41,fa72_1,a141,ia100,ej142,a145,c_fn F51,a146,ej148,a150]
       refine hJ _ ?_
       refine n95 _ ?_
       refine n70 _ ?_
       refine n68 _ ?_
       exact ⟨x1_31,Sl.put l32 j148 v147,x14_34,x15_35,b33,hm,h40,(lk_eq (by simp only [slV_put,slV_copy]) h41),h42,h43,h44,f151,i153⟩
      ·skip
       refine tk_seq_j (fun ⟨σ,H,_⟩=>∃ x1_156 l157 x6_159 x160 x14_161 x15_162 x21_163 x73_164 b158,b_J c_e c_g n (b_n c_e c_g n x0 k1) x0 x1_156 l157 x6_159 x160 x14_161 x15_162 x21_163 x73_164 = some r ∧ Lk σ 1 (.int .i64 x1_156) ∧ Lk σ 5 (slV l157 b158) ∧ Lk σ 6 (.int .i64 x6_159) ∧ Lk σ 7 (.pointer (some ⟨b77,0,none⟩)) ∧ Lk σ 13 (slV x0 b0) ∧ Lk σ 14 (.int .i64 x14_161) ∧ Lk σ 15 (.int .i64 x15_162) ∧ Lk σ 21 (.int .i64 x21_163) ∧ Lk σ 73 (.bool x73_164) ∧ SlO c.nb H (cInt .i64) 3 l157 b158 ∧ H[b77]? = some (.cells (S_a.c x160) 72) ∧ (l157 ≠ none → b158 ≠ b77) ∧ Iv c.nb [] H0 H) ?_ ?_
       ·skip
        rintro ⟨σ180,H165,d181⟩ ⟨x1_156,l157,x6_159,x160,x14_161,x15_162,x21_163,x73_164,b158,hm,h167,h168,h169,h170,h171,h172,h173,h174,h175,f176,f177,n178,i179⟩
        rw [b_J] at hm
        refine tC h175 hm (fun g182 hm=>?_) (fun g182 hm=>?_)
        ·skip
         refine tE hok fun J hJ=>?_
         have a183:=lo f177 T.ag3 (Seg.refl.sub (S_a.seg1 x160))
         obtain ⟨j184,ej184,hm⟩:=bind_s hm
         obtain ⟨mm185,k186⟩:=f176.h.blk (ck_lt ej184).1
         have a187:=lso k186 T.ag3 (seg_sl enc_int.len mm185 (ck_lt ej184).1)
         obtain ⟨v189,ev189,hm⟩:=bind_s hm
         have a188:=z_bi c.ro H165 (IntKind.i64.wrap (3 + (Sl.nth l157 j184))) v189 ev189
         obtain ⟨j190,ej190,hm⟩:=bind_s hm
         obtain ⟨H191,a192,f193,u194⟩:=st_sl0 (M:=Mt) (t:=3) (v:=(.int .i64 (v189))) (y:=v189) enc_int.len f176 (ck_lt ej190).1 (by rw [enc_int.len]; exact T.sz3) rfl (enc_int.one _) hcn
         have i195:=i179.up u194 (f176.some (ck_lt ej190).1).1
         have z196:l157 ≠ none:=sl_some (j:=j190) (ck_lt ej190).1
         have f197:=(u194.get _ (n178 z196).symm).trans f177
         simp only [C.f52r18,R,Nat.reduceEqDiff,h168,h169,fa72_1,h170,a183,ia100,ej184,a187,c_fn F51,a188,ej190,a192]
         refine hJ _ ?_
         refine n95 _ ?_
         refine n70 _ ?_
         refine n68 _ ?_
         exact ⟨x1_156,Sl.put l157 j190 v189,x14_161,x15_162,b158,hm,h167,(lk_eq (by simp only [slV_put,slV_copy]) h168),h171,h172,h173,f193,i195⟩
        ·skip
         refine tS hok fun J hJ=>?_
         simp only [C.f52r19,R,Nat.reduceEqDiff,h174]
         refine hJ _ ?_
         refine tC rfl hm (fun g198 hm=>?_) (fun g198 hm=>?_)
         ·skip
          refine tE hok fun J hJ=>?_
          have a199:=la f177 T.ag72 (by rw [S_a.enc.len]; exact T.sz72) Seg.refl
          obtain ⟨v201,ev201,hm⟩:=bind_s hm
          have a200:=z_e3 H165.length H165 x160 x1_156 v201 ev201
          have a202:=lo f177 T.ag3 (Seg.refl.sub (S_a.seg1 x160))
          obtain ⟨j203,ej203,hm⟩:=bind_s hm
          obtain ⟨mm204,k205⟩:=f176.h.blk (ck_lt ej203).1
          have a206:=lso k205 T.ag3 (seg_sl enc_int.len mm204 (ck_lt ej203).1)
          obtain ⟨v208,ev208,hm⟩:=bind_s hm
          have a207:=z_bi H165.length H165 (IntKind.i64.wrap (4 + (IntKind.i64.wrap (v201 * (IntKind.i64.wrap (1 + (Sl.nth l157 j203))))))) v208 ev208
          obtain ⟨j209,ej209,hm⟩:=bind_s hm
          obtain ⟨H210,a211,f212,u213⟩:=st_sl0 (M:=Mt) (t:=3) (v:=(.int .i64 (v208))) (y:=v208) enc_int.len f176 (ck_lt ej209).1 (by rw [enc_int.len]; exact T.sz3) rfl (enc_int.one _) hcn
          have i214:=i179.up u213 (f176.some (ck_lt ej209).1).1
          have z215:l157 ≠ none:=sl_some (j:=j209) (ck_lt ej209).1
          have f216:=(u213.get _ (n178 z215).symm).trans f177
          simp only [C.f52r20,R,Nat.reduceEqDiff,s_pt,s_gt,isW,Bool.false_eq_true,if_false,if_true,reduceIte,h168,h169,a199,h170,h167,c_fn F79,a200,fa72_1,a202,ia100,ej203,a206,c_fn F51,a207,ej209,a211]
          refine hJ _ ?_
          refine n95 _ ?_
          refine n70 _ ?_
          refine n68 _ ?_
          exact ⟨x1_156,Sl.put l157 j209 v208,x14_161,x15_162,b158,hm,h167,(lk_eq (by simp only [slV_put,slV_copy]) h168),h171,h172,h173,f212,i214⟩
         ·skip
          refine tE hok fun J hJ=>?_
          obtain ⟨j217,ej217,hm⟩:=bind_s hm
          obtain ⟨H218,a219,f220,u221⟩:=st_sl0 (M:=Mt) (t:=3) (v:=(.int .i64 (1))) (y:=1) enc_int.len f176 (ck_lt ej217).1 (by rw [enc_int.len]; exact T.sz3) rfl (enc_int.one _) hcn
          have i222:=i179.up u221 (f176.some (ck_lt ej217).1).1
          have z223:l157 ≠ none:=sl_some (j:=j217) (ck_lt ej217).1
          have f224:=(u221.get _ (n178 z223).symm).trans f177
          simp only [C.f52r6,R,Nat.reduceEqDiff,h168,h169,ia100,ej217,a219]
          refine hJ _ ?_
          refine n95 _ ?_
          refine n70 _ ?_
          refine n68 _ ?_
          exact ⟨x1_156,Sl.put l157 j217 1,x14_161,x15_162,b158,hm,h167,(lk_eq (by simp only [slV_put,slV_copy]) h168),h171,h172,h173,f220,i222⟩
       ·refine fun K n225 x226=>?_
        refine tS hok fun J hJ=>?_
        simp only [C.f52r13,R,Nat.reduceEqDiff]
        refine hJ _ ?_
        refine tC rfl hm (fun g227 hm=>?_) (fun g227 hm=>?_)
        ·skip
         refine tK ?_
         refine n225 _ ?_
         exact ⟨x1_31,l32,x15_35,Sl.nth x0 j73,x14_34,x15_35,(Sl.nth x0 j73).f_Kind,decide (((Sl.nth x0 j73).f_Kind) = 13),b33,hm,h40,h41,rfl,rfl,h42,h43,h44,rfl,rfl,f93,f90,(f45.h.ne q81),i92⟩
        ·skip
         refine tS hok fun J hJ=>?_
         simp only [C.f52r14,R,Nat.reduceEqDiff]
         refine hJ _ ?_
         refine tC rfl hm (fun g228 hm=>?_) (fun g228 hm=>?_)
         ·skip
          refine tK ?_
          refine n225 _ ?_
          exact ⟨x1_31,l32,x15_35,Sl.nth x0 j73,x14_34,x15_35,(Sl.nth x0 j73).f_Kind,decide (((Sl.nth x0 j73).f_Kind) = 14),b33,hm,h40,h41,rfl,rfl,h42,h43,h44,rfl,rfl,f93,f90,(f45.h.ne q81),i92⟩
         ·skip
          refine tS hok fun J hJ=>?_
          simp only [C.f52r15,R,Nat.reduceEqDiff]
          refine hJ _ ?_
          refine tC rfl hm (fun g229 hm=>?_) (fun g229 hm=>?_)
          ·skip
           refine tK ?_
           refine n225 _ ?_
           exact ⟨x1_31,l32,x15_35,Sl.nth x0 j73,x14_34,x15_35,(Sl.nth x0 j73).f_Kind,decide (((Sl.nth x0 j73).f_Kind) = 15),b33,hm,h40,h41,rfl,rfl,h42,h43,h44,rfl,rfl,f93,f90,(f45.h.ne q81),i92⟩
          ·skip
           refine tS hok fun J hJ=>?_
           simp only [C.f52r16,R,Nat.reduceEqDiff]
           refine hJ _ ?_
           refine tC rfl hm (fun g230 hm=>?_) (fun g230 hm=>?_)
           ·skip
            refine tK ?_
            refine n225 _ ?_
            exact ⟨x1_31,l32,x15_35,Sl.nth x0 j73,x14_34,x15_35,(Sl.nth x0 j73).f_Kind,decide (((Sl.nth x0 j73).f_Kind) = 16),b33,hm,h40,h41,rfl,rfl,h42,h43,h44,rfl,rfl,f93,f90,(f45.h.ne q81),i92⟩
           ·skip
            refine tE hok fun J hJ=>?_
            simp only [C.f52r17,R,Nat.reduceEqDiff]
            refine hJ _ ?_
            refine n225 _ ?_
            exact ⟨x1_31,l32,x15_35,Sl.nth x0 j73,x14_34,x15_35,(Sl.nth x0 j73).f_Kind,decide (((Sl.nth x0 j73).f_Kind) = 17),b33,hm,h40,h41,rfl,rfl,h42,h43,h44,rfl,rfl,f93,f90,(f45.h.ne q81),i92⟩
  ·skip
   refine tX ?_
   refine x50 _ _ (by simp) ?_
   refine x37 _ _ (by simp) ?_
   refine e29 _ ?_
   refine n25 _ ?_
   refine tS hok fun J hJ=>?_
   simp only [C.f52r22,R,Nat.reduceEqDiff,h41]
   refine hJ _ ?_
   refine tR ?_
   obtain rfl:=Option.some.inj hm
   exact end_sl1 (P:=Mt.P) (rs:=[(.tmp 4)]) (pre:=[]) (post:=[]) (x:=l32) (b:=b33) (nb:=H0.length) (.inl rfl) (by rw [← hnb]; exact f45) enc_int fm_nil fm_nil (resT' (v:=(slV l32 b33)) rfl resN)
end Go.Proofs.YtaadjlpfdajggaaGreatDoor
