import Derived.Test.YtaadjlpfdajggaaGreatDoorFgBase
set_option maxRecDepth 100000
set_option linter.unusedVariables false
set_option linter.unusedSimpArgs false
namespace Go.Proofs.YtaadjlpfdajggaaGreatDoor
open Go Go.AM
attribute [local congr] bind_first map_first
def b_law09_FactsLong (c_law05_Cut:T_law05_Cut) (c_facts_Of:T_facts_Of) (c_law09_fixed:T_law09_fixed) (c_ast_Len:T_ast_Len) (c_class_Set_Has:T_class_Set_Has) (n:Nat) (x0:(Sl ast_Node)):Option (Bool):=(c_law05_Cut x0 60).bind fun v14=>(c_facts_Of v14).bind fun v28=>(c_ast_Len v14 (IntKind.i64.wrap ((Sl.len v14) - 1))).bind fun v49=>bif !decide (v28.2 = 0) then ((bif decide (v28.1 = facts_Facts.zero) then ((c_law09_fixed).bind fun v55=>some v55) else some false).bind fun y56=>some y56) else (bif ((((!decide (v49.2.2 = 0)) || ((!v28.1.f_Open) && (decide (v49.1 < 1)))) || ((decide (v49.2.1 = 0)) && (!v28.1.f_Open))) || (decide (v49.1 < ((v28.1.f_Prefix.size:Int))))) || (decide (100 < ((v28.1.f_Prefix.size:Int)))) then (some false) else ((bif decide (v28.1.f_Prefix = ((⟨#[]⟩:ByteArray))) then some true else ((bt v28.1.f_Prefix 0).bind fun v117=>(c_class_Set_Has v28.1.f_First v117).bind fun v119=>some v119)).bind fun y120=>(bif y120 then ((c_law09_fixed).bind fun v133=>some v133) else some false).bind fun y134=>some y134))
theorem w_law09_FactsLong {call:CallF} (hok:CallOk Mt call) {n:Nat} {c_law05_Cut:T_law05_Cut} (ha_law05_Cut:A_law05_Cut call c_law05_Cut) {c_facts_Of:T_facts_Of} (ha_facts_Of:A_facts_Of call c_facts_Of) {c_law09_fixed:T_law09_fixed} (ha_law09_fixed:A_law09_fixed call c_law09_fixed) {c_ast_Len:T_ast_Len} (ha_ast_Len:A_ast_Len call c_ast_Len) {c_class_Set_Has:T_class_Set_Has} (ha_class_Set_Has:A_class_Set_Has call c_class_Set_Has) {H0:Hp} {x0:(Sl ast_Node)} {b0:Nat} {r:Bool} {ro:Nat} (hro:ro ≤ H0.length) (h0:SlH H0 ast_Node.c 72 x0 b0) (hm:b_law09_FactsLong c_law05_Cut c_facts_Of c_law09_fixed c_ast_Len c_class_Set_Has n x0 = some r) (hG1:TabH1 H0) :
  Pt Mt ro 9 [(vAgg [slV x0 b0])] H0 (.bool (r)) H0 []:=by
 refine pt_new0 okM F9d (by exact Nat.le_of_ble_eq_true rfl) ?_ hro
 intro c hnt hnb hcr
 have hcn:c.ro ≤ c.nb:=by omega
 have l0:x0 ≠ none → b0 < c.nb:=fun h=>by rw [hnb]; exact h0.lt h
 have iv:Iv c.nb [] H0 H0:=by rw [hnb]; exact iv_refl
 rw [show args0 [(vAgg [slV x0 b0])] = [(0,(vAgg [slV x0 b0]))] from rfl]
 rw [b_law09_FactsLong] at hm
 simp only [C.f9]
 refine tk_os okM hok fun J hJ=>?_
 obtain ⟨b2,H3,a4,f5,q6,r7,x8,i9⟩:=bx_ok (M:=Mt) (t:=37) (u:=(vAgg [(slV x0 b0)])) (cs:=[(slV x0 b0)]) H0 iv.le T.sz37 vAgg_cells one_sl
 have i10:=i9 _ _ iv
 simp only [C.f9r0,R,Nat.reduceEqDiff,a4]
 refine hJ _ ?_
 refine tk_os okM hok fun J hJ=>?_
 have a12:=ld_agg (M:=Mt) (t:=37) (off:=0) (c:=[(slV x0 b0)]) f5 T.ag37 T.sz37 Seg.refl
 obtain ⟨v14,ev14,hm⟩:=bind_s hm
 have a13:=ha_law05_Cut c.ro H3 x0 b0 60 v14 (h0.iv l0 (fun _=>by simp) i10) ev14
 obtain ⟨a17,l16,f15⟩:=a13
 have f18:=f15 _ _ h0
 have l19:=fun h=>l0 (l16 h)
 obtain ⟨H21,a22,f23,u24⟩:=st_ok (M:=Mt) (t:=37) (off:=0) (ro:=c.ro) (v:=(vAgg [(slV v14 b0)])) (c:=[(slV v14 b0)]) (cs':=[(slV v14 b0)]) f5 T.sz37 vAgg_cells one_sl (Nat.le_trans hcn r7) (Nat.le_refl _) rfl
 have i25:=i10.up u24 r7
 simp only [C.f9r1,R,Nat.reduceEqDiff,a12,c_fn F18,a17,a22]
 refine hJ _ ?_
 refine tk_os okM hok fun J hJ=>?_
 have a26:=ld_agg (M:=Mt) (t:=37) (off:=0) (c:=[(slV v14 b0)]) f23 T.ag37 T.sz37 Seg.refl
 obtain ⟨v28,ev28,hm⟩:=bind_s hm
 have a27:=ha_facts_Of c.ro H21 v14 b0 v28 (f18.iv l19 (fun _=>by simp) i25) (tabIv1 i25 hnb hG1) ev28
 obtain ⟨b29,H30,a31,f32,q33,r34,x35,i36⟩:=al_ok H21 54 (facts_Facts.c facts_Facts.zero) i25.le
 have i37:=i36 _ _ i25
 have f38:=x35 _ _ f23
 obtain ⟨H40,a41,f42,u43⟩:=st_ok (M:=Mt) (t:=54) (v:=(vAgg (facts_Facts.c (v28.1)))) (c:=facts_Facts.c v28.1) (cs':=facts_Facts.c v28.1) f32 (by rw [facts_Facts.enc.len]; exact T.sz54) vAgg_cells (facts_Facts.enc.one _) (Nat.le_trans hcn r34) (le0 facts_Facts.enc.len) (wrs_all (eqL facts_Facts.enc.len))
 have i44:=i37.up u43 r34
 have f45:=(u43.get _ (ne_len f23 q33)).trans f38
 simp only [C.f9r2,R,Nat.reduceEqDiff,a26,c_fn F26,a27,zs54,a31,a41]
 refine hJ _ ?_
 refine tk_os okM hok fun J hJ=>?_
 have a46:=ld_agg (M:=Mt) (t:=37) (off:=0) (c:=[(slV v14 b0)]) f45 T.ag37 T.sz37 Seg.refl
 have a47:=ld_one (M:=Mt) (t:=35) (off:=0 + 0) f45 T.ag35 Seg.refl
 obtain ⟨v49,ev49,hm⟩:=bind_s hm
 have a48:=ha_ast_Len c.ro H40 v14 b0 (IntKind.i64.wrap ((Sl.len v14) - 1)) v49 (f18.iv l19 (fun _=>by simp) i44) ev49
 simp only [C.f9r3,R,Nat.reduceEqDiff,a46,fa37_0,a47,ln35,c_fn F34,a48]
 refine hJ _ ?_
 refine tk_seq_k fun K n50 x51=>?_
 refine tk_os okM hok fun J hJ=>?_
 simp only [C.f9r4,R,Nat.reduceEqDiff]
 refine hJ _ ?_
 refine tk_cond (t:=!decide (v28.2 = 0)) rfl (fun g52=>?_) (fun g52=>?_)
 ·replace hm:=cond_t hm g52
  refine tk_os okM hok fun J hJ=>?_
  rw [C.f9r5]
  have a53:=ld_agg (M:=Mt) (t:=54) f42 T.ag54 (by rw [facts_Facts.enc.len]; exact T.sz54) Seg.refl
  obtain ⟨y56,ey56,hm⟩:=bind_s hm
  refine rn_app_k (fun ⟨σ,H,_⟩=>Lk σ 32 (.bool (y56)) ∧ Iv c.nb [] H0 H) (fun J hJ=>?_) ?_
  ·skip
   cases g60:decide (v28.1 = facts_Facts.zero)
   ·skip
    have ey56:=cond_f ey56 g60
    obtain rfl:=Option.some.inj ey56
    simp only [C.f9r5p0,R,Nat.reduceEqDiff,a53,bd54_,eql54,g60]
    refine hJ _ ?_
    exact ⟨(by first | rfl | (simp only [g60]; rfl) | simp only [g60,Lk,RB,Nat.reduceEqDiff,not_false_eq_true]),i44⟩
   ·skip
    have ey56:=cond_t ey56 g60
    obtain ⟨v62,ev62,ey56⟩:=bind_s ey56
    have a61:=ha_law09_fixed c.ro H40  v62 (tabIv1 i44 hnb hG1) ev62
    obtain rfl:=Option.some.inj ey56
    simp only [C.f9r5p0,R,Nat.reduceEqDiff,a53,bd54_,eql54,g60,c_fn F29,a61]
    refine hJ _ ?_
    exact ⟨(by first | rfl | (simp only [g60]; rfl) | simp only [g60,Lk,RB,Nat.reduceEqDiff,not_false_eq_true]),i44⟩
  rintro ⟨σ63,H57,d64⟩ ⟨h58,i59⟩
  simp only [C.f9r5p1,R,Nat.reduceEqDiff,h58]
  refine hJ _ ?_
  refine tk_ret okM ?_
  refine x51 _ _ (by simp) ?_
  obtain rfl:=Option.some.inj hm
  exact end_flat (.inl rfl) (vs:=[(.bool (y56))]) (resT' (v:=(.bool (y56))) rfl resN) (fm_cons rfl fm_nil)
 ·replace hm:=cond_f hm g52
  refine tk_skip okM ?_
  refine n50 _ ?_
  refine tk_seq_k fun K n65 x66=>?_
  refine tk_os okM hok fun J hJ=>?_
  rw [C.f9r6]
  refine rn_app_k (fun ⟨σ,H,_⟩=>Lk σ 3 (.pointer (some ⟨b29,0,none⟩)) ∧ Lk σ 5 (.int .i64 (v49.1)) ∧ Lk σ 6 (.int .i64 (v49.2.1)) ∧ Lk σ 43 (.bool ((!decide (v49.2.2 = 0)) || ((!v28.1.f_Open) && (decide (v49.1 < 1))))) ∧ H[b29]? = some (.cells (facts_Facts.c v28.1) 54) ∧ Iv c.nb [] H0 H) (fun J hJ=>?_) ?_
  ·skip
   cases g75:!decide (v49.2.2 = 0)
   ·skip
    have a76:=ld_one (M:=Mt) (t:=4) f42 T.ag4 (Seg.refl.sub (facts_Facts.seg1 v28.1))
    cases g77:!v28.1.f_Open
    ·skip
     simp only [C.f9r6p0,R,Nat.reduceEqDiff,g75,fa54_1,a76,g77]
     refine hJ _ ?_
     exact ⟨rfl,(by first | rfl | (simp only [g75,g77]; rfl) | simp only [g75,g77,Lk,RB,Nat.reduceEqDiff,not_false_eq_true]),(by first | rfl | (simp only [g75,g77]; rfl) | simp only [g75,g77,Lk,RB,Nat.reduceEqDiff,not_false_eq_true]),(by first | rfl | (simp only [g75,g77]; rfl) | simp only [g75,g77,Lk,RB,Nat.reduceEqDiff,not_false_eq_true]),f42,i44⟩
    ·skip
     simp only [C.f9r6p0,R,Nat.reduceEqDiff,g75,fa54_1,a76,g77]
     refine hJ _ ?_
     exact ⟨rfl,(by first | rfl | (simp only [g75,g77]; rfl) | simp only [g75,g77,Lk,RB,Nat.reduceEqDiff,not_false_eq_true]),(by first | rfl | (simp only [g75,g77]; rfl) | simp only [g75,g77,Lk,RB,Nat.reduceEqDiff,not_false_eq_true]),(by first | rfl | (simp only [g75,g77]; rfl) | simp only [g75,g77,Lk,RB,Nat.reduceEqDiff,not_false_eq_true]),f42,i44⟩
   ·skip
    simp only [C.f9r6p0,R,Nat.reduceEqDiff,g75]
    refine hJ _ ?_
    exact ⟨rfl,(by first | rfl | (simp only [g75]; rfl) | simp only [g75,Lk,RB,Nat.reduceEqDiff,not_false_eq_true]),(by first | rfl | (simp only [g75]; rfl) | simp only [g75,Lk,RB,Nat.reduceEqDiff,not_false_eq_true]),(by first | rfl | (simp only [g75]; rfl) | simp only [g75,Lk,RB,Nat.reduceEqDiff,not_false_eq_true]),f42,i44⟩
  rintro ⟨σ78,H68,d79⟩ ⟨h69,h70,h71,h72,f73,i74⟩
  refine rn_app_k (fun ⟨σ,H,_⟩=>Lk σ 3 (.pointer (some ⟨b29,0,none⟩)) ∧ Lk σ 5 (.int .i64 (v49.1)) ∧ Lk σ 52 (.bool (((!decide (v49.2.2 = 0)) || ((!v28.1.f_Open) && (decide (v49.1 < 1)))) || ((decide (v49.2.1 = 0)) && (!v28.1.f_Open)))) ∧ H[b29]? = some (.cells (facts_Facts.c v28.1) 54) ∧ Iv c.nb [] H0 H) (fun J hJ=>?_) ?_
  ·skip
   cases g87:(!decide (v49.2.2 = 0)) || ((!v28.1.f_Open) && (decide (v49.1 < 1)))
   ·skip
    cases g89:decide (v49.2.1 = 0)
    ·skip
     simp only [C.f9r6p1,R,Nat.reduceEqDiff,h72,g87,h71,g89]
     refine hJ _ ?_
     exact ⟨h69,h70,(by first | rfl | (simp only [g87,g89]; rfl) | simp only [g87,g89,Lk,RB,Nat.reduceEqDiff,not_false_eq_true]),f73,i74⟩
    ·skip
     have a90:=ld_one (M:=Mt) (t:=4) f73 T.ag4 (Seg.refl.sub (facts_Facts.seg1 v28.1))
     simp only [C.f9r6p1,R,Nat.reduceEqDiff,h72,g87,h71,g89,fa54_1,h69,a90]
     refine hJ _ ?_
     exact ⟨h69,h70,(by first | rfl | (simp only [g87,g89]; rfl) | simp only [g87,g89,Lk,RB,Nat.reduceEqDiff,not_false_eq_true]),f73,i74⟩
   ·skip
    simp only [C.f9r6p1,R,Nat.reduceEqDiff,h72,g87]
    refine hJ _ ?_
    exact ⟨h69,h70,(by first | rfl | (simp only [g87]; rfl) | simp only [g87,Lk,RB,Nat.reduceEqDiff,not_false_eq_true]),f73,i74⟩
  rintro ⟨σ91,H81,d92⟩ ⟨h82,h83,h84,f85,i86⟩
  refine rn_app_k (fun ⟨σ,H,_⟩=>Lk σ 3 (.pointer (some ⟨b29,0,none⟩)) ∧ Lk σ 59 (.bool ((((!decide (v49.2.2 = 0)) || ((!v28.1.f_Open) && (decide (v49.1 < 1)))) || ((decide (v49.2.1 = 0)) && (!v28.1.f_Open))) || (decide (v49.1 < ((v28.1.f_Prefix.size:Int)))))) ∧ H[b29]? = some (.cells (facts_Facts.c v28.1) 54) ∧ Iv c.nb [] H0 H) (fun J hJ=>?_) ?_
  ·skip
   cases g99:((!decide (v49.2.2 = 0)) || ((!v28.1.f_Open) && (decide (v49.1 < 1)))) || ((decide (v49.2.1 = 0)) && (!v28.1.f_Open))
   ·skip
    have a100:=ld_one (M:=Mt) (t:=9) f85 T.ag9 (Seg.refl.sub (facts_Facts.seg3 v28.1))
    simp only [C.f9r6p2,R,Nat.reduceEqDiff,h84,g99,fa54_3,h82,a100,len_str (M:=Mt) Tryz.underlying9,h83]
    refine hJ _ ?_
    exact ⟨h82,(by first | rfl | (simp only [g99]; rfl) | simp only [g99,Lk,RB,Nat.reduceEqDiff,not_false_eq_true]),f85,i86⟩
   ·skip
    simp only [C.f9r6p2,R,Nat.reduceEqDiff,h84,g99]
    refine hJ _ ?_
    exact ⟨h82,(by first | rfl | (simp only [g99]; rfl) | simp only [g99,Lk,RB,Nat.reduceEqDiff,not_false_eq_true]),f85,i86⟩
  rintro ⟨σ101,H94,d102⟩ ⟨h95,h96,f97,i98⟩
  refine rn_k (fun ⟨σ,H,_⟩=>Lk σ 3 (.pointer (some ⟨b29,0,none⟩)) ∧ Lk σ 65 (.bool (((((!decide (v49.2.2 = 0)) || ((!v28.1.f_Open) && (decide (v49.1 < 1)))) || ((decide (v49.2.1 = 0)) && (!v28.1.f_Open))) || (decide (v49.1 < ((v28.1.f_Prefix.size:Int))))) || (decide (100 < ((v28.1.f_Prefix.size:Int)))))) ∧ H[b29]? = some (.cells (facts_Facts.c v28.1) 54) ∧ Iv c.nb [] H0 H) (fun J hJ=>?_) ?_
  ·skip
   cases g109:(((!decide (v49.2.2 = 0)) || ((!v28.1.f_Open) && (decide (v49.1 < 1)))) || ((decide (v49.2.1 = 0)) && (!v28.1.f_Open))) || (decide (v49.1 < ((v28.1.f_Prefix.size:Int))))
   ·skip
    have a110:=ld_one (M:=Mt) (t:=9) f97 T.ag9 (Seg.refl.sub (facts_Facts.seg3 v28.1))
    simp only [C.f9r6p3,R,Nat.reduceEqDiff,h96,g109,fa54_3,h95,a110,len_str (M:=Mt) Tryz.underlying9]
    refine hJ _ ?_
    exact ⟨h95,(by first | rfl | (simp only [g109]; rfl) | simp only [g109,Lk,RB,Nat.reduceEqDiff,not_false_eq_true]),f97,i98⟩
   ·skip
    simp only [C.f9r6p3,R,Nat.reduceEqDiff,h96,g109]
    refine hJ _ ?_
    exact ⟨h95,(by first | rfl | (simp only [g109]; rfl) | simp only [g109,Lk,RB,Nat.reduceEqDiff,not_false_eq_true]),f97,i98⟩
  rintro ⟨σ111,H104,d112⟩ ⟨h105,h106,f107,i108⟩
  refine hJ _ ?_
  refine tk_cond (t:=((((!decide (v49.2.2 = 0)) || ((!v28.1.f_Open) && (decide (v49.1 < 1)))) || ((decide (v49.2.1 = 0)) && (!v28.1.f_Open))) || (decide (v49.1 < ((v28.1.f_Prefix.size:Int))))) || (decide (100 < ((v28.1.f_Prefix.size:Int))))) h106 (fun g113=>?_) (fun g113=>?_)
  ·replace hm:=cond_t hm g113
   refine tk_os okM hok fun J hJ=>?_
   simp only [C.f9r7,R,Nat.reduceEqDiff]
   refine hJ _ ?_
   refine tk_ret okM ?_
   refine x66 _ _ (by simp) ?_
   obtain rfl:=Option.some.inj hm
   exact end_flat (.inl rfl) (vs:=[(.bool (false))]) (resT' (v:=(.bool (false))) rfl resN) (fm_cons rfl fm_nil)
  ·replace hm:=cond_f hm g113
   refine tk_skip okM ?_
   refine n65 _ ?_
   refine tk_os okM hok fun J hJ=>?_
   rw [C.f9r8]
   have a114:=ld_one (M:=Mt) (t:=9) f107 T.ag9 (Seg.refl.sub (facts_Facts.seg3 v28.1))
   obtain ⟨y120,ey120,hm⟩:=bind_s hm
   refine rn_app_k (fun ⟨σ,H,_⟩=>Lk σ 76 (.bool (y120)) ∧ Iv c.nb [] H0 H) (fun J hJ=>?_) ?_
   ·skip
    cases g124:decide (v28.1.f_Prefix = ((⟨#[]⟩:ByteArray)))
    ·skip
     have ey120:=cond_f ey120 g124
     have a125:=ld_agg (M:=Mt) (t:=25) f107 T.ag25 (by rw [class_Set.enc.len]; exact T.sz25) (Seg.refl.sub (facts_Facts.seg0 v28.1))
     have a126:=ld_one (M:=Mt) (t:=9) f107 T.ag9 (Seg.refl.sub (facts_Facts.seg3 v28.1))
     obtain ⟨v127,ev127,ey120⟩:=bind_s ey120
     obtain ⟨v129,ev129,ey120⟩:=bind_s ey120
     have a128:=ha_class_Set_Has H104.length H104 v28.1.f_First v127 v129 ev129
     obtain rfl:=Option.some.inj ey120
     simp only [C.f9r8p0,R,Nat.reduceEqDiff,s_pt,s_gt,isW,Bool.false_eq_true,if_false,if_true,reduceIte,fa54_3,h105,a114,g124,fa54_0,a125,a126,idxP_str (M:=Mt) Tryz.underlying9,ev127,c_fn F35,a128]
     refine hJ _ ?_
     exact ⟨(by first | rfl | (simp only [g124]; rfl) | simp only [g124,Lk,RB,Nat.reduceEqDiff,not_false_eq_true]),i108⟩
    ·skip
     have ey120:=cond_t ey120 g124
     obtain rfl:=Option.some.inj ey120
     simp only [C.f9r8p0,R,Nat.reduceEqDiff,s_pt,s_gt,isW,Bool.false_eq_true,if_false,if_true,reduceIte,fa54_3,h105,a114,g124]
     refine hJ _ ?_
     exact ⟨(by first | rfl | (simp only [g124]; rfl) | simp only [g124,Lk,RB,Nat.reduceEqDiff,not_false_eq_true]),i108⟩
   rintro ⟨σ130,H121,d131⟩ ⟨h122,i123⟩
   obtain ⟨y134,ey134,hm⟩:=bind_s hm
   refine rn_app_k (fun ⟨σ,H,_⟩=>Lk σ 79 (.bool (y134)) ∧ Iv c.nb [] H0 H) (fun J hJ=>?_) ?_
   ·skip
    cases g138:y120
    ·skip
     have ey134:=cond_f ey134 g138
     obtain rfl:=Option.some.inj ey134
     simp only [C.f9r8p1,R,Nat.reduceEqDiff,s_pt,s_gt,isW,Bool.false_eq_true,if_false,if_true,reduceIte,h122,g138]
     refine hJ _ ?_
     exact ⟨(by first | rfl | (simp only [g138]; rfl) | simp only [g138,Lk,RB,Nat.reduceEqDiff,not_false_eq_true]),i123⟩
    ·skip
     have ey134:=cond_t ey134 g138
     obtain ⟨v140,ev140,ey134⟩:=bind_s ey134
     have a139:=ha_law09_fixed H121.length H121  v140 (tabIv1 i123 hnb hG1) ev140
     obtain rfl:=Option.some.inj ey134
     simp only [C.f9r8p1,R,Nat.reduceEqDiff,s_pt,s_gt,isW,Bool.false_eq_true,if_false,if_true,reduceIte,h122,g138,c_fn F29,a139]
     refine hJ _ ?_
     exact ⟨(by first | rfl | (simp only [g138]; rfl) | simp only [g138,Lk,RB,Nat.reduceEqDiff,not_false_eq_true]),i123⟩
   rintro ⟨σ141,H135,d142⟩ ⟨h136,i137⟩
   simp only [C.f9r8p2,R,Nat.reduceEqDiff,s_pt,s_gt,isW,Bool.false_eq_true,if_false,if_true,reduceIte,h136]
   refine hJ _ ?_
   refine tk_ret okM ?_
   obtain rfl:=Option.some.inj hm
   exact end_flat (.inl rfl) (vs:=[(.bool (y134))]) (resT' (v:=(.bool (y134))) rfl resN) (fm_cons rfl fm_nil)
def b_law05_Cut (n:Nat) (x0:(Sl ast_Node)) (x1:Int):Option ((Sl ast_Node)):=(Sl.upto x0 (min (Sl.len x0) x1)).bind fun l25=>some l25
theorem w_law05_Cut {call:CallF} (hok:CallOk Mt call) {n:Nat} {H0:Hp} {x0:(Sl ast_Node)} {b0:Nat} {x1:Int} {r:(Sl ast_Node)} {ro:Nat} (hro:ro ≤ H0.length) (h0:SlH H0 ast_Node.c 72 x0 b0) (hm:b_law05_Cut n x0 x1 = some r) :
  Pt Mt ro 18 [(vAgg [slV x0 b0]),(.int .i64 x1)] H0 (vAgg [slV r b0]) H0 []:=by
 refine pt_new0 okM F18d (by exact Nat.le_of_ble_eq_true rfl) ?_ hro
 intro c hnt hnb hcr
 have hcn:c.ro ≤ c.nb:=by omega
 have l0:x0 ≠ none → b0 < c.nb:=fun h=>by rw [hnb]; exact h0.lt h
 have iv:Iv c.nb [] H0 H0:=by rw [hnb]; exact iv_refl
 rw [show args0 [(vAgg [slV x0 b0]),(.int .i64 x1)] = [(0,(vAgg [slV x0 b0])),(1,(.int .i64 x1))] from rfl]
 rw [b_law05_Cut] at hm
 simp only [C.f18]
 refine tk_os okM hok fun J hJ=>?_
 obtain ⟨b2,H3,a4,f5,q6,r7,x8,i9⟩:=bx_ok (M:=Mt) (t:=37) (u:=(vAgg [(slV x0 b0)])) (cs:=[(slV x0 b0)]) H0 iv.le T.sz37 vAgg_cells one_sl
 have i10:=i9 _ _ iv
 obtain ⟨b12,H13,a14,f15,q16,r17,x18,i19⟩:=al_ok H3 37 [.slice none 0 0] i10.le
 have i20:=i19 _ _ i10
 have f21:=x18 _ _ f5
 simp only [C.f18r0,R,Nat.reduceEqDiff,a4,(show zc Mt.P 37 = _ from T.zc37),a14]
 refine hJ _ ?_
 refine tk_os okM hok fun J hJ=>?_
 have a23:=ld_one (M:=Mt) (t:=35) (off:=0 + 0) f21 T.ag35 Seg.refl
 have a24:=ld_one (M:=Mt) (t:=35) (off:=0 + 0) f21 T.ag35 Seg.refl
 obtain ⟨l25,el25,hm⟩:=bind_s hm
 have f26:=h0.upto el25
 have l27:=fun h=>l0 (Sl.upto_none el25 h)
 obtain ⟨H29,a30,f31,u32⟩:=st_ok (M:=Mt) (t:=37) (off:=0) (ro:=c.ro) (v:=(vAgg [(slV l25 b0)])) (c:=[(slV l25 b0)]) (cs':=[(slV l25 b0)]) f15 T.sz37 vAgg_cells one_sl (Nat.le_trans hcn r17) (Nat.le_refl _) rfl
 have i33:=i20.up u32 r17
 have f34:=(u32.get _ (ne_len f5 q16)).trans f21
 simp only [C.f18r1,R,Nat.reduceEqDiff,fa37_0,a23,a24,ln35,sl_upto (M:=Mt) Tryz.underlying35 T.sz72 (by decide) ast_Node.enc.len (h0.iv l0 (fun _=>by simp) i20) el25,bd_wr (M:=Mt) (x:=l25) (b:=b0) (show zc Mt.P 37 = _ from T.zc37) pl37,a30]
 refine hJ _ ?_
 refine tk_ret okM ?_
 obtain rfl:=Option.some.inj hm
 refine end_old (.inl rfl) (vs:=[(vAgg [(slV l25 b0)])]) (resC' (v:=(vAgg [(slV l25 b0)])) rfl (ldv_of (ld_agg (M:=Mt) (t:=37) (c:=[(slV l25 b0)]) f31 T.ag37 T.sz37 Seg.refl)) resN) ?_
 intro v hv i hi
 simp only [List.mem_singleton] at hv; subst hv
 rw [← hnb]; exact slV_lt l27 i (by simpa [vAgg] using hi)
def b_facts_Of (c_ast_Right:T_ast_Right) (c_facts_all:T_facts_all) (n:Nat) (x0:(Sl ast_Node)):Option (facts_Facts × Int):=(c_ast_Right x0).bind fun v27=>bif !decide (v27 = 0) then (some (facts_Facts.zero,v27)) else ((c_facts_all x0).bind fun v39=>(ck (Sl.l v39).length (IntKind.i64.wrap ((Sl.len x0) - 1))).bind fun j52=>some ((Sl.nth v39 j52).f_Facts,0))
theorem w_facts_Of {call:CallF} (hok:CallOk Mt call) {n:Nat} {c_ast_Right:T_ast_Right} (ha_ast_Right:A_ast_Right call c_ast_Right) {c_facts_all:T_facts_all} (ha_facts_all:A_facts_all call c_facts_all) {H0:Hp} {x0:(Sl ast_Node)} {b0:Nat} {r:facts_Facts × Int} {ro:Nat} (hro:ro ≤ H0.length) (h0:SlH H0 ast_Node.c 72 x0 b0) (hm:b_facts_Of c_ast_Right c_facts_all n x0 = some r) (hG1:TabH1 H0) :
  Pt Mt ro 26 [(vAgg [slV x0 b0])] H0 (.tuple [(vAgg (facts_Facts.c (r.1))),(.int .i64 (r.2))].toArray) H0 []:=by
 refine pt_new0 okM F26d (by exact Nat.le_of_ble_eq_true rfl) ?_ hro
 intro c hnt hnb hcr
 have hcn:c.ro ≤ c.nb:=by omega
 have l0:x0 ≠ none → b0 < c.nb:=fun h=>by rw [hnb]; exact h0.lt h
 have iv:Iv c.nb [] H0 H0:=by rw [hnb]; exact iv_refl
 rw [show args0 [(vAgg [slV x0 b0])] = [(0,(vAgg [slV x0 b0]))] from rfl]
 rw [b_facts_Of] at hm
 simp only [C.f26]
 refine tk_os okM hok fun J hJ=>?_
 obtain ⟨b2,H3,a4,f5,q6,r7,x8,i9⟩:=bx_ok (M:=Mt) (t:=37) (u:=(vAgg [(slV x0 b0)])) (cs:=[(slV x0 b0)]) H0 iv.le T.sz37 vAgg_cells one_sl
 have i10:=i9 _ _ iv
 obtain ⟨b12,H13,a14,f15,q16,r17,x18,i19⟩:=al_ok H3 54 (facts_Facts.c facts_Facts.zero) i10.le
 have i20:=i19 _ _ i10
 have f21:=x18 _ _ f5
 simp only [C.f26r0,R,Nat.reduceEqDiff,a4,zs54,a14]
 refine hJ _ ?_
 refine tk_seq_k fun K n23 x24=>?_
 refine tk_os okM hok fun J hJ=>?_
 have a25:=ld_agg (M:=Mt) (t:=37) (off:=0) (c:=[(slV x0 b0)]) f21 T.ag37 T.sz37 Seg.refl
 obtain ⟨v27,ev27,hm⟩:=bind_s hm
 have a26:=ha_ast_Right c.ro H13 x0 b0 v27 (h0.iv l0 (fun _=>by simp) i20) ev27
 simp only [C.f26r1,R,Nat.reduceEqDiff,a25,c_fn F40,a26]
 refine hJ _ ?_
 refine tk_os okM hok fun J hJ=>?_
 simp only [C.f26r2,R,Nat.reduceEqDiff]
 refine hJ _ ?_
 refine tk_cond (t:=!decide (v27 = 0)) rfl (fun g28=>?_) (fun g28=>?_)
 ·replace hm:=cond_t hm g28
  refine tk_os okM hok fun J hJ=>?_
  obtain ⟨H29,a30,f31,u32⟩:=st_ok (M:=Mt) (t:=54) (v:=(vAgg (facts_Facts.c (facts_Facts.zero)))) (c:=facts_Facts.c facts_Facts.zero) (cs':=facts_Facts.c facts_Facts.zero) f15 (by rw [facts_Facts.enc.len]; exact T.sz54) vAgg_cells (facts_Facts.enc.one _) (Nat.le_trans hcn r17) (le0 facts_Facts.enc.len) (wrs_all (eqL facts_Facts.enc.len))
  have i33:=i20.up u32 r17
  have f34:=(u32.get _ (ne_len f5 q16)).trans f21
  simp only [C.f26r3,R,Nat.reduceEqDiff,bd54_,a30]
  refine hJ _ ?_
  refine tk_ret okM ?_
  refine x24 _ _ (by simp) ?_
  obtain rfl:=Option.some.inj hm
  exact end_flat (.inl rfl) (vs:=[(vAgg (facts_Facts.c (facts_Facts.zero))),(.int .i64 (v27))]) (resC' (v:=(vAgg (facts_Facts.c (facts_Facts.zero)))) rfl (ldv_of (ld_agg (M:=Mt) (t:=54) f31 T.ag54 (by rw [facts_Facts.enc.len]; exact T.sz54) Seg.refl)) (resT' (v:=(.int .i64 (v27))) rfl resN)) (fm_cons (flat_agg facts_Facts.enc _) (fm_cons rfl fm_nil))
 ·replace hm:=cond_f hm g28
  refine tk_skip okM ?_
  refine n23 _ ?_
  refine tk_os okM hok fun J hJ=>?_
  have a35:=ld_agg (M:=Mt) (t:=37) (off:=0) (c:=[(slV x0 b0)]) f21 T.ag37 T.sz37 Seg.refl
  obtain ⟨R37,q38⟩:∃ b,b = H13.length:=⟨_,rfl⟩
  obtain ⟨v39,ev39,hm⟩:=bind_s hm
  have a36:=ha_facts_all R37 H13 x0 b0 v39 (h0.iv l0 (fun _=>by simp) i20) (tabIv1 i20 hnb hG1) ev39
  obtain ⟨H40,q41⟩:∃ x,x = H13 ++ slB facts_known.c 107 v39:=⟨_,rfl⟩
  obtain ⟨b42,q43⟩:∃ b,b = H13.length:=⟨_,rfl⟩
  rw [← q41,← q43] at a36
  have x47:Ex H13 H40:=by rw [q41]; exact ex_app
  have i45:Iv c.nb [] H0 H40:=by rw [q41]; exact i20.app
  have f44:SlO c.nb H40 facts_known.c 107 v39 b42:=by rw [q41,q43]; exact slB_own i20.le
  have r46:c.nb ≤ b42:=by rw [q43]; exact i20.le
  rw [q38] at a36
  have f48:=x47 _ _ f21
  have f49:=x47 _ _ f15
  have a51:=ld_one (M:=Mt) (t:=35) (off:=0 + 0) f48 T.ag35 Seg.refl
  obtain ⟨j52,ej52,hm⟩:=bind_s hm
  obtain ⟨mm53,k54⟩:=f44.h.blk (ck_lt ej52).1
  have a55:=lds_agg (M:=Mt) (t:=54) k54 T.ag54 (by rw [facts_Facts.enc.len]; exact T.sz54) ((seg_sl facts_known.enc.len mm53 (ck_lt ej52).1).sub (facts_known.seg0 (Sl.nth v39 j52)))
  obtain ⟨H56,a57,f58,u59⟩:=st_ok (M:=Mt) (t:=54) (v:=(vAgg (facts_Facts.c ((Sl.nth v39 j52).f_Facts)))) (c:=facts_Facts.c ((Sl.nth v39 j52).f_Facts)) (cs':=facts_Facts.c ((Sl.nth v39 j52).f_Facts)) f49 (by rw [facts_Facts.enc.len]; exact T.sz54) vAgg_cells (facts_Facts.enc.one _) (Nat.le_trans hcn r17) (le0 facts_Facts.enc.len) (wrs_all (eqL facts_Facts.enc.len))
  have i60:=i45.up u59 r17
  have f61:=(u59.get _ (ne_len f5 q16)).trans f48
  have f62:=f44.up u59 (fun _=>(ne_len f15 q43).symm)
  simp only [C.f26r4,R,Nat.reduceEqDiff,s_pt,s_gt,isW,Bool.false_eq_true,if_false,if_true,reduceIte,a35,c_fn F57,a36,fa37_0,a51,ln35,ia108,ej52,fa107_0,a55,a57]
  refine hJ _ ?_
  refine tk_ret okM ?_
  obtain rfl:=Option.some.inj hm
  exact end_flat (.inl rfl) (vs:=[(vAgg (facts_Facts.c ((Sl.nth v39 j52).f_Facts))),(.int .i64 (0))]) (resC' (v:=(vAgg (facts_Facts.c ((Sl.nth v39 j52).f_Facts)))) rfl (ldv_of (ld_agg (M:=Mt) (t:=54) f58 T.ag54 (by rw [facts_Facts.enc.len]; exact T.sz54) Seg.refl)) (resT' (v:=(.int .i64 (0))) rfl resN)) (fm_cons (flat_agg facts_Facts.enc _) (fm_cons rfl fm_nil))
def b_ast_Len (c_ast_formed:T_ast_formed) (c_ast_lens:T_ast_lens) (n:Nat) (x0:(Sl ast_Node)) (x1:Int):Option (Int × Int × Int):=(c_ast_formed x0).bind fun v16=>bif !decide (v16 = 0) then (some (0,0,v16)) else (bif (decide (x1 < 0)) || (decide ((Sl.len x0) ≤ x1)) then (some (0,0,5)) else ((c_ast_lens x0).bind fun v34=>(ck (Sl.l v34.1).length x1).bind fun j53=>(ck (Sl.l v34.2).length x1).bind fun j57=>some (Sl.nth v34.1 j53,Sl.nth v34.2 j57,0)))
theorem w_ast_Len {call:CallF} (hok:CallOk Mt call) {n:Nat} {c_ast_formed:T_ast_formed} (ha_ast_formed:A_ast_formed call c_ast_formed) {c_ast_lens:T_ast_lens} (ha_ast_lens:A_ast_lens call c_ast_lens) {H0:Hp} {x0:(Sl ast_Node)} {b0:Nat} {x1:Int} {r:Int × Int × Int} {ro:Nat} (hro:ro ≤ H0.length) (h0:SlH H0 ast_Node.c 72 x0 b0) (hm:b_ast_Len c_ast_formed c_ast_lens n x0 x1 = some r) :
  Pt Mt ro 34 [(vAgg [slV x0 b0]),(.int .i64 x1)] H0 (.tuple [(.int .i64 (r.1)),(.int .i64 (r.2.1)),(.int .i64 (r.2.2))].toArray) H0 []:=by
 refine pt_new0 okM F34d (by exact Nat.le_of_ble_eq_true rfl) ?_ hro
 intro c hnt hnb hcr
 have hcn:c.ro ≤ c.nb:=by omega
 have l0:x0 ≠ none → b0 < c.nb:=fun h=>by rw [hnb]; exact h0.lt h
 have iv:Iv c.nb [] H0 H0:=by rw [hnb]; exact iv_refl
 rw [show args0 [(vAgg [slV x0 b0]),(.int .i64 x1)] = [(0,(vAgg [slV x0 b0])),(1,(.int .i64 x1))] from rfl]
 rw [b_ast_Len] at hm
 simp only [C.f34]
 refine tk_os okM hok fun J hJ=>?_
 obtain ⟨b2,H3,a4,f5,q6,r7,x8,i9⟩:=bx_ok (M:=Mt) (t:=37) (u:=(vAgg [(slV x0 b0)])) (cs:=[(slV x0 b0)]) H0 iv.le T.sz37 vAgg_cells one_sl
 have i10:=i9 _ _ iv
 simp only [C.f34r0,R,Nat.reduceEqDiff,a4]
 refine hJ _ ?_
 refine tk_seq_k fun K n12 x13=>?_
 refine tk_os okM hok fun J hJ=>?_
 have a14:=ld_agg (M:=Mt) (t:=37) (off:=0) (c:=[(slV x0 b0)]) f5 T.ag37 T.sz37 Seg.refl
 obtain ⟨v16,ev16,hm⟩:=bind_s hm
 have a15:=ha_ast_formed c.ro H3 x0 b0 v16 (h0.iv l0 (fun _=>by simp) i10) ev16
 simp only [C.f34r1,R,Nat.reduceEqDiff,a14,c_fn F64,a15]
 refine hJ _ ?_
 refine tk_os okM hok fun J hJ=>?_
 simp only [C.f34r2,R,Nat.reduceEqDiff]
 refine hJ _ ?_
 refine tk_cond (t:=!decide (v16 = 0)) rfl (fun g17=>?_) (fun g17=>?_)
 ·replace hm:=cond_t hm g17
  refine tk_os okM hok fun J hJ=>?_
  simp only [C.f34r3,R,Nat.reduceEqDiff]
  refine hJ _ ?_
  refine tk_ret okM ?_
  refine x13 _ _ (by simp) ?_
  obtain rfl:=Option.some.inj hm
  exact end_flat (.inl rfl) (vs:=[(.int .i64 (0)),(.int .i64 (0)),(.int .i64 (v16))]) (resT' (v:=(.int .i64 (0))) rfl (resT' (v:=(.int .i64 (0))) rfl (resT' (v:=(.int .i64 (v16))) rfl resN))) (fm_cons rfl (fm_cons rfl (fm_cons rfl fm_nil)))
 ·replace hm:=cond_f hm g17
  refine tk_skip okM ?_
  refine n12 _ ?_
  refine tk_seq_k fun K n18 x19=>?_
  refine tk_os okM hok fun J hJ=>?_
  refine rn_k (fun ⟨σ,H,_⟩=>Lk σ 1 (.int .i64 (x1)) ∧ Lk σ 2 (.pointer (some ⟨b2,0,none⟩)) ∧ Lk σ 23 (.bool ((decide (x1 < 0)) || (decide ((Sl.len x0) ≤ x1)))) ∧ H[b2]? = some (.cells [(slV x0 b0)] 37) ∧ Iv c.nb [] H0 H) (fun J hJ=>?_) ?_
  ·skip
   cases g27:decide (x1 < 0)
   ·skip
    have a28:=ld_one (M:=Mt) (t:=35) (off:=0 + 0) f5 T.ag35 Seg.refl
    simp only [C.f34r4,R,Nat.reduceEqDiff,g27,fa37_0,a28,ln35]
    refine hJ _ ?_
    exact ⟨(by first | rfl | (simp only [g27]; rfl) | simp only [g27,Lk,RB,Nat.reduceEqDiff,not_false_eq_true]),rfl,(by first | rfl | (simp only [g27]; rfl) | simp only [g27,Lk,RB,Nat.reduceEqDiff,not_false_eq_true]),f5,i10⟩
   ·skip
    simp only [C.f34r4,R,Nat.reduceEqDiff,g27]
    refine hJ _ ?_
    exact ⟨(by first | rfl | (simp only [g27]; rfl) | simp only [g27,Lk,RB,Nat.reduceEqDiff,not_false_eq_true]),rfl,(by first | rfl | (simp only [g27]; rfl) | simp only [g27,Lk,RB,Nat.reduceEqDiff,not_false_eq_true]),f5,i10⟩
  rintro ⟨σ29,H21,d30⟩ ⟨h22,h23,h24,f25,i26⟩
  refine hJ _ ?_
  refine tk_cond (t:=(decide (x1 < 0)) || (decide ((Sl.len x0) ≤ x1))) h24 (fun g31=>?_) (fun g31=>?_)
  ·replace hm:=cond_t hm g31
   refine tk_os okM hok fun J hJ=>?_
   simp only [C.f34r5,R,Nat.reduceEqDiff]
   refine hJ _ ?_
   refine tk_ret okM ?_
   refine x19 _ _ (by simp) ?_
   obtain rfl:=Option.some.inj hm
   exact end_flat (.inl rfl) (vs:=[(.int .i64 (0)),(.int .i64 (0)),(.int .i64 (5))]) (resT' (v:=(.int .i64 (0))) rfl (resT' (v:=(.int .i64 (0))) rfl (resT' (v:=(.int .i64 (5))) rfl resN))) (fm_cons rfl (fm_cons rfl (fm_cons rfl fm_nil)))
  ·replace hm:=cond_f hm g31
   refine tk_skip okM ?_
   refine n18 _ ?_
   refine tk_os okM hok fun J hJ=>?_
   have a32:=ld_agg (M:=Mt) (t:=37) (off:=0) (c:=[(slV x0 b0)]) f25 T.ag37 T.sz37 Seg.refl
   obtain ⟨v34,ev34,hm⟩:=bind_s hm
   have a33:=ha_ast_lens c.ro H21 x0 b0 v34 (h0.iv l0 (fun _=>by simp) i26) ev34
   have f47:=slB_own2 (c:=(cInt .i64)) (d:=(cInt .i64)) (e:=3) (e2:=3) (x:=v34.1) (y:=v34.2) (r:=c.nb) (H:=H21) i26.le
   have n48:=slB_ne (c:=(cInt .i64)) (e:=3) (x:=v34.1) (y:=v34.2) (H:=H21)
   obtain ⟨H35,q36⟩:∃ x,x = H21 ++ (slB (cInt .i64) 3 v34.1 ++ slB (cInt .i64) 3 v34.2):=⟨_,rfl⟩
   have x46:Ex H21 H35:=by rw [q36]; exact ex_app
   have i43:Iv c.nb [] H0 H35:=by rw [q36]; exact i26.app
   obtain ⟨b39,q40⟩:∃ b,b = H21.length + (slB (cInt .i64) 3 v34.1).length:=⟨_,rfl⟩
   obtain ⟨b37,q38⟩:∃ b,b = H21.length:=⟨_,rfl⟩
   rw [← q36,← q40] at a33
   rw [← q38] at a33
   rw [← q36,← q40] at f47
   rw [← q38] at f47
   rw [← q40,← q38] at n48
   have r44:c.nb ≤ b37:=by rw [q38]; exact i26.le
   have r45:c.nb ≤ b39:=by rw [q40]; have:=i26.le; omega
   have f49:=x46 _ _ f25
   have n52:b2 ≠ b39:=by have:=get_lt f25; omega
   simp only [C.f34r6,R,Nat.reduceEqDiff,a32,h23,c_fn F65,a33]
   refine hJ _ ?_
   refine tk_os okM hok fun J hJ=>?_
   obtain ⟨j53,ej53,hm⟩:=bind_s hm
   obtain ⟨mm54,k55⟩:=f47.1.h.blk (ck_lt ej53).1
   have a56:=lds_one (M:=Mt) (t:=3) k55 T.ag3 (seg_sl enc_int.len mm54 (ck_lt ej53).1)
   obtain ⟨j57,ej57,hm⟩:=bind_s hm
   obtain ⟨mm58,k59⟩:=f47.2.h.blk (ck_lt ej57).1
   have a60:=lds_one (M:=Mt) (t:=3) k59 T.ag3 (seg_sl enc_int.len mm58 (ck_lt ej57).1)
   simp only [C.f34r7,R,Nat.reduceEqDiff,s_pt,s_gt,isW,Bool.false_eq_true,if_false,if_true,reduceIte,h22,ia100,ej53,a56,ej57,a60]
   refine hJ _ ?_
   refine tk_ret okM ?_
   obtain rfl:=Option.some.inj hm
   exact end_flat (.inl rfl) (vs:=[(.int .i64 (Sl.nth v34.1 j53)),(.int .i64 (Sl.nth v34.2 j57)),(.int .i64 (0))]) (resT' (v:=(.int .i64 (Sl.nth v34.1 j53))) rfl (resT' (v:=(.int .i64 (Sl.nth v34.2 j57))) rfl (resT' (v:=(.int .i64 (0))) rfl resN))) (fm_cons rfl (fm_cons rfl (fm_cons rfl fm_nil)))
def b_class_Set_Has (n:Nat) (x0:class_Set) (x1:Int):Option (Bool):=(quoO .u8 x1 64).bind fun v11=>(ck 4 v11).bind fun j12=>(remO x1 64).bind fun v14=>(shrO .u64 (x0.f_W.nth j12) v14).bind fun v15=>some (decide ((andI .u64 v15 1) = 1))
theorem w_class_Set_Has {call:CallF} (hok:CallOk Mt call) {n:Nat} {H0:Hp} {x0:class_Set} {x1:Int} {r:Bool} {ro:Nat} (hro:ro ≤ H0.length) (hm:b_class_Set_Has n x0 x1 = some r) :
  Pt Mt ro 35 [(vAgg (class_Set.c x0)),(.int .u8 x1)] H0 (.bool (r)) H0 []:=by
 refine pt_new0 okM F35d (by exact Nat.le_of_ble_eq_true rfl) ?_ hro
 intro c hnt hnb hcr
 have hcn:c.ro ≤ c.nb:=by omega
 have iv:Iv c.nb [] H0 H0:=by rw [hnb]; exact iv_refl
 rw [show args0 [(vAgg (class_Set.c x0)),(.int .u8 x1)] = [(0,(vAgg (class_Set.c x0))),(1,(.int .u8 x1))] from rfl]
 rw [b_class_Set_Has] at hm
 simp only [C.f35]
 refine tk_os okM hok fun J hJ=>?_
 obtain ⟨b1,H2,a3,f4,q5,r6,x7,i8⟩:=bx_ok (M:=Mt) (t:=25) (u:=(vAgg (class_Set.c (x0)))) (cs:=class_Set.c x0) H0 iv.le (by rw [class_Set.enc.len]; exact T.sz25) vAgg_cells (class_Set.enc.one _)
 have i9:=i8 _ _ iv
 simp only [C.f35r0,R,Nat.reduceEqDiff,a3]
 refine hJ _ ?_
 refine tk_os okM hok fun J hJ=>?_
 obtain ⟨v11,ev11,hm⟩:=bind_s hm
 obtain ⟨j12,ej12,hm⟩:=bind_s hm
 have a13:=ld_one (M:=Mt) (t:=22) f4 T.ag22 ((Seg.refl.sub (class_Set.seg0 x0)).sub (sgA enc_int.len (a:=x0.f_W) (ck_lt ej12).1))
 obtain ⟨v14,ev14,hm⟩:=bind_s hm
 obtain ⟨v15,ev15,hm⟩:=bind_s hm
 simp only [C.f35r1,R,Nat.reduceEqDiff,ev11,fa25_0,ia23,ej12,a13,ev14,ev15]
 refine hJ _ ?_
 refine tk_ret okM ?_
 obtain rfl:=Option.some.inj hm
 exact end_flat (.inl rfl) (vs:=[(.bool (decide ((andI .u64 v15 1) = 1)))]) (resT' (v:=(.bool (decide ((andI .u64 v15 1) = 1)))) rfl resN) (fm_cons rfl fm_nil)
def b_class_Set_Or_1 (n:Nat):Nat → class_Set → class_Set → class_Set → Int → Option (class_Set)
 | 0,_,_,_,_=>none
 | k + 1,x39,x40,x41,x6_42=>bif decide (x6_42 < 4) then ((ck 4 x6_42).bind fun j64=>b_class_Set_Or_1 n k ({ x39 with f_W:=x39.f_W.put j64 (orI .u64 (x39.f_W.nth j64) (x40.f_W.nth j64)) }) x40 x41 (IntKind.i64.wrap (x6_42 + 1))) else (some x39)
def b_class_Set_Or (n:Nat) (x0:class_Set) (x1:class_Set):Option (class_Set):=b_class_Set_Or_1 n n x0 x1 class_Set.zero 0
theorem w_class_Set_Or {call:CallF} (hok:CallOk Mt call) {n:Nat} {H0:Hp} {x0:class_Set} {x1:class_Set} {r:class_Set} {ro:Nat} (hro:ro ≤ H0.length) (hm:b_class_Set_Or n x0 x1 = some r) :
  Pt Mt ro 38 [(vAgg (class_Set.c x0)),(vAgg (class_Set.c x1))] H0 (vAgg (class_Set.c (r))) H0 []:=by
 refine pt_new0 okM F38d (by exact Nat.le_of_ble_eq_true rfl) ?_ hro
 intro c hnt hnb hcr
 have hcn:c.ro ≤ c.nb:=by omega
 have iv:Iv c.nb [] H0 H0:=by rw [hnb]; exact iv_refl
 rw [show args0 [(vAgg (class_Set.c x0)),(vAgg (class_Set.c x1))] = [(0,(vAgg (class_Set.c x0))),(1,(vAgg (class_Set.c x1)))] from rfl]
 rw [b_class_Set_Or] at hm
 simp only [C.f38,C.f38b0]
 refine tk_os okM hok fun J hJ=>?_
 obtain ⟨b1,H2,a3,f4,q5,r6,x7,i8⟩:=bx_ok (M:=Mt) (t:=25) (u:=(vAgg (class_Set.c (x0)))) (cs:=class_Set.c x0) H0 iv.le (by rw [class_Set.enc.len]; exact T.sz25) vAgg_cells (class_Set.enc.one _)
 have i9:=i8 _ _ iv
 obtain ⟨b11,H12,a13,f14,q15,r16,x17,i18⟩:=bx_ok (M:=Mt) (t:=25) (u:=(vAgg (class_Set.c (x1)))) (cs:=class_Set.c x1) H2 i9.le (by rw [class_Set.enc.len]; exact T.sz25) vAgg_cells (class_Set.enc.one _)
 have i19:=i18 _ _ i9
 have f20:=x17 _ _ f4
 obtain ⟨b22,H23,a24,f25,q26,r27,x28,i29⟩:=al_ok H12 25 (class_Set.c class_Set.zero) i19.le
 have i30:=i29 _ _ i19
 have f31:=x28 _ _ f20
 have f32:=x28 _ _ f14
 simp only [C.f38r0,R,Nat.reduceEqDiff,a3,a13,zs25,a24]
 refine hJ _ ?_
 refine tk_seq_k fun K n34 x35=>?_
 refine tk_os okM hok fun J hJ=>?_
 simp only [C.f38r1,R,Nat.reduceEqDiff]
 refine hJ _ ?_
 refine tk_block_k fun K n36 e37 x38=>?_
 refine tk_loop_k (n:=n) (fun k1 ⟨σ,H,_⟩=>∃ x39 x40 x41 x6_42,b_class_Set_Or_1 n k1 x39 x40 x41 x6_42 = some r ∧ Lk σ 2 (.pointer (some ⟨b1,0,none⟩)) ∧ Lk σ 3 (.pointer (some ⟨b11,0,none⟩)) ∧ Lk σ 4 (.pointer (some ⟨b22,0,none⟩)) ∧ Lk σ 6 (.int .i64 x6_42) ∧ H[b1]? = some (.cells (class_Set.c x39) 25) ∧ H[b11]? = some (.cells (class_Set.c x40) 25) ∧ H[b22]? = some (.cells (class_Set.c x41) 25) ∧ Iv c.nb [] H0 H) ?_ ?_ ?_
 ·exact ⟨x0,x1,class_Set.zero,0,hm,rfl,rfl,rfl,rfl,f31,f32,f25,i30⟩
 ·rintro ⟨σ,H,d⟩ ⟨_,_,_,_,hm,_⟩
  cases hm
 ·intro k1 K n43 x44
  rintro ⟨σ54,H45,d55⟩ ⟨x39,x40,x41,x6_42,hm,h46,h47,h48,h49,f50,f51,f52,i53⟩
  rw [b_class_Set_Or_1.eq_2] at hm
  refine tk_os okM hok fun J hJ=>?_
  simp only [C.f38r2,R,Nat.reduceEqDiff,h49]
  refine hJ _ ?_
  refine tk_seq_k fun K n56 x57=>?_
  refine tk_cond (t:=decide (x6_42 < 4)) rfl (fun g58=>?_) (fun g58=>?_)
  ·replace hm:=cond_t hm g58
   refine tk_skip okM ?_
   refine n56 _ ?_
   refine tk_seq_k fun K n59 x60=>?_
   refine tk_block_k fun K n61 e62 x63=>?_
   refine tk_os okM hok fun J hJ=>?_
   simp only [C.f38r3,R,Nat.reduceEqDiff,h49]
   refine hJ _ ?_
   refine tk_oe okM hok fun J hJ=>?_
   obtain ⟨j64,ej64,hm⟩:=bind_s hm
   have a65:=ld_one (M:=Mt) (t:=22) f50 T.ag22 ((Seg.refl.sub (class_Set.seg0 x39)).sub (sgA enc_int.len (a:=x39.f_W) (ck_lt ej64).1))
   have a66:=ld_one (M:=Mt) (t:=22) f51 T.ag22 ((Seg.refl.sub (class_Set.seg0 x40)).sub (sgA enc_int.len (a:=x40.f_W) (ck_lt ej64).1))
   obtain ⟨H67,a68,f69,u70⟩:=st_ok (M:=Mt) (t:=22) (v:=(.int .u64 (orI .u64 (x39.f_W.nth j64) (x40.f_W.nth j64)))) (c:=(cInt .u64) (orI .u64 (x39.f_W.nth j64) (x40.f_W.nth j64))) (cs':=class_Set.c ({ x39 with f_W:=x39.f_W.put j64 (orI .u64 (x39.f_W.nth j64) (x40.f_W.nth j64)) })) f50 (by rw [enc_int.len]; exact T.sz22) rfl (enc_int.one _) (Nat.le_trans hcn r6) (Nat.le_trans (Nat.le_of_eq (congrArg _ (eqL enc_int.len))) ((Seg.refl.sub (class_Set.seg0 x39)).sub (sgA enc_int.len (a:=x39.f_W) (ck_lt ej64).1)).2) (by rw [wrs_in (Seg.refl.sub (class_Set.seg0 x39)) (by have:=(ck_lt ej64).1; simp only [enc_int.len,(enc_arr (n:=4) enc_int).len]; omega),wrA enc_int.len (a:=x39.f_W) (v:=orI .u64 (x39.f_W.nth j64) (x40.f_W.nth j64)) (ck_lt ej64).1,Nat.zero_add,class_Set.wr0 x39 (x39.f_W.put j64 (orI .u64 (x39.f_W.nth j64) (x40.f_W.nth j64)))])
   have i71:=i53.up u70 r6
   have f72:=(u70.get _ (ne_len f4 q15).symm).trans f51
   have f73:=(u70.get _ (ne_len f20 q26).symm).trans f52
   simp only [C.f38r4,R,Nat.reduceEqDiff,s_pt,s_gt,isW,Bool.false_eq_true,if_false,if_true,reduceIte,fa25_0,h46,ia23,ej64,a65,h47,a66,a68]
   refine hJ _ ?_
   refine n61 _ ?_
   refine n59 _ ?_
   refine tk_oe okM hok fun J hJ=>?_
   simp only [C.f38r5,R,Nat.reduceEqDiff,h49]
   refine hJ _ ?_
   refine n43 _ ?_
   exact ⟨{ x39 with f_W:=x39.f_W.put j64 (orI .u64 (x39.f_W.nth j64) (x40.f_W.nth j64)) },x40,x41,IntKind.i64.wrap (x6_42 + 1),hm,h46,h47,h48,rfl,f69,f72,f73,i71⟩
  ·replace hm:=cond_f hm g58
   refine tk_exit okM ?_
   refine x57 _ _ (by simp) ?_
   refine x44 _ _ (by simp) ?_
   refine e37 _ ?_
   refine n34 _ ?_
   refine tk_os okM hok fun J hJ=>?_
   have a74:=ld_agg (M:=Mt) (t:=25) f50 T.ag25 (by rw [class_Set.enc.len]; exact T.sz25) Seg.refl
   obtain ⟨H75,a76,f77,u78⟩:=st_ok (M:=Mt) (t:=25) (v:=(vAgg (class_Set.c (x39)))) (c:=class_Set.c x39) (cs':=class_Set.c x39) f52 (by rw [class_Set.enc.len]; exact T.sz25) vAgg_cells (class_Set.enc.one _) (Nat.le_trans hcn r27) (le0 class_Set.enc.len) (wrs_all (eqL class_Set.enc.len))
   have i79:=i53.up u78 r27
   have f80:=(u78.get _ (ne_len f20 q26)).trans f50
   have f81:=(u78.get _ (ne_len f14 q26)).trans f51
   simp only [C.f38r6,R,Nat.reduceEqDiff,a74,h46,a76,h48]
   refine hJ _ ?_
   refine tk_ret okM ?_
   obtain rfl:=Option.some.inj hm
   exact end_flat (.inl rfl) (vs:=[(vAgg (class_Set.c (x39)))]) (resC' (v:=(vAgg (class_Set.c (x39)))) h48 (ldv_of (ld_agg (M:=Mt) (t:=25) f77 T.ag25 (by rw [class_Set.enc.len]; exact T.sz25) Seg.refl)) resN) (fm_cons (flat_agg class_Set.enc _) fm_nil)
def b_ast_Right_2 (c_ast_formed:T_ast_formed) (c_ast_lens:T_ast_lens) (c_ast_grouped:T_ast_grouped) (n:Nat) (q1:Sl Int → Sl Int → Int → Int → Option (Int)) (x0:(Sl ast_Node)) (l76:Sl Int) (l78:Sl Int) (x23_80:Int) (x24_81:Int):Option (Int):=q1 l76 l78 x23_80 (IntKind.i64.wrap (x24_81 + 1))
def b_ast_Right_1 (c_ast_formed:T_ast_formed) (c_ast_lens:T_ast_lens) (c_ast_grouped:T_ast_grouped) (n:Nat) (x0:(Sl ast_Node)):Nat → Sl Int → Sl Int → Int → Int → Option (Int)
 | 0,_,_,_,_=>none
 | k + 1,l51,l53,x23_55,x24_56=>bif decide (x24_56 < x23_55) then ((ck (Sl.l x0).length x24_56).bind fun j101=>bif (!decide (((Sl.nth x0 j101).f_Kind) = 15)) && (!decide (((Sl.nth x0 j101).f_Kind) = 16)) then (b_ast_Right_2 c_ast_formed c_ast_lens c_ast_grouped n (b_ast_Right_1 c_ast_formed c_ast_lens c_ast_grouped n x0 k) x0 l51 l53 x23_55 x24_56) else ((ck (Sl.l l51).length ((Sl.nth x0 j101).f_A)).bind fun j146=>(ck (Sl.l l53).length ((Sl.nth x0 j101).f_A)).bind fun j151=>bif (!decide ((Sl.nth l51 j146) = (Sl.nth l53 j151))) || (decide (255 < (Sl.nth l51 j146))) then (some 7) else (b_ast_Right_2 c_ast_formed c_ast_lens c_ast_grouped n (b_ast_Right_1 c_ast_formed c_ast_lens c_ast_grouped n x0 k) x0 l51 l53 x23_55 x24_56))) else (some 0)
def b_ast_Right (c_ast_formed:T_ast_formed) (c_ast_lens:T_ast_lens) (c_ast_grouped:T_ast_grouped) (n:Nat) (x0:(Sl ast_Node)):Option (Int):=(c_ast_formed x0).bind fun v16=>bif !decide (v16 = 0) then (some v16) else ((c_ast_grouped x0).bind fun v22=>bif !v22 then (some 6) else ((c_ast_lens x0).bind fun v26=>b_ast_Right_1 c_ast_formed c_ast_lens c_ast_grouped n x0 n v26.1 v26.2 (Sl.len x0) 0))
theorem w_ast_Right {call:CallF} (hok:CallOk Mt call) {n:Nat} {c_ast_formed:T_ast_formed} (ha_ast_formed:A_ast_formed call c_ast_formed) {c_ast_lens:T_ast_lens} (ha_ast_lens:A_ast_lens call c_ast_lens) {c_ast_grouped:T_ast_grouped} (ha_ast_grouped:A_ast_grouped call c_ast_grouped) {H0:Hp} {x0:(Sl ast_Node)} {b0:Nat} {r:Int} {ro:Nat} (hro:ro ≤ H0.length) (h0:SlH H0 ast_Node.c 72 x0 b0) (hm:b_ast_Right c_ast_formed c_ast_lens c_ast_grouped n x0 = some r) :
  Pt Mt ro 40 [(vAgg [slV x0 b0])] H0 (.int .i64 (r)) H0 []:=by
 refine pt_new0 okM F40d (by exact Nat.le_of_ble_eq_true rfl) ?_ hro
 intro c hnt hnb hcr
 have hcn:c.ro ≤ c.nb:=by omega
 have l0:x0 ≠ none → b0 < c.nb:=fun h=>by rw [hnb]; exact h0.lt h
 have iv:Iv c.nb [] H0 H0:=by rw [hnb]; exact iv_refl
 rw [show args0 [(vAgg [slV x0 b0])] = [(0,(vAgg [slV x0 b0]))] from rfl]
 rw [b_ast_Right] at hm
 simp only [C.f40,C.f40b0]
 refine tk_os okM hok fun J hJ=>?_
 obtain ⟨b2,H3,a4,f5,q6,r7,x8,i9⟩:=bx_ok (M:=Mt) (t:=37) (u:=(vAgg [(slV x0 b0)])) (cs:=[(slV x0 b0)]) H0 iv.le T.sz37 vAgg_cells one_sl
 have i10:=i9 _ _ iv
 simp only [C.f40r0,R,Nat.reduceEqDiff,a4]
 refine hJ _ ?_
 refine tk_seq_k fun K n12 x13=>?_
 refine tk_os okM hok fun J hJ=>?_
 have a14:=ld_agg (M:=Mt) (t:=37) (off:=0) (c:=[(slV x0 b0)]) f5 T.ag37 T.sz37 Seg.refl
 obtain ⟨v16,ev16,hm⟩:=bind_s hm
 have a15:=ha_ast_formed c.ro H3 x0 b0 v16 (h0.iv l0 (fun _=>by simp) i10) ev16
 simp only [C.f40r1,R,Nat.reduceEqDiff,a14,c_fn F64,a15]
 refine hJ _ ?_
 refine tk_os okM hok fun J hJ=>?_
 simp only [C.f40r2,R,Nat.reduceEqDiff]
 refine hJ _ ?_
 refine tk_cond (t:=!decide (v16 = 0)) rfl (fun g17=>?_) (fun g17=>?_)
 ·replace hm:=cond_t hm g17
  refine tk_os okM hok fun J hJ=>?_
  simp only [C.f40r3,R,Nat.reduceEqDiff]
  refine hJ _ ?_
  refine tk_ret okM ?_
  refine x13 _ _ (by simp) ?_
  obtain rfl:=Option.some.inj hm
  exact end_flat (.inl rfl) (vs:=[(.int .i64 (v16))]) (resT' (v:=(.int .i64 (v16))) rfl resN) (fm_cons rfl fm_nil)
 ·replace hm:=cond_f hm g17
  refine tk_skip okM ?_
  refine n12 _ ?_
  refine tk_seq_k fun K n18 x19=>?_
  refine tk_os okM hok fun J hJ=>?_
  have a20:=ld_agg (M:=Mt) (t:=37) (off:=0) (c:=[(slV x0 b0)]) f5 T.ag37 T.sz37 Seg.refl
  obtain ⟨v22,ev22,hm⟩:=bind_s hm
  have a21:=ha_ast_grouped c.ro H3 x0 b0 v22 (h0.iv l0 (fun _=>by simp) i10) ev22
  simp only [C.f40r4,R,Nat.reduceEqDiff,a20,c_fn F68,a21]
  refine hJ _ ?_
  refine tk_cond (t:=!v22) rfl (fun g23=>?_) (fun g23=>?_)
  ·replace hm:=cond_t hm g23
   refine tk_os okM hok fun J hJ=>?_
   simp only [C.f40r5,R,Nat.reduceEqDiff]
   refine hJ _ ?_
   refine tk_ret okM ?_
   refine x19 _ _ (by simp) ?_
   obtain rfl:=Option.some.inj hm
   exact end_flat (.inl rfl) (vs:=[(.int .i64 (6))]) (resT' (v:=(.int .i64 (6))) rfl resN) (fm_cons rfl fm_nil)
  ·replace hm:=cond_f hm g23
   refine tk_skip okM ?_
   refine n18 _ ?_
   refine tk_os okM hok fun J hJ=>?_
   have a24:=ld_agg (M:=Mt) (t:=37) (off:=0) (c:=[(slV x0 b0)]) f5 T.ag37 T.sz37 Seg.refl
   obtain ⟨v26,ev26,hm⟩:=bind_s hm
   have a25:=ha_ast_lens c.ro H3 x0 b0 v26 (h0.iv l0 (fun _=>by simp) i10) ev26
   have f39:=slB_own2 (c:=(cInt .i64)) (d:=(cInt .i64)) (e:=3) (e2:=3) (x:=v26.1) (y:=v26.2) (r:=c.nb) (H:=H3) i10.le
   have n40:=slB_ne (c:=(cInt .i64)) (e:=3) (x:=v26.1) (y:=v26.2) (H:=H3)
   obtain ⟨H27,q28⟩:∃ x,x = H3 ++ (slB (cInt .i64) 3 v26.1 ++ slB (cInt .i64) 3 v26.2):=⟨_,rfl⟩
   have x38:Ex H3 H27:=by rw [q28]; exact ex_app
   have i35:Iv c.nb [] H0 H27:=by rw [q28]; exact i10.app
   obtain ⟨b31,q32⟩:∃ b,b = H3.length + (slB (cInt .i64) 3 v26.1).length:=⟨_,rfl⟩
   obtain ⟨b29,q30⟩:∃ b,b = H3.length:=⟨_,rfl⟩
   rw [← q28,← q32] at a25
   rw [← q30] at a25
   rw [← q28,← q32] at f39
   rw [← q30] at f39
   rw [← q32,← q30] at n40
   have r36:c.nb ≤ b29:=by rw [q30]; exact i10.le
   have r37:c.nb ≤ b31:=by rw [q32]; have:=i10.le; omega
   have f41:=x38 _ _ f5
   have n44:b2 ≠ b31:=by have:=get_lt f5; omega
   simp only [C.f40r6,R,Nat.reduceEqDiff,a24,c_fn F65,a25]
   refine hJ _ ?_
   refine tk_seq_k fun K n45 x46=>?_
   refine tk_os okM hok fun J hJ=>?_
   have a47:=ld_one (M:=Mt) (t:=35) (off:=0 + 0) f41 T.ag35 Seg.refl
   simp only [C.f40r7,R,Nat.reduceEqDiff,fa37_0,a47,ln35]
   refine hJ _ ?_
   refine tk_block_k fun K n48 e49 x50=>?_
   refine tk_loop_k (n:=n) (fun k1 ⟨σ,H,_⟩=>∃ l51 l53 x23_55 x24_56 b52 b54,b_ast_Right_1 c_ast_formed c_ast_lens c_ast_grouped n x0 k1 l51 l53 x23_55 x24_56 = some r ∧ Lk σ 4 (slV l51 b52) ∧ Lk σ 5 (slV l53 b54) ∧ Lk σ 22 (slV x0 b0) ∧ Lk σ 23 (.int .i64 x23_55) ∧ Lk σ 24 (.int .i64 x24_56) ∧ SlO c.nb H (cInt .i64) 3 l51 b52 ∧ SlO c.nb H (cInt .i64) 3 l53 b54 ∧ (l51 ≠ none → l53 ≠ none → b52 ≠ b54) ∧ Iv c.nb [] H0 H) ?_ ?_ ?_
   ·exact ⟨v26.1,v26.2,Sl.len x0,0,b29,b31,hm,rfl,rfl,rfl,rfl,rfl,f39.1,f39.2,n40,i35⟩
   ·rintro ⟨σ,H,d⟩ ⟨_,_,_,_,_,_,hm,_⟩
    cases hm
   ·intro k1 K n57 x58
    rintro ⟨σ71,H59,d72⟩ ⟨l51,l53,x23_55,x24_56,b52,b54,hm,h62,h63,h64,h65,h66,f67,f68,n69,i70⟩
    rw [b_ast_Right_1.eq_2] at hm
    refine tk_os okM hok fun J hJ=>?_
    simp only [C.f40r8,R,Nat.reduceEqDiff,h66,h65]
    refine hJ _ ?_
    refine tk_seq_k fun K n73 x74=>?_
    refine tk_cond (t:=decide (x24_56 < x23_55)) rfl (fun g75=>?_) (fun g75=>?_)
    ·replace hm:=cond_t hm g75
     refine tk_skip okM ?_
     refine n73 _ ?_
     refine tk_seq_j (fun ⟨σ,H,_⟩=>∃ l76 l78 x23_80 x24_81 b77 b79,b_ast_Right_2 c_ast_formed c_ast_lens c_ast_grouped n (b_ast_Right_1 c_ast_formed c_ast_lens c_ast_grouped n x0 k1) x0 l76 l78 x23_80 x24_81 = some r ∧ Lk σ 4 (slV l76 b77) ∧ Lk σ 5 (slV l78 b79) ∧ Lk σ 22 (slV x0 b0) ∧ Lk σ 23 (.int .i64 x23_80) ∧ Lk σ 24 (.int .i64 x24_81) ∧ SlO c.nb H (cInt .i64) 3 l76 b77 ∧ SlO c.nb H (cInt .i64) 3 l78 b79 ∧ (l76 ≠ none → l78 ≠ none → b77 ≠ b79) ∧ Iv c.nb [] H0 H) ?_ ?_
     ·skip
      rintro ⟨σ94,H82,d95⟩ ⟨l76,l78,x23_80,x24_81,b77,b79,hm,h85,h86,h87,h88,h89,f90,f91,n92,i93⟩
      rw [b_ast_Right_2] at hm
      refine tk_oe okM hok fun J hJ=>?_
      simp only [C.f40r13,R,Nat.reduceEqDiff,h89]
      refine hJ _ ?_
      refine n57 _ ?_
      exact ⟨l76,l78,x23_80,IntKind.i64.wrap (x24_81 + 1),b77,b79,hm,h85,h86,h87,h88,rfl,f90,f91,n92,i93⟩
     ·refine fun K n96 x97=>?_
      refine tk_block_k fun K n98 e99 x100=>?_
      refine tk_os okM hok fun J hJ=>?_
      obtain ⟨j101,ej101,hm⟩:=bind_s hm
      obtain ⟨mm102,k103⟩:=(h0.iv l0 (fun _=>by simp) i70).blk (ck_lt ej101).1
      have a104:=lds_agg (M:=Mt) (t:=72) k103 T.ag72 (by rw [ast_Node.enc.len]; exact T.sz72) (seg_sl ast_Node.enc.len mm102 (ck_lt ej101).1)
      obtain ⟨b105,H106,a107,f108,q109,r110,x111,i112⟩:=al_ok H59 72 (ast_Node.c ast_Node.zero) i70.le
      have i113:=i112 _ _ i70
      have f114:=f67.ex x111
      have f115:=f68.ex x111
      obtain ⟨H117,a118,f119,u120⟩:=st_ok (M:=Mt) (t:=72) (v:=(vAgg (ast_Node.c (Sl.nth x0 j101)))) (c:=ast_Node.c (Sl.nth x0 j101)) (cs':=ast_Node.c (Sl.nth x0 j101)) f108 (by rw [ast_Node.enc.len]; exact T.sz72) vAgg_cells (ast_Node.enc.one _) (Nat.le_trans hcn r110) (le0 ast_Node.enc.len) (wrs_all (eqL ast_Node.enc.len))
      have i121:=i113.up u120 r110
      have f122:=f114.up u120 (f67.h.ne q109)
      have f123:=f115.up u120 (f68.h.ne q109)
      simp only [C.f40r9,R,Nat.reduceEqDiff,ia35,ej101,h64,h66,a104,zs72,a107,a118]
      refine hJ _ ?_
      refine tk_seq_k fun K n124 x125=>?_
      refine tk_os okM hok fun J hJ=>?_
      have a126:=ld_one (M:=Mt) (t:=3) f119 T.ag3 (Seg.refl.sub (ast_Node.seg0 (Sl.nth x0 j101)))
      refine rn_k (fun ⟨σ,H,_⟩=>Lk σ 4 (slV l51 b52) ∧ Lk σ 5 (slV l53 b54) ∧ Lk σ 7 (.pointer (some ⟨b105,0,none⟩)) ∧ Lk σ 22 (slV x0 b0) ∧ Lk σ 23 (.int .i64 (x23_55)) ∧ Lk σ 24 (.int .i64 (x24_56)) ∧ Lk σ 35 (.bool ((!decide (((Sl.nth x0 j101).f_Kind) = 15)) && (!decide (((Sl.nth x0 j101).f_Kind) = 16)))) ∧ SlO c.nb H (cInt .i64) 3 l51 b52 ∧ SlO c.nb H (cInt .i64) 3 l53 b54 ∧ H[b105]? = some (.cells (ast_Node.c (Sl.nth x0 j101)) 72) ∧ Iv c.nb [] H0 H) (fun J hJ=>?_) ?_
      ·skip
       cases g140:!decide (((Sl.nth x0 j101).f_Kind) = 15)
       ·skip
        simp only [C.f40r10,R,Nat.reduceEqDiff,fa72_0,a126,g140]
        refine hJ _ ?_
        exact ⟨h62,h63,rfl,h64,h65,h66,(by first | rfl | (simp only [g140]; rfl) | simp only [g140,Lk,RB,Nat.reduceEqDiff,not_false_eq_true]),f122,f123,f119,i121⟩
       ·skip
        have a141:=ld_one (M:=Mt) (t:=3) f119 T.ag3 (Seg.refl.sub (ast_Node.seg0 (Sl.nth x0 j101)))
        simp only [C.f40r10,R,Nat.reduceEqDiff,fa72_0,a126,g140,a141]
        refine hJ _ ?_
        exact ⟨h62,h63,rfl,h64,h65,h66,(by first | rfl | (simp only [g140]; rfl) | simp only [g140,Lk,RB,Nat.reduceEqDiff,not_false_eq_true]),f122,f123,f119,i121⟩
      rintro ⟨σ142,H128,d143⟩ ⟨h129,h130,h131,h132,h133,h134,h135,f136,f137,f138,i139⟩
      refine hJ _ ?_
      refine tk_cond (t:=(!decide (((Sl.nth x0 j101).f_Kind) = 15)) && (!decide (((Sl.nth x0 j101).f_Kind) = 16))) h135 (fun g144=>?_) (fun g144=>?_)
      ·replace hm:=cond_t hm g144
       refine tk_exit okM ?_
       refine x125 _ _ (by simp) ?_
       refine e99 _ ?_
       refine n96 _ ?_
       exact ⟨l51,l53,x23_55,x24_56,b52,b54,hm,h129,h130,h132,h133,h134,f136,f137,n69,i139⟩
      ·replace hm:=cond_f hm g144
       refine tk_skip okM ?_
       refine n124 _ ?_
       refine tk_os okM hok fun J hJ=>?_
       have a145:=ld_one (M:=Mt) (t:=3) f138 T.ag3 (Seg.refl.sub (ast_Node.seg1 (Sl.nth x0 j101)))
       obtain ⟨j146,ej146,hm⟩:=bind_s hm
       obtain ⟨mm147,k148⟩:=f136.h.blk (ck_lt ej146).1
       have a149:=lds_one (M:=Mt) (t:=3) k148 T.ag3 (seg_sl enc_int.len mm147 (ck_lt ej146).1)
       have a150:=ld_one (M:=Mt) (t:=3) f138 T.ag3 (Seg.refl.sub (ast_Node.seg1 (Sl.nth x0 j101)))
       obtain ⟨j151,ej151,hm⟩:=bind_s hm
       obtain ⟨mm152,k153⟩:=f137.h.blk (ck_lt ej151).1
       have a154:=lds_one (M:=Mt) (t:=3) k153 T.ag3 (seg_sl enc_int.len mm152 (ck_lt ej151).1)
       refine rn_k (fun ⟨σ,H,_⟩=>Lk σ 4 (slV l51 b52) ∧ Lk σ 5 (slV l53 b54) ∧ Lk σ 22 (slV x0 b0) ∧ Lk σ 23 (.int .i64 (x23_55)) ∧ Lk σ 24 (.int .i64 (x24_56)) ∧ Lk σ 54 (.bool ((!decide ((Sl.nth l51 j146) = (Sl.nth l53 j151))) || (decide (255 < (Sl.nth l51 j146))))) ∧ SlO c.nb H (cInt .i64) 3 l51 b52 ∧ SlO c.nb H (cInt .i64) 3 l53 b54 ∧ Iv c.nb [] H0 H) (fun J hJ=>?_) ?_
       ·skip
        cases g169:!decide ((Sl.nth l51 j146) = (Sl.nth l53 j151))
        ·skip
         have a170:=ld_one (M:=Mt) (t:=3) f138 T.ag3 (Seg.refl.sub (ast_Node.seg1 (Sl.nth x0 j101)))
         obtain ⟨mm171,k172⟩:=f136.h.blk (ck_lt ej146).1
         have a173:=lds_one (M:=Mt) (t:=3) k172 T.ag3 (seg_sl enc_int.len mm171 (ck_lt ej146).1)
         simp only [C.f40r11,R,Nat.reduceEqDiff,s_pt,s_gt,isW,Bool.false_eq_true,if_false,if_true,reduceIte,h129,fa72_1,h131,a145,ia100,ej146,a149,h130,a150,ej151,a154,g169,a170,a173]
         refine hJ _ ?_
         exact ⟨h129,h130,h132,h133,h134,(by first | rfl | (simp only [g169]; rfl) | simp only [g169,Lk,RB,Nat.reduceEqDiff,not_false_eq_true]),f136,f137,i139⟩
        ·skip
         simp only [C.f40r11,R,Nat.reduceEqDiff,s_pt,s_gt,isW,Bool.false_eq_true,if_false,if_true,reduceIte,h129,fa72_1,h131,a145,ia100,ej146,a149,h130,a150,ej151,a154,g169]
         refine hJ _ ?_
         exact ⟨h129,h130,h132,h133,h134,(by first | rfl | (simp only [g169]; rfl) | simp only [g169,Lk,RB,Nat.reduceEqDiff,not_false_eq_true]),f136,f137,i139⟩
       rintro ⟨σ174,H159,d175⟩ ⟨h160,h161,h162,h163,h164,h165,f166,f167,i168⟩
       refine hJ _ ?_
       refine tk_cond (t:=(!decide ((Sl.nth l51 j146) = (Sl.nth l53 j151))) || (decide (255 < (Sl.nth l51 j146)))) h165 (fun g176=>?_) (fun g176=>?_)
       ·replace hm:=cond_t hm g176
        refine tk_os okM hok fun J hJ=>?_
        simp only [C.f40r12,R,Nat.reduceEqDiff]
        refine hJ _ ?_
        refine tk_ret okM ?_
        refine x100 _ _ (by simp) (by simp) ?_
        refine x97 _ _ (by simp) ?_
        refine x58 _ _ (by simp) ?_
        refine x50 _ _ (by simp) (by simp) ?_
        refine x46 _ _ (by simp) ?_
        obtain rfl:=Option.some.inj hm
        exact end_flat (.inl rfl) (vs:=[(.int .i64 (7))]) (resT' (v:=(.int .i64 (7))) rfl resN) (fm_cons rfl fm_nil)
       ·replace hm:=cond_f hm g176
        refine tk_skip okM ?_
        refine n98 _ ?_
        refine n96 _ ?_
        exact ⟨l51,l53,x23_55,x24_56,b52,b54,hm,h160,h161,h162,h163,h164,f166,f167,n69,i168⟩
    ·replace hm:=cond_f hm g75
     refine tk_exit okM ?_
     refine x74 _ _ (by simp) ?_
     refine x58 _ _ (by simp) ?_
     refine e49 _ ?_
     refine n45 _ ?_
     refine tk_os okM hok fun J hJ=>?_
     simp only [C.f40r14,R,Nat.reduceEqDiff]
     refine hJ _ ?_
     refine tk_ret okM ?_
     obtain rfl:=Option.some.inj hm
     exact end_flat (.inl rfl) (vs:=[(.int .i64 (0))]) (resT' (v:=(.int .i64 (0))) rfl resN) (fm_cons rfl fm_nil)
def b_class_Set_Len_1 (c_bits_OnesCount64:T_bits_OnesCount64) (n:Nat):Nat → Int → (Arr Int 4) → Int → Option (Int)
 | 0,_,_,_=>none
 | k + 1,x3_17,x7_18,x8_19=>bif decide (x8_19 < 4) then ((ck 4 x8_19).bind fun j37=>(c_bits_OnesCount64 (x7_18.nth j37)).bind fun v39=>b_class_Set_Len_1 c_bits_OnesCount64 n k (IntKind.i64.wrap (x3_17 + v39)) x7_18 (IntKind.i64.wrap (x8_19 + 1))) else (some x3_17)
def b_class_Set_Len (c_bits_OnesCount64:T_bits_OnesCount64) (n:Nat) (x0:class_Set):Option (Int):=b_class_Set_Len_1 c_bits_OnesCount64 n n 0 x0.f_W 0
theorem w_class_Set_Len {call:CallF} (hok:CallOk Mt call) {n:Nat} {c_bits_OnesCount64:T_bits_OnesCount64} (ha_bits_OnesCount64:A_bits_OnesCount64 call c_bits_OnesCount64) {H0:Hp} {x0:class_Set} {r:Int} {ro:Nat} (hro:ro ≤ H0.length) (hm:b_class_Set_Len c_bits_OnesCount64 n x0 = some r) :
  Pt Mt ro 44 [(vAgg (class_Set.c x0))] H0 (.int .i64 (r)) H0 []:=by
 refine pt_new0 okM F44d (by exact Nat.le_of_ble_eq_true rfl) ?_ hro
 intro c hnt hnb hcr
 have hcn:c.ro ≤ c.nb:=by omega
 have iv:Iv c.nb [] H0 H0:=by rw [hnb]; exact iv_refl
 rw [show args0 [(vAgg (class_Set.c x0))] = [(0,(vAgg (class_Set.c x0)))] from rfl]
 rw [b_class_Set_Len] at hm
 simp only [C.f44,C.f44b0]
 refine tk_os okM hok fun J hJ=>?_
 obtain ⟨b1,H2,a3,f4,q5,r6,x7,i8⟩:=bx_ok (M:=Mt) (t:=25) (u:=(vAgg (class_Set.c (x0)))) (cs:=class_Set.c x0) H0 iv.le (by rw [class_Set.enc.len]; exact T.sz25) vAgg_cells (class_Set.enc.one _)
 have i9:=i8 _ _ iv
 simp only [C.f44r0,R,Nat.reduceEqDiff,a3]
 refine hJ _ ?_
 refine tk_os okM hok fun J hJ=>?_
 simp only [C.f44r1,R,Nat.reduceEqDiff]
 refine hJ _ ?_
 refine tk_seq_k fun K n11 x12=>?_
 refine tk_os okM hok fun J hJ=>?_
 have a13:=ld_agg (M:=Mt) (t:=23) f4 T.ag23 (by rw [(enc_arr (n:=4) enc_int).len]; exact T.sz23) (Seg.refl.sub (class_Set.seg0 x0))
 simp only [C.f44r2,R,Nat.reduceEqDiff,fa25_0,a13]
 refine hJ _ ?_
 refine tk_block_k fun K n14 e15 x16=>?_
 refine tk_loop_k (n:=n) (fun k1 ⟨σ,H,_⟩=>∃ x3_17 x7_18 x8_19,b_class_Set_Len_1 c_bits_OnesCount64 n k1 x3_17 x7_18 x8_19 = some r ∧ Lk σ 3 (.int .i64 x3_17) ∧ Lk σ 7 (vAgg ((cArr (n:=4) (cInt .u64)) x7_18)) ∧ Lk σ 8 (.int .i64 x8_19) ∧ Iv c.nb [] H0 H) ?_ ?_ ?_
 ·exact ⟨0,x0.f_W,0,hm,rfl,rfl,rfl,i9⟩
 ·rintro ⟨σ,H,d⟩ ⟨_,_,_,hm,_⟩
  cases hm
 ·intro k1 K n20 x21
  rintro ⟨σ27,H22,d28⟩ ⟨x3_17,x7_18,x8_19,hm,h23,h24,h25,i26⟩
  rw [b_class_Set_Len_1.eq_2] at hm
  refine tk_os okM hok fun J hJ=>?_
  simp only [C.f44r3,R,Nat.reduceEqDiff,h25]
  refine hJ _ ?_
  refine tk_seq_k fun K n29 x30=>?_
  refine tk_cond (t:=decide (x8_19 < 4)) rfl (fun g31=>?_) (fun g31=>?_)
  ·replace hm:=cond_t hm g31
   refine tk_skip okM ?_
   refine n29 _ ?_
   refine tk_seq_k fun K n32 x33=>?_
   refine tk_block_k fun K n34 e35 x36=>?_
   refine tk_os okM hok fun J hJ=>?_
   obtain ⟨j37,ej37,hm⟩:=bind_s hm
   simp only [C.f44r4,R,Nat.reduceEqDiff,ix23,ej37,h24,h25]
   refine hJ _ ?_
   refine tk_oe okM hok fun J hJ=>?_
   obtain ⟨v39,ev39,hm⟩:=bind_s hm
   have a38:=ha_bits_OnesCount64 c.ro H22 (x7_18.nth j37) v39 ev39
   simp only [C.f44r5,R,Nat.reduceEqDiff,h23,c_fn F72,a38]
   refine hJ _ ?_
   refine n34 _ ?_
   refine n32 _ ?_
   refine tk_oe okM hok fun J hJ=>?_
   simp only [C.f44r6,R,Nat.reduceEqDiff,h25]
   refine hJ _ ?_
   refine n20 _ ?_
   exact ⟨IntKind.i64.wrap (x3_17 + v39),x7_18,IntKind.i64.wrap (x8_19 + 1),hm,rfl,h24,rfl,i26⟩
  ·replace hm:=cond_f hm g31
   refine tk_exit okM ?_
   refine x30 _ _ (by simp) ?_
   refine x21 _ _ (by simp) ?_
   refine e15 _ ?_
   refine n11 _ ?_
   refine tk_os okM hok fun J hJ=>?_
   simp only [C.f44r7,R,Nat.reduceEqDiff,h23]
   refine hJ _ ?_
   refine tk_ret okM ?_
   obtain rfl:=Option.some.inj hm
   exact end_flat (.inl rfl) (vs:=[(.int .i64 (x3_17))]) (resT' (v:=(.int .i64 (x3_17))) rfl resN) (fm_cons rfl fm_nil)
def b_facts_all_2 (c_facts_bytes:T_facts_bytes) (c_facts_nothing:T_facts_nothing) (c_class_All:T_class_All) (c_facts_cat:T_facts_cat) (c_facts_alt:T_facts_alt) (c_facts_repeat:T_facts_repeat) (n:Nat) (q1:Sl facts_known → Int → Int → Option ((Sl facts_known))) (x0:(Sl ast_Node)) (l50:Sl facts_known) (x12_52:Int) (x13_53:Int):Option ((Sl facts_known)):=q1 l50 x12_52 (IntKind.i64.wrap (x13_53 + 1))
def b_facts_all_3 (c_facts_bytes:T_facts_bytes) (c_facts_nothing:T_facts_nothing) (c_class_All:T_class_All) (c_facts_cat:T_facts_cat) (c_facts_alt:T_facts_alt) (c_facts_repeat:T_facts_repeat) (n:Nat) (q1:Sl facts_known → Int → Int → Option ((Sl facts_known))) (x0:(Sl ast_Node)) (l193:Sl facts_known) (x4_195:Int) (x196:ast_Node) (x12_197:Int) (x13_198:Int) (x95_199:Bool):Option ((Sl facts_known)):=bif x95_199 then ((ck (Sl.l l193).length x196.f_A).bind fun j217=>(ck (Sl.l l193).length x4_195).bind fun j221=>b_facts_all_2 c_facts_bytes c_facts_nothing c_class_All c_facts_cat c_facts_alt c_facts_repeat n q1 x0 (Sl.put l193 j221 (Sl.nth l193 j217)) x12_197 x13_198) else ((c_facts_nothing).bind fun v230=>(ck (Sl.l l193).length x4_195).bind fun j231=>b_facts_all_2 c_facts_bytes c_facts_nothing c_class_All c_facts_cat c_facts_alt c_facts_repeat n q1 x0 (Sl.put l193 j231 v230) x12_197 x13_198)
def b_facts_all_1 (c_facts_bytes:T_facts_bytes) (c_facts_nothing:T_facts_nothing) (c_class_All:T_class_All) (c_facts_cat:T_facts_cat) (c_facts_alt:T_facts_alt) (c_facts_repeat:T_facts_repeat) (n:Nat) (x0:(Sl ast_Node)):Nat → Sl facts_known → Int → Int → Option ((Sl facts_known))
 | 0,_,_,_=>none
 | k + 1,l31,x12_33,x13_34=>bif decide (x13_34 < x12_33) then ((ck (Sl.l x0).length x13_34).bind fun j69=>bif decide (((Sl.nth x0 j69).f_Kind) = 1) then ((c_facts_bytes ((Sl.nth x0 j69).f_Set)).bind fun v97=>(ck (Sl.l l31).length x13_34).bind fun j98=>b_facts_all_2 c_facts_bytes c_facts_nothing c_class_All c_facts_cat c_facts_alt c_facts_repeat n (b_facts_all_1 c_facts_bytes c_facts_nothing c_class_All c_facts_cat c_facts_alt c_facts_repeat n x0 k) x0 (Sl.put l31 j98 v97) x12_33 x13_34) else (bif decide (((Sl.nth x0 j69).f_Kind) = 2) then ((c_facts_nothing).bind fun v108=>(ck (Sl.l l31).length x13_34).bind fun j109=>b_facts_all_2 c_facts_bytes c_facts_nothing c_class_All c_facts_cat c_facts_alt c_facts_repeat n (b_facts_all_1 c_facts_bytes c_facts_nothing c_class_All c_facts_cat c_facts_alt c_facts_repeat n x0 k) x0 (Sl.put (Sl.put l31 j109 v108) j109 (facts_known.w0 (Sl.nth (Sl.put l31 j109 v108) j109) (facts_Facts.w2 ((Sl.nth (Sl.put l31 j109 v108) j109).f_Facts) true))) x12_33 x13_34) else (bif decide (((Sl.nth x0 j69).f_Kind) = 12) then ((c_class_All).bind fun v125=>(ck (Sl.l l31).length x13_34).bind fun j126=>b_facts_all_2 c_facts_bytes c_facts_nothing c_class_All c_facts_cat c_facts_alt c_facts_repeat n (b_facts_all_1 c_facts_bytes c_facts_nothing c_class_All c_facts_cat c_facts_alt c_facts_repeat n x0 k) x0 (Sl.put l31 j126 (({ facts_known.zero with f_Facts:=({ facts_Facts.zero with f_First:=v125,f_Open:=true }:facts_Facts) }:facts_known))) x12_33 x13_34) else (bif decide (((Sl.nth x0 j69).f_Kind) = 8) then ((ck (Sl.l l31).length ((Sl.nth x0 j69).f_A)).bind fun j136=>(ck (Sl.l l31).length ((Sl.nth x0 j69).f_B)).bind fun j141=>(c_facts_cat (Sl.nth l31 j136) (Sl.nth l31 j141)).bind fun v146=>(ck (Sl.l l31).length x13_34).bind fun j147=>b_facts_all_2 c_facts_bytes c_facts_nothing c_class_All c_facts_cat c_facts_alt c_facts_repeat n (b_facts_all_1 c_facts_bytes c_facts_nothing c_class_All c_facts_cat c_facts_alt c_facts_repeat n x0 k) x0 (Sl.put l31 j147 v146) x12_33 x13_34) else (bif decide (((Sl.nth x0 j69).f_Kind) = 9) then ((ck (Sl.l l31).length ((Sl.nth x0 j69).f_A)).bind fun j157=>(ck (Sl.l l31).length ((Sl.nth x0 j69).f_B)).bind fun j162=>(c_facts_alt (Sl.nth l31 j157) (Sl.nth l31 j162)).bind fun v167=>(ck (Sl.l l31).length x13_34).bind fun j168=>b_facts_all_2 c_facts_bytes c_facts_nothing c_class_All c_facts_cat c_facts_alt c_facts_repeat n (b_facts_all_1 c_facts_bytes c_facts_nothing c_class_All c_facts_cat c_facts_alt c_facts_repeat n x0 k) x0 (Sl.put l31 j168 v167) x12_33 x13_34) else (bif decide (((Sl.nth x0 j69).f_Kind) = 10) then ((ck (Sl.l l31).length ((Sl.nth x0 j69).f_A)).bind fun j179=>(c_facts_repeat (Sl.nth x0 j69) (Sl.nth l31 j179)).bind fun v184=>(ck (Sl.l l31).length x13_34).bind fun j185=>b_facts_all_2 c_facts_bytes c_facts_nothing c_class_All c_facts_cat c_facts_alt c_facts_repeat n (b_facts_all_1 c_facts_bytes c_facts_nothing c_class_All c_facts_cat c_facts_alt c_facts_repeat n x0 k) x0 (Sl.put l31 j185 v184) x12_33 x13_34) else (bif decide (((Sl.nth x0 j69).f_Kind) = 11) then (b_facts_all_3 c_facts_bytes c_facts_nothing c_class_All c_facts_cat c_facts_alt c_facts_repeat n (b_facts_all_1 c_facts_bytes c_facts_nothing c_class_All c_facts_cat c_facts_alt c_facts_repeat n x0 k) x0 l31 x13_34 (Sl.nth x0 j69) x12_33 x13_34 (decide (((Sl.nth x0 j69).f_Kind) = 11))) else (b_facts_all_3 c_facts_bytes c_facts_nothing c_class_All c_facts_cat c_facts_alt c_facts_repeat n (b_facts_all_1 c_facts_bytes c_facts_nothing c_class_All c_facts_cat c_facts_alt c_facts_repeat n x0 k) x0 l31 x13_34 (Sl.nth x0 j69) x12_33 x13_34 (decide (((Sl.nth x0 j69).f_Kind) = 17)))))))))) else (some l31)
def b_facts_all (c_facts_bytes:T_facts_bytes) (c_facts_nothing:T_facts_nothing) (c_class_All:T_class_All) (c_facts_cat:T_facts_cat) (c_facts_alt:T_facts_alt) (c_facts_repeat:T_facts_repeat) (n:Nat) (x0:(Sl ast_Node)):Option ((Sl facts_known)):=(Sl.make 64 (Sl.len x0) (Sl.len x0) (facts_known.zero:facts_known)).bind fun l13=>b_facts_all_1 c_facts_bytes c_facts_nothing c_class_All c_facts_cat c_facts_alt c_facts_repeat n x0 n l13 (Sl.len x0) 0
theorem w_facts_all {call:CallF} (hok:CallOk Mt call) {n:Nat} {c_facts_bytes:T_facts_bytes} (ha_facts_bytes:A_facts_bytes call c_facts_bytes) {c_facts_nothing:T_facts_nothing} (ha_facts_nothing:A_facts_nothing call c_facts_nothing) {c_class_All:T_class_All} (ha_class_All:A_class_All call c_class_All) {c_facts_cat:T_facts_cat} (ha_facts_cat:A_facts_cat call c_facts_cat) {c_facts_alt:T_facts_alt} (ha_facts_alt:A_facts_alt call c_facts_alt) {c_facts_repeat:T_facts_repeat} (ha_facts_repeat:A_facts_repeat call c_facts_repeat) {H0:Hp} {x0:(Sl ast_Node)} {b0:Nat} {r:(Sl facts_known)} {ro:Nat} (hro:ro ≤ H0.length) (h0:SlH H0 ast_Node.c 72 x0 b0) (hm:b_facts_all c_facts_bytes c_facts_nothing c_class_All c_facts_cat c_facts_alt c_facts_repeat n x0 = some r) (hG1:TabH1 H0) :
  Pt Mt ro 57 [(vAgg [slV x0 b0])] H0 (slV r H0.length) (H0 ++ slB facts_known.c 107 r) []:=by
 refine pt_new okM F57d (by exact Nat.le_of_ble_eq_true rfl) ?_ hro
 intro c hnt hnb hcr
 have hcn:c.ro ≤ c.nb:=by omega
 have l0:x0 ≠ none → b0 < c.nb:=fun h=>by rw [hnb]; exact h0.lt h
 have iv:Iv c.nb [] H0 H0:=by rw [hnb]; exact iv_refl
 rw [show args0 [(vAgg [slV x0 b0])] = [(0,(vAgg [slV x0 b0]))] from rfl]
 rw [b_facts_all] at hm
 simp only [C.f57,C.f57b0]
 refine tk_os okM hok fun J hJ=>?_
 obtain ⟨b2,H3,a4,f5,q6,r7,x8,i9⟩:=bx_ok (M:=Mt) (t:=37) (u:=(vAgg [(slV x0 b0)])) (cs:=[(slV x0 b0)]) H0 iv.le T.sz37 vAgg_cells one_sl
 have i10:=i9 _ _ iv
 simp only [C.f57r0,R,Nat.reduceEqDiff,a4]
 refine hJ _ ?_
 refine tk_os okM hok fun J hJ=>?_
 have a12:=ld_one (M:=Mt) (t:=35) (off:=0 + 0) f5 T.ag35 Seg.refl
 obtain ⟨l13,el13,hm⟩:=bind_s hm
 obtain ⟨b14,H15,a16,f17,q18,r19,x20,i21⟩:=mk_ok (M:=Mt) (t:=108) (e:=107) (k:=.i64) (k':=.i64) H3 i10.le Tryz.underlying108 T.by107 zs107 el13
 have i22:=i21 _ _ i10
 have f23:=x20 _ _ f5
 simp only [C.f57r1,R,Nat.reduceEqDiff,fa37_0,a12,ln35,o_makeSlice,a16]
 refine hJ _ ?_
 refine tk_seq_k fun K n25 x26=>?_
 refine tk_os okM hok fun J hJ=>?_
 have a27:=ld_one (M:=Mt) (t:=35) (off:=0 + 0) f23 T.ag35 Seg.refl
 simp only [C.f57r2,R,Nat.reduceEqDiff,fa37_0,a27,ln35]
 refine hJ _ ?_
 refine tk_block_k fun K n28 e29 x30=>?_
 refine tk_loop_k (n:=n) (fun k1 ⟨σ,H,_⟩=>∃ l31 x12_33 x13_34 b32,b_facts_all_1 c_facts_bytes c_facts_nothing c_class_All c_facts_cat c_facts_alt c_facts_repeat n x0 k1 l31 x12_33 x13_34 = some r ∧ Lk σ 3 (slV l31 b32) ∧ Lk σ 11 (slV x0 b0) ∧ Lk σ 12 (.int .i64 x12_33) ∧ Lk σ 13 (.int .i64 x13_34) ∧ SlO c.nb H facts_known.c 107 l31 b32 ∧ Iv c.nb [] H0 H) ?_ ?_ ?_
 ·exact ⟨l13,Sl.len x0,0,b14,hm,rfl,rfl,rfl,rfl,f17,i22⟩
 ·rintro ⟨σ,H,d⟩ ⟨_,_,_,_,hm,_⟩
  cases hm
 ·intro k1 K n35 x36
  rintro ⟨σ45,H37,d46⟩ ⟨l31,x12_33,x13_34,b32,hm,h39,h40,h41,h42,f43,i44⟩
  rw [b_facts_all_1.eq_2] at hm
  refine tk_os okM hok fun J hJ=>?_
  simp only [C.f57r3,R,Nat.reduceEqDiff,h42,h41]
  refine hJ _ ?_
  refine tk_seq_k fun K n47 x48=>?_
  refine tk_cond (t:=decide (x13_34 < x12_33)) rfl (fun g49=>?_) (fun g49=>?_)
  ·replace hm:=cond_t hm g49
   refine tk_skip okM ?_
   refine n47 _ ?_
   refine tk_seq_j (fun ⟨σ,H,_⟩=>∃ l50 x12_52 x13_53 b51,b_facts_all_2 c_facts_bytes c_facts_nothing c_class_All c_facts_cat c_facts_alt c_facts_repeat n (b_facts_all_1 c_facts_bytes c_facts_nothing c_class_All c_facts_cat c_facts_alt c_facts_repeat n x0 k1) x0 l50 x12_52 x13_53 = some r ∧ Lk σ 3 (slV l50 b51) ∧ Lk σ 11 (slV x0 b0) ∧ Lk σ 12 (.int .i64 x12_52) ∧ Lk σ 13 (.int .i64 x13_53) ∧ SlO c.nb H facts_known.c 107 l50 b51 ∧ Iv c.nb [] H0 H) ?_ ?_
   ·skip
    rintro ⟨σ62,H54,d63⟩ ⟨l50,x12_52,x13_53,b51,hm,h56,h57,h58,h59,f60,i61⟩
    rw [b_facts_all_2] at hm
    refine tk_oe okM hok fun J hJ=>?_
    simp only [C.f57r23,R,Nat.reduceEqDiff,h59]
    refine hJ _ ?_
    refine n35 _ ?_
    exact ⟨l50,x12_52,IntKind.i64.wrap (x13_53 + 1),b51,hm,h56,h57,h58,rfl,f60,i61⟩
   ·refine fun K n64 x65=>?_
    refine tk_block_k fun K n66 e67 x68=>?_
    refine tk_os okM hok fun J hJ=>?_
    obtain ⟨j69,ej69,hm⟩:=bind_s hm
    obtain ⟨mm70,k71⟩:=(h0.iv l0 (fun _=>by simp) i44).blk (ck_lt ej69).1
    have a72:=lds_agg (M:=Mt) (t:=72) k71 T.ag72 (by rw [ast_Node.enc.len]; exact T.sz72) (seg_sl ast_Node.enc.len mm70 (ck_lt ej69).1)
    obtain ⟨b73,H74,a75,f76,q77,r78,x79,i80⟩:=al_ok H37 72 (ast_Node.c ast_Node.zero) i44.le
    have i81:=i80 _ _ i44
    have f82:=f43.ex x79
    obtain ⟨H84,a85,f86,u87⟩:=st_ok (M:=Mt) (t:=72) (v:=(vAgg (ast_Node.c (Sl.nth x0 j69)))) (c:=ast_Node.c (Sl.nth x0 j69)) (cs':=ast_Node.c (Sl.nth x0 j69)) f76 (by rw [ast_Node.enc.len]; exact T.sz72) vAgg_cells (ast_Node.enc.one _) (Nat.le_trans hcn r78) (le0 ast_Node.enc.len) (wrs_all (eqL ast_Node.enc.len))
    have i88:=i81.up u87 r78
    have f89:=f82.up u87 (f43.h.ne q77)
    simp only [C.f57r4,R,Nat.reduceEqDiff,h42,ia35,ej69,h40,a72,zs72,a75,a85]
    refine hJ _ ?_
    refine tk_os okM hok fun J hJ=>?_
    have a90:=ld_one (M:=Mt) (t:=3) f86 T.ag3 (Seg.refl.sub (ast_Node.seg0 (Sl.nth x0 j69)))
    simp only [C.f57r5,R,Nat.reduceEqDiff,fa72_0,a90]
    refine hJ _ ?_
    refine tk_block_k fun K n91 e92 x93=>?_
    refine tk_os okM hok fun J hJ=>?_
    simp only [C.f57r7,R,Nat.reduceEqDiff]
    refine hJ _ ?_
    refine tk_cond (t:=decide (((Sl.nth x0 j69).f_Kind) = 1)) rfl (fun g94=>?_) (fun g94=>?_)
    ·replace hm:=cond_t hm g94
     refine tk_oe okM hok fun J hJ=>?_
     have a95:=ld_agg (M:=Mt) (t:=25) f86 T.ag25 (by rw [class_Set.enc.len]; exact T.sz25) (Seg.refl.sub (ast_Node.seg3 (Sl.nth x0 j69)))
     obtain ⟨v97,ev97,hm⟩:=bind_s hm
     have a96:=ha_facts_bytes c.ro H84 ((Sl.nth x0 j69).f_Set) v97 (tabIv1 i88 hnb hG1) ev97
     obtain ⟨j98,ej98,hm⟩:=bind_s hm
     obtain ⟨H99,a100,f101,u102⟩:=st_sl0 (M:=Mt) (t:=107) (v:=(vAgg (facts_known.c (v97)))) (y:=v97) facts_known.enc.len f89 (ck_lt ej98).1 (by rw [facts_known.enc.len]; exact T.sz107) vAgg_cells (facts_known.enc.one _) hcn
     have i103:=i88.up u102 (f89.some (ck_lt ej98).1).1
     have z104:l31 ≠ none:=sl_some (j:=j98) (ck_lt ej98).1
     have f105:=(u102.get _ ((f43.h.ne q77) z104).symm).trans f86
     simp only [C.f57r8,R,Nat.reduceEqDiff,h39,fa72_3,a95,c_fn F86,a96,ia108,ej98,a100]
     refine hJ _ ?_
     refine n91 _ ?_
     refine n66 _ ?_
     refine n64 _ ?_
     exact ⟨Sl.put l31 j98 v97,x12_33,x13_34,b32,hm,(lk_eq (by simp only [slV_put,slV_copy]) h39),h40,h41,h42,f101,i103⟩
    ·replace hm:=cond_f hm g94
     refine tk_os okM hok fun J hJ=>?_
     simp only [C.f57r9,R,Nat.reduceEqDiff]
     refine hJ _ ?_
     refine tk_cond (t:=decide (((Sl.nth x0 j69).f_Kind) = 2)) rfl (fun g106=>?_) (fun g106=>?_)
     ·replace hm:=cond_t hm g106
      refine tk_os okM hok fun J hJ=>?_
      obtain ⟨v108,ev108,hm⟩:=bind_s hm
      have a107:=ha_facts_nothing c.ro H84  v108 ev108
      obtain ⟨j109,ej109,hm⟩:=bind_s hm
      obtain ⟨H110,a111,f112,u113⟩:=st_sl0 (M:=Mt) (t:=107) (v:=(vAgg (facts_known.c (v108)))) (y:=v108) facts_known.enc.len f89 (ck_lt ej109).1 (by rw [facts_known.enc.len]; exact T.sz107) vAgg_cells (facts_known.enc.one _) hcn
      have i114:=i88.up u113 (f89.some (ck_lt ej109).1).1
      have z115:l31 ≠ none:=sl_some (j:=j109) (ck_lt ej109).1
      have f116:=(u113.get _ ((f43.h.ne q77) z115).symm).trans f86
      simp only [C.f57r10,R,Nat.reduceEqDiff,h39,c_fn F87,a107,ia108,ej109,a111]
      refine hJ _ ?_
      refine tk_oe okM hok fun J hJ=>?_
      obtain ⟨H117,a118,f119,u120⟩:∃ H',stP Mt c.ro H110 4 (.pointer (some ⟨b32,j109 * 9 + 0 + 5,none⟩)) (.bool (true)) = some H' ∧ SlO c.nb H' facts_known.c 107 (Sl.put (Sl.put l31 j109 v108) j109 (facts_known.w0 (Sl.nth (Sl.put l31 j109 v108) j109) (facts_Facts.w2 ((Sl.nth (Sl.put l31 j109 v108) j109).f_Facts) true))) b32 ∧ Up b32 H110 H':=st_sl (M:=Mt) (t:=4) (o:=0 + 0 + 5) (v:=(.bool (true))) (d:=cBool true) (y:=facts_known.w0 (Sl.nth (Sl.put l31 j109 v108) j109) (facts_Facts.w2 ((Sl.nth (Sl.put l31 j109 v108) j109).f_Facts) true)) facts_known.enc.len f112 (by simp only [Sl.put_len,Sl.copy_len]; exact (ck_lt ej109).1) (by rw [enc_bool.len]; exact T.sz4) rfl (enc_bool.one _) hcn (by rw [enc_bool.len]; omega) (by rw [wrs_in (Seg.refl.sub (facts_known.seg0 (Sl.nth (Sl.put l31 j109 v108) j109))) (by have:=trivial; simp only [enc_bool.len,facts_Facts.enc.len]; omega),facts_Facts.wr2 ((Sl.nth (Sl.put l31 j109 v108) j109).f_Facts) true,Nat.zero_add,facts_known.wr0 (Sl.nth (Sl.put l31 j109 v108) j109) (facts_Facts.w2 ((Sl.nth (Sl.put l31 j109 v108) j109).f_Facts) true)])
      have i121:=i114.up u120 (f112.some (by simp only [Sl.put_len,Sl.copy_len]; exact (ck_lt ej109).1)).1
      have z122:(Sl.put l31 j109 v108) ≠ none:=sl_some (j:=j109) (by simp only [Sl.put_len,Sl.copy_len]; exact (ck_lt ej109).1)
      simp only [C.f57r11,R,Nat.reduceEqDiff,h39,ia108,ej109,fa107_0,fa54_2,a118]
      refine hJ _ ?_
      refine n91 _ ?_
      refine n66 _ ?_
      refine n64 _ ?_
      exact ⟨Sl.put (Sl.put l31 j109 v108) j109 (facts_known.w0 (Sl.nth (Sl.put l31 j109 v108) j109) (facts_Facts.w2 ((Sl.nth (Sl.put l31 j109 v108) j109).f_Facts) true)),x12_33,x13_34,b32,hm,(lk_eq (by simp only [slV_put,slV_copy]) h39),h40,h41,h42,f119,i121⟩
     ·replace hm:=cond_f hm g106
      refine tk_os okM hok fun J hJ=>?_
      simp only [C.f57r12,R,Nat.reduceEqDiff]
      refine hJ _ ?_
      refine tk_cond (t:=decide (((Sl.nth x0 j69).f_Kind) = 12)) rfl (fun g123=>?_) (fun g123=>?_)
      ·replace hm:=cond_t hm g123
       refine tk_oe okM hok fun J hJ=>?_
       obtain ⟨v125,ev125,hm⟩:=bind_s hm
       have a124:=ha_class_All c.ro H84  v125 ev125
       obtain ⟨j126,ej126,hm⟩:=bind_s hm
       obtain ⟨H127,a128,f129,u130⟩:=st_sl0 (M:=Mt) (t:=107) (v:=(vAgg (facts_known.c (({ facts_known.zero with f_Facts:=({ facts_Facts.zero with f_First:=v125,f_Open:=true }:facts_Facts) }:facts_known))))) (y:=(({ facts_known.zero with f_Facts:=({ facts_Facts.zero with f_First:=v125,f_Open:=true }:facts_Facts) }:facts_known))) facts_known.enc.len f89 (ck_lt ej126).1 (by rw [facts_known.enc.len]; exact T.sz107) vAgg_cells (facts_known.enc.one _) hcn
       have i131:=i88.up u130 (f89.some (ck_lt ej126).1).1
       have z132:l31 ≠ none:=sl_some (j:=j126) (ck_lt ej126).1
       have f133:=(u130.get _ ((f43.h.ne q77) z132).symm).trans f86
       simp only [C.f57r13,R,Nat.reduceEqDiff,h39,c_fn F88,a124,bd54_0_1,bd107_0,ia108,ej126,a128]
       refine hJ _ ?_
       refine n91 _ ?_
       refine n66 _ ?_
       refine n64 _ ?_
       exact ⟨Sl.put l31 j126 (({ facts_known.zero with f_Facts:=({ facts_Facts.zero with f_First:=v125,f_Open:=true }:facts_Facts) }:facts_known)),x12_33,x13_34,b32,hm,(lk_eq (by simp only [slV_put,slV_copy]) h39),h40,h41,h42,f129,i131⟩
      ·replace hm:=cond_f hm g123
       refine tk_os okM hok fun J hJ=>?_
       simp only [C.f57r14,R,Nat.reduceEqDiff]
       refine hJ _ ?_
       refine tk_cond (t:=decide (((Sl.nth x0 j69).f_Kind) = 8)) rfl (fun g134=>?_) (fun g134=>?_)
       ·replace hm:=cond_t hm g134
        refine tk_oe okM hok fun J hJ=>?_
        have a135:=ld_one (M:=Mt) (t:=3) f86 T.ag3 (Seg.refl.sub (ast_Node.seg1 (Sl.nth x0 j69)))
        obtain ⟨j136,ej136,hm⟩:=bind_s hm
        obtain ⟨mm137,k138⟩:=f89.h.blk (ck_lt ej136).1
        have a139:=lds_agg (M:=Mt) (t:=107) k138 T.ag107 (by rw [facts_known.enc.len]; exact T.sz107) (seg_sl facts_known.enc.len mm137 (ck_lt ej136).1)
        have a140:=ld_one (M:=Mt) (t:=3) f86 T.ag3 (Seg.refl.sub (ast_Node.seg2 (Sl.nth x0 j69)))
        obtain ⟨j141,ej141,hm⟩:=bind_s hm
        obtain ⟨mm142,k143⟩:=f89.h.blk (ck_lt ej141).1
        have a144:=lds_agg (M:=Mt) (t:=107) k143 T.ag107 (by rw [facts_known.enc.len]; exact T.sz107) (seg_sl facts_known.enc.len mm142 (ck_lt ej141).1)
        obtain ⟨v146,ev146,hm⟩:=bind_s hm
        have a145:=ha_facts_cat H84.length H84 (Sl.nth l31 j136) (Sl.nth l31 j141) v146 ev146
        obtain ⟨j147,ej147,hm⟩:=bind_s hm
        obtain ⟨H148,a149,f150,u151⟩:=st_sl0 (M:=Mt) (t:=107) (v:=(vAgg (facts_known.c (v146)))) (y:=v146) facts_known.enc.len f89 (ck_lt ej147).1 (by rw [facts_known.enc.len]; exact T.sz107) vAgg_cells (facts_known.enc.one _) hcn
        have i152:=i88.up u151 (f89.some (ck_lt ej147).1).1
        have z153:l31 ≠ none:=sl_some (j:=j147) (ck_lt ej147).1
        have f154:=(u151.get _ ((f43.h.ne q77) z153).symm).trans f86
        simp only [C.f57r15,R,Nat.reduceEqDiff,s_pt,s_gt,isW,Bool.false_eq_true,if_false,if_true,reduceIte,h39,fa72_1,a135,ia108,ej136,a139,fa72_2,a140,ej141,a144,c_fn F89,a145,ej147,a149]
        refine hJ _ ?_
        refine n91 _ ?_
        refine n66 _ ?_
        refine n64 _ ?_
        exact ⟨Sl.put l31 j147 v146,x12_33,x13_34,b32,hm,(lk_eq (by simp only [slV_put,slV_copy]) h39),h40,h41,h42,f150,i152⟩
       ·replace hm:=cond_f hm g134
        refine tk_os okM hok fun J hJ=>?_
        simp only [C.f57r16,R,Nat.reduceEqDiff]
        refine hJ _ ?_
        refine tk_cond (t:=decide (((Sl.nth x0 j69).f_Kind) = 9)) rfl (fun g155=>?_) (fun g155=>?_)
        ·replace hm:=cond_t hm g155
         refine tk_oe okM hok fun J hJ=>?_
         have a156:=ld_one (M:=Mt) (t:=3) f86 T.ag3 (Seg.refl.sub (ast_Node.seg1 (Sl.nth x0 j69)))
         obtain ⟨j157,ej157,hm⟩:=bind_s hm
         obtain ⟨mm158,k159⟩:=f89.h.blk (ck_lt ej157).1
         have a160:=lds_agg (M:=Mt) (t:=107) k159 T.ag107 (by rw [facts_known.enc.len]; exact T.sz107) (seg_sl facts_known.enc.len mm158 (ck_lt ej157).1)
         have a161:=ld_one (M:=Mt) (t:=3) f86 T.ag3 (Seg.refl.sub (ast_Node.seg2 (Sl.nth x0 j69)))
         obtain ⟨j162,ej162,hm⟩:=bind_s hm
         obtain ⟨mm163,k164⟩:=f89.h.blk (ck_lt ej162).1
         have a165:=lds_agg (M:=Mt) (t:=107) k164 T.ag107 (by rw [facts_known.enc.len]; exact T.sz107) (seg_sl facts_known.enc.len mm163 (ck_lt ej162).1)
         obtain ⟨v167,ev167,hm⟩:=bind_s hm
         have a166:=ha_facts_alt H84.length H84 (Sl.nth l31 j157) (Sl.nth l31 j162) v167 ev167
         obtain ⟨j168,ej168,hm⟩:=bind_s hm
         obtain ⟨H169,a170,f171,u172⟩:=st_sl0 (M:=Mt) (t:=107) (v:=(vAgg (facts_known.c (v167)))) (y:=v167) facts_known.enc.len f89 (ck_lt ej168).1 (by rw [facts_known.enc.len]; exact T.sz107) vAgg_cells (facts_known.enc.one _) hcn
         have i173:=i88.up u172 (f89.some (ck_lt ej168).1).1
         have z174:l31 ≠ none:=sl_some (j:=j168) (ck_lt ej168).1
         have f175:=(u172.get _ ((f43.h.ne q77) z174).symm).trans f86
         simp only [C.f57r17,R,Nat.reduceEqDiff,s_pt,s_gt,isW,Bool.false_eq_true,if_false,if_true,reduceIte,h39,fa72_1,a156,ia108,ej157,a160,fa72_2,a161,ej162,a165,c_fn F90,a166,ej168,a170]
         refine hJ _ ?_
         refine n91 _ ?_
         refine n66 _ ?_
         refine n64 _ ?_
         exact ⟨Sl.put l31 j168 v167,x12_33,x13_34,b32,hm,(lk_eq (by simp only [slV_put,slV_copy]) h39),h40,h41,h42,f171,i173⟩
        ·replace hm:=cond_f hm g155
         refine tk_os okM hok fun J hJ=>?_
         simp only [C.f57r18,R,Nat.reduceEqDiff]
         refine hJ _ ?_
         refine tk_cond (t:=decide (((Sl.nth x0 j69).f_Kind) = 10)) rfl (fun g176=>?_) (fun g176=>?_)
         ·replace hm:=cond_t hm g176
          refine tk_oe okM hok fun J hJ=>?_
          have a177:=ld_agg (M:=Mt) (t:=72) f86 T.ag72 (by rw [ast_Node.enc.len]; exact T.sz72) Seg.refl
          have a178:=ld_one (M:=Mt) (t:=3) f86 T.ag3 (Seg.refl.sub (ast_Node.seg1 (Sl.nth x0 j69)))
          obtain ⟨j179,ej179,hm⟩:=bind_s hm
          obtain ⟨mm180,k181⟩:=f89.h.blk (ck_lt ej179).1
          have a182:=lds_agg (M:=Mt) (t:=107) k181 T.ag107 (by rw [facts_known.enc.len]; exact T.sz107) (seg_sl facts_known.enc.len mm180 (ck_lt ej179).1)
          obtain ⟨v184,ev184,hm⟩:=bind_s hm
          have a183:=ha_facts_repeat H84.length H84 (Sl.nth x0 j69) (Sl.nth l31 j179) v184 ev184
          obtain ⟨j185,ej185,hm⟩:=bind_s hm
          obtain ⟨H186,a187,f188,u189⟩:=st_sl0 (M:=Mt) (t:=107) (v:=(vAgg (facts_known.c (v184)))) (y:=v184) facts_known.enc.len f89 (ck_lt ej185).1 (by rw [facts_known.enc.len]; exact T.sz107) vAgg_cells (facts_known.enc.one _) hcn
          have i190:=i88.up u189 (f89.some (ck_lt ej185).1).1
          have z191:l31 ≠ none:=sl_some (j:=j185) (ck_lt ej185).1
          have f192:=(u189.get _ ((f43.h.ne q77) z191).symm).trans f86
          simp only [C.f57r19,R,Nat.reduceEqDiff,s_pt,s_gt,isW,Bool.false_eq_true,if_false,if_true,reduceIte,h39,a177,fa72_1,a178,ia108,ej179,a182,c_fn F91,a183,ej185,a187]
          refine hJ _ ?_
          refine n91 _ ?_
          refine n66 _ ?_
          refine n64 _ ?_
          exact ⟨Sl.put l31 j185 v184,x12_33,x13_34,b32,hm,(lk_eq (by simp only [slV_put,slV_copy]) h39),h40,h41,h42,f188,i190⟩
         ·replace hm:=cond_f hm g176
          refine tk_seq_j (fun ⟨σ,H,_⟩=>∃ l193 x4_195 x196 x12_197 x13_198 x95_199 b194,b_facts_all_3 c_facts_bytes c_facts_nothing c_class_All c_facts_cat c_facts_alt c_facts_repeat n (b_facts_all_1 c_facts_bytes c_facts_nothing c_class_All c_facts_cat c_facts_alt c_facts_repeat n x0 k1) x0 l193 x4_195 x196 x12_197 x13_198 x95_199 = some r ∧ Lk σ 3 (slV l193 b194) ∧ Lk σ 4 (.int .i64 x4_195) ∧ Lk σ 5 (.pointer (some ⟨b73,0,none⟩)) ∧ Lk σ 11 (slV x0 b0) ∧ Lk σ 12 (.int .i64 x12_197) ∧ Lk σ 13 (.int .i64 x13_198) ∧ Lk σ 95 (.bool x95_199) ∧ SlO c.nb H facts_known.c 107 l193 b194 ∧ H[b73]? = some (.cells (ast_Node.c x196) 72) ∧ (l193 ≠ none → b194 ≠ b73) ∧ Iv c.nb [] H0 H) ?_ ?_
          ·skip
           rintro ⟨σ213,H200,d214⟩ ⟨l193,x4_195,x196,x12_197,x13_198,x95_199,b194,hm,h202,h203,h204,h205,h206,h207,h208,f209,f210,n211,i212⟩
           rw [b_facts_all_3] at hm
           refine tk_cond (t:=x95_199) h208 (fun g215=>?_) (fun g215=>?_)
           ·replace hm:=cond_t hm g215
            refine tk_oe okM hok fun J hJ=>?_
            have a216:=ld_one (M:=Mt) (t:=3) f210 T.ag3 (Seg.refl.sub (ast_Node.seg1 x196))
            obtain ⟨j217,ej217,hm⟩:=bind_s hm
            obtain ⟨mm218,k219⟩:=f209.h.blk (ck_lt ej217).1
            have a220:=lds_agg (M:=Mt) (t:=107) k219 T.ag107 (by rw [facts_known.enc.len]; exact T.sz107) (seg_sl facts_known.enc.len mm218 (ck_lt ej217).1)
            obtain ⟨j221,ej221,hm⟩:=bind_s hm
            obtain ⟨H222,a223,f224,u225⟩:=st_sl0 (M:=Mt) (t:=107) (v:=(vAgg (facts_known.c (Sl.nth l193 j217)))) (y:=(Sl.nth l193 j217)) facts_known.enc.len f209 (ck_lt ej221).1 (by rw [facts_known.enc.len]; exact T.sz107) vAgg_cells (facts_known.enc.one _) hcn
            have i226:=i212.up u225 (f209.some (ck_lt ej221).1).1
            have z227:l193 ≠ none:=sl_some (j:=j221) (ck_lt ej221).1
            have f228:=(u225.get _ (n211 z227).symm).trans f210
            simp only [C.f57r22,R,Nat.reduceEqDiff,h202,h203,fa72_1,h204,a216,ia108,ej217,a220,ej221,a223]
            refine hJ _ ?_
            refine n91 _ ?_
            refine n66 _ ?_
            refine n64 _ ?_
            exact ⟨Sl.put l193 j221 (Sl.nth l193 j217),x12_197,x13_198,b194,hm,(lk_eq (by simp only [slV_put,slV_copy]) h202),h205,h206,h207,f224,i226⟩
           ·replace hm:=cond_f hm g215
            refine tk_oe okM hok fun J hJ=>?_
            obtain ⟨v230,ev230,hm⟩:=bind_s hm
            have a229:=ha_facts_nothing c.ro H200  v230 ev230
            obtain ⟨j231,ej231,hm⟩:=bind_s hm
            obtain ⟨H232,a233,f234,u235⟩:=st_sl0 (M:=Mt) (t:=107) (v:=(vAgg (facts_known.c (v230)))) (y:=v230) facts_known.enc.len f209 (ck_lt ej231).1 (by rw [facts_known.enc.len]; exact T.sz107) vAgg_cells (facts_known.enc.one _) hcn
            have i236:=i212.up u235 (f209.some (ck_lt ej231).1).1
            have z237:l193 ≠ none:=sl_some (j:=j231) (ck_lt ej231).1
            have f238:=(u235.get _ (n211 z237).symm).trans f210
            simp only [C.f57r6,R,Nat.reduceEqDiff,h202,h203,c_fn F87,a229,ia108,ej231,a233]
            refine hJ _ ?_
            refine n91 _ ?_
            refine n66 _ ?_
            refine n64 _ ?_
            exact ⟨Sl.put l193 j231 v230,x12_197,x13_198,b194,hm,(lk_eq (by simp only [slV_put,slV_copy]) h202),h205,h206,h207,f234,i236⟩
          ·refine fun K n239 x240=>?_
           refine tk_os okM hok fun J hJ=>?_
           simp only [C.f57r20,R,Nat.reduceEqDiff]
           refine hJ _ ?_
           refine tk_cond (t:=decide (((Sl.nth x0 j69).f_Kind) = 11)) rfl (fun g241=>?_) (fun g241=>?_)
           ·replace hm:=cond_t hm g241
            refine tk_skip okM ?_
            refine n239 _ ?_
            exact ⟨l31,x13_34,Sl.nth x0 j69,x12_33,x13_34,decide (((Sl.nth x0 j69).f_Kind) = 11),b32,hm,h39,rfl,rfl,h40,h41,h42,rfl,f89,f86,(f43.h.ne q77),i88⟩
           ·replace hm:=cond_f hm g241
            refine tk_oe okM hok fun J hJ=>?_
            simp only [C.f57r21,R,Nat.reduceEqDiff]
            refine hJ _ ?_
            refine n239 _ ?_
            exact ⟨l31,x13_34,Sl.nth x0 j69,x12_33,x13_34,decide (((Sl.nth x0 j69).f_Kind) = 17),b32,hm,h39,rfl,rfl,h40,h41,h42,rfl,f89,f86,(f43.h.ne q77),i88⟩
  ·replace hm:=cond_f hm g49
   refine tk_exit okM ?_
   refine x48 _ _ (by simp) ?_
   refine x36 _ _ (by simp) ?_
   refine e29 _ ?_
   refine n25 _ ?_
   refine tk_os okM hok fun J hJ=>?_
   simp only [C.f57r24,R,Nat.reduceEqDiff,h39]
   refine hJ _ ?_
   refine tk_ret okM ?_
   obtain rfl:=Option.some.inj hm
   exact end_sl1 (P:=Mt.P) (rs:=[(.tmp 2)]) (pre:=[]) (post:=[]) (x:=l31) (b:=b32) (nb:=H0.length) (.inl rfl) (by rw [← hnb]; exact f43) facts_known.enc fm_nil fm_nil (resT' (v:=(slV l31 b32)) rfl resN)
def b_ast_sizes_2 (c_ast_kids:T_ast_kids) (c_ast_Node_fits:T_ast_Node_fits) (n:Nat) (q1:Sl Int → Int → Int → Option ((Sl Int) × Bool)) (x0:(Sl ast_Node)) (l81:Sl Int) (x5_83:Int) (x84:ast_Node) (x7_85:Int) (x8_86:Int) (x9_87:Int) (x17_88:Int) (x18_89:Int):Option ((Sl Int) × Bool):=(c_ast_Node_fits x84).bind fun v114=>bif ((!v114) || (!decide (x84.f_A = x7_85))) || (!decide (x84.f_B = x8_86)) then (some (none,false)) else ((ck (Sl.l l81).length x5_83).bind fun j153=>q1 (Sl.put l81 j153 x9_87) x17_88 (IntKind.i64.wrap (x18_89 + 1)))
def b_ast_sizes_1 (c_ast_kids:T_ast_kids) (c_ast_Node_fits:T_ast_Node_fits) (n:Nat) (x0:(Sl ast_Node)):Nat → Sl Int → Int → Int → Option ((Sl Int) × Bool)
 | 0,_,_,_=>none
 | k + 1,l31,x17_33,x18_34=>bif decide (x18_34 < x17_33) then ((ck (Sl.l x0).length x18_34).bind fun j58=>(c_ast_kids ((Sl.nth x0 j58).f_Kind)).bind fun v165=>bif decide (v165 = 1) then (bif decide ((IntKind.i64.wrap (x18_34 - 1)) < 0) then (some (none,false)) else ((ck (Sl.l l31).length (IntKind.i64.wrap (x18_34 - 1))).bind fun j173=>b_ast_sizes_2 c_ast_kids c_ast_Node_fits n (b_ast_sizes_1 c_ast_kids c_ast_Node_fits n x0 k) x0 l31 x18_34 (Sl.nth x0 j58) (IntKind.i64.wrap (x18_34 - 1)) 0 (IntKind.i64.wrap (1 + (Sl.nth l31 j173))) x17_33 x18_34)) else (bif decide (v165 = 2) then (bif decide ((IntKind.i64.wrap (x18_34 - 1)) < 0) then (some (none,false)) else ((ck (Sl.l l31).length (IntKind.i64.wrap (x18_34 - 1))).bind fun j181=>bif decide ((IntKind.i64.wrap ((IntKind.i64.wrap (x18_34 - 1)) - (Sl.nth l31 j181))) < 0) then (some (none,false)) else ((ck (Sl.l l31).length (IntKind.i64.wrap ((IntKind.i64.wrap (x18_34 - 1)) - (Sl.nth l31 j181)))).bind fun j188=>b_ast_sizes_2 c_ast_kids c_ast_Node_fits n (b_ast_sizes_1 c_ast_kids c_ast_Node_fits n x0 k) x0 l31 x18_34 (Sl.nth x0 j58) (IntKind.i64.wrap ((IntKind.i64.wrap (x18_34 - 1)) - (Sl.nth l31 j181))) (IntKind.i64.wrap (x18_34 - 1)) (IntKind.i64.wrap (1 + (IntKind.i64.wrap ((Sl.nth l31 j188) + (Sl.nth l31 j181))))) x17_33 x18_34))) else (b_ast_sizes_2 c_ast_kids c_ast_Node_fits n (b_ast_sizes_1 c_ast_kids c_ast_Node_fits n x0 k) x0 l31 x18_34 (Sl.nth x0 j58) 0 0 1 x17_33 x18_34))) else ((bif decide (0 ≤ (IntKind.i64.wrap ((Sl.len x0) - 1))) then ((ck (Sl.l l31).length (IntKind.i64.wrap ((Sl.len x0) - 1))).bind fun j196=>some (decide ((Sl.nth l31 j196) = (Sl.len x0)))) else some false).bind fun y201=>some (l31,y201))
def b_ast_sizes (c_ast_kids:T_ast_kids) (c_ast_Node_fits:T_ast_Node_fits) (n:Nat) (x0:(Sl ast_Node)):Option ((Sl Int) × Bool):=(Sl.make 8 (Sl.len x0) (Sl.len x0) (0:Int)).bind fun l13=>b_ast_sizes_1 c_ast_kids c_ast_Node_fits n x0 n l13 (Sl.len x0) 0
theorem w_ast_sizes {call:CallF} (hok:CallOk Mt call) {n:Nat} {c_ast_kids:T_ast_kids} (ha_ast_kids:A_ast_kids call c_ast_kids) {c_ast_Node_fits:T_ast_Node_fits} (ha_ast_Node_fits:A_ast_Node_fits call c_ast_Node_fits) {H0:Hp} {x0:(Sl ast_Node)} {b0:Nat} {r:(Sl Int) × Bool} {ro:Nat} (hro:ro ≤ H0.length) (h0:SlH H0 ast_Node.c 72 x0 b0) (hm:b_ast_sizes c_ast_kids c_ast_Node_fits n x0 = some r) :
  Pt Mt ro 62 [(vAgg [slV x0 b0])] H0 (.tuple [(slV r.1 H0.length),(.bool (r.2))].toArray) (H0 ++ slB (cInt .i64) 3 r.1) []:=by
 refine pt_new okM F62d (by exact Nat.le_of_ble_eq_true rfl) ?_ hro
 intro c hnt hnb hcr
 have hcn:c.ro ≤ c.nb:=by omega
 have l0:x0 ≠ none → b0 < c.nb:=fun h=>by rw [hnb]; exact h0.lt h
 have iv:Iv c.nb [] H0 H0:=by rw [hnb]; exact iv_refl
 rw [show args0 [(vAgg [slV x0 b0])] = [(0,(vAgg [slV x0 b0]))] from rfl]
 rw [b_ast_sizes] at hm
 simp only [C.f62,C.f62b0]
 refine tk_os okM hok fun J hJ=>?_
 obtain ⟨b2,H3,a4,f5,q6,r7,x8,i9⟩:=bx_ok (M:=Mt) (t:=37) (u:=(vAgg [(slV x0 b0)])) (cs:=[(slV x0 b0)]) H0 iv.le T.sz37 vAgg_cells one_sl
 have i10:=i9 _ _ iv
 simp only [C.f62r0,R,Nat.reduceEqDiff,a4]
 refine hJ _ ?_
 refine tk_os okM hok fun J hJ=>?_
 have a12:=ld_one (M:=Mt) (t:=35) (off:=0 + 0) f5 T.ag35 Seg.refl
 obtain ⟨l13,el13,hm⟩:=bind_s hm
 obtain ⟨b14,H15,a16,f17,q18,r19,x20,i21⟩:=mk_ok (M:=Mt) (t:=100) (e:=3) (k:=.i64) (k':=.i64) H3 i10.le Tryz.underlying100 T.by3 zs3 el13
 have i22:=i21 _ _ i10
 have f23:=x20 _ _ f5
 simp only [C.f62r1,R,Nat.reduceEqDiff,fa37_0,a12,ln35,o_makeSlice,a16]
 refine hJ _ ?_
 refine tk_seq_k fun K n25 x26=>?_
 refine tk_os okM hok fun J hJ=>?_
 have a27:=ld_one (M:=Mt) (t:=35) (off:=0 + 0) f23 T.ag35 Seg.refl
 simp only [C.f62r2,R,Nat.reduceEqDiff,fa37_0,a27,ln35]
 refine hJ _ ?_
 refine tk_block_k fun K n28 e29 x30=>?_
 refine tk_loop_k (n:=n) (fun k1 ⟨σ,H,_⟩=>∃ l31 x17_33 x18_34 b32,b_ast_sizes_1 c_ast_kids c_ast_Node_fits n x0 k1 l31 x17_33 x18_34 = some r ∧ Lk σ 1 (.pointer (some ⟨b2,0,none⟩)) ∧ Lk σ 4 (slV l31 b32) ∧ Lk σ 16 (slV x0 b0) ∧ Lk σ 17 (.int .i64 x17_33) ∧ Lk σ 18 (.int .i64 x18_34) ∧ H[b2]? = some (.cells [(slV x0 b0)] 37) ∧ SlO c.nb H (cInt .i64) 3 l31 b32 ∧ (l31 ≠ none → b32 ≠ b2) ∧ Iv c.nb [] H0 H) ?_ ?_ ?_
 ·exact ⟨l13,Sl.len x0,0,b14,hm,rfl,rfl,rfl,rfl,rfl,f23,f17,(fun _=>(ne_len f5 q18).symm),i22⟩
 ·rintro ⟨σ,H,d⟩ ⟨_,_,_,_,hm,_⟩
  cases hm
 ·intro k1 K n35 x36
  rintro ⟨σ48,H37,d49⟩ ⟨l31,x17_33,x18_34,b32,hm,h39,h40,h41,h42,h43,f44,f45,n46,i47⟩
  rw [b_ast_sizes_1.eq_2] at hm
  refine tk_os okM hok fun J hJ=>?_
  simp only [C.f62r3,R,Nat.reduceEqDiff,h43,h42]
  refine hJ _ ?_
  refine tk_seq_k fun K n50 x51=>?_
  refine tk_cond (t:=decide (x18_34 < x17_33)) rfl (fun g52=>?_) (fun g52=>?_)
  ·replace hm:=cond_t hm g52
   refine tk_skip okM ?_
   refine n50 _ ?_
   refine tk_seq_k fun K n53 x54=>?_
   refine tk_block_k fun K n55 e56 x57=>?_
   refine tk_os okM hok fun J hJ=>?_
   obtain ⟨j58,ej58,hm⟩:=bind_s hm
   obtain ⟨mm59,k60⟩:=(h0.iv l0 (fun _=>by simp) i47).blk (ck_lt ej58).1
   have a61:=lds_agg (M:=Mt) (t:=72) k60 T.ag72 (by rw [ast_Node.enc.len]; exact T.sz72) (seg_sl ast_Node.enc.len mm59 (ck_lt ej58).1)
   obtain ⟨b62,H63,a64,f65,q66,r67,x68,i69⟩:=al_ok H37 72 (ast_Node.c ast_Node.zero) i47.le
   have i70:=i69 _ _ i47
   have f71:=x68 _ _ f44
   have f72:=f45.ex x68
   obtain ⟨H74,a75,f76,u77⟩:=st_ok (M:=Mt) (t:=72) (v:=(vAgg (ast_Node.c (Sl.nth x0 j58)))) (c:=ast_Node.c (Sl.nth x0 j58)) (cs':=ast_Node.c (Sl.nth x0 j58)) f65 (by rw [ast_Node.enc.len]; exact T.sz72) vAgg_cells (ast_Node.enc.one _) (Nat.le_trans hcn r67) (le0 ast_Node.enc.len) (wrs_all (eqL ast_Node.enc.len))
   have i78:=i70.up u77 r67
   have f79:=(u77.get _ (ne_len f44 q66)).trans f71
   have f80:=f72.up u77 (f45.h.ne q66)
   simp only [C.f62r4,R,Nat.reduceEqDiff,h43,ia35,ej58,h41,a61,zs72,a64,a75]
   refine hJ _ ?_
   refine tk_os okM hok fun J hJ=>?_
   simp only [C.f62r5,R,Nat.reduceEqDiff]
   refine hJ _ ?_
   refine tk_seq_j (fun ⟨σ,H,_⟩=>∃ l81 x5_83 x84 x7_85 x8_86 x9_87 x17_88 x18_89 b82,b_ast_sizes_2 c_ast_kids c_ast_Node_fits n (b_ast_sizes_1 c_ast_kids c_ast_Node_fits n x0 k1) x0 l81 x5_83 x84 x7_85 x8_86 x9_87 x17_88 x18_89 = some r ∧ Lk σ 1 (.pointer (some ⟨b2,0,none⟩)) ∧ Lk σ 4 (slV l81 b82) ∧ Lk σ 5 (.int .i64 x5_83) ∧ Lk σ 6 (.pointer (some ⟨b62,0,none⟩)) ∧ Lk σ 7 (.int .i64 x7_85) ∧ Lk σ 8 (.int .i64 x8_86) ∧ Lk σ 9 (.int .i64 x9_87) ∧ Lk σ 16 (slV x0 b0) ∧ Lk σ 17 (.int .i64 x17_88) ∧ Lk σ 18 (.int .i64 x18_89) ∧ H[b2]? = some (.cells [(slV x0 b0)] 37) ∧ SlO c.nb H (cInt .i64) 3 l81 b82 ∧ H[b62]? = some (.cells (ast_Node.c x84) 72) ∧ (l81 ≠ none → b82 ≠ b2) ∧ (l81 ≠ none → b82 ≠ b62) ∧ Iv c.nb [] H0 H) ?_ ?_
   ·skip
    rintro ⟨σ108,H90,d109⟩ ⟨l81,x5_83,x84,x7_85,x8_86,x9_87,x17_88,x18_89,b82,hm,h92,h93,h94,h95,h96,h97,h98,h99,h100,h101,f102,f103,f104,n105,n106,i107⟩
    rw [b_ast_sizes_2] at hm
    refine tk_seq_k fun K n110 x111=>?_
    refine tk_os okM hok fun J hJ=>?_
    rw [C.f62r20]
    have a112:=ld_agg (M:=Mt) (t:=72) f104 T.ag72 (by rw [ast_Node.enc.len]; exact T.sz72) Seg.refl
    obtain ⟨v114,ev114,hm⟩:=bind_s hm
    have a113:=ha_ast_Node_fits c.ro H90 x84 v114 ev114
    refine rn_app_k (fun ⟨σ,H,_⟩=>Lk σ 1 (.pointer (some ⟨b2,0,none⟩)) ∧ Lk σ 4 (slV l81 b82) ∧ Lk σ 5 (.int .i64 (x5_83)) ∧ Lk σ 6 (.pointer (some ⟨b62,0,none⟩)) ∧ Lk σ 8 (.int .i64 (x8_86)) ∧ Lk σ 9 (.int .i64 (x9_87)) ∧ Lk σ 16 (slV x0 b0) ∧ Lk σ 17 (.int .i64 (x17_88)) ∧ Lk σ 18 (.int .i64 (x18_89)) ∧ Lk σ 71 (.bool ((!v114) || (!decide (x84.f_A = x7_85)))) ∧ H[b2]? = some (.cells [(slV x0 b0)] 37) ∧ SlO c.nb H (cInt .i64) 3 l81 b82 ∧ H[b62]? = some (.cells (ast_Node.c x84) 72) ∧ Iv c.nb [] H0 H) (fun J hJ=>?_) ?_
    ·skip
     cases g131:!v114
     ·skip
      have a132:=ld_one (M:=Mt) (t:=3) f104 T.ag3 (Seg.refl.sub (ast_Node.seg1 x84))
      simp only [C.f62r20p0,R,Nat.reduceEqDiff,a112,h95,c_fn F97,a113,g131,fa72_1,a132,h96]
      refine hJ _ ?_
      exact ⟨h92,h93,h94,h95,h97,h98,h99,h100,h101,(by first | rfl | (simp only [g131]; rfl) | simp only [g131,Lk,RB,Nat.reduceEqDiff,not_false_eq_true]),f102,f103,f104,i107⟩
     ·skip
      simp only [C.f62r20p0,R,Nat.reduceEqDiff,a112,h95,c_fn F97,a113,g131]
      refine hJ _ ?_
      exact ⟨h92,h93,h94,h95,h97,h98,h99,h100,h101,(by first | rfl | (simp only [g131]; rfl) | simp only [g131,Lk,RB,Nat.reduceEqDiff,not_false_eq_true]),f102,f103,f104,i107⟩
    rintro ⟨σ133,H116,d134⟩ ⟨h117,h118,h119,h120,h121,h122,h123,h124,h125,h126,f127,f128,f129,i130⟩
    refine rn_k (fun ⟨σ,H,_⟩=>Lk σ 1 (.pointer (some ⟨b2,0,none⟩)) ∧ Lk σ 4 (slV l81 b82) ∧ Lk σ 5 (.int .i64 (x5_83)) ∧ Lk σ 9 (.int .i64 (x9_87)) ∧ Lk σ 16 (slV x0 b0) ∧ Lk σ 17 (.int .i64 (x17_88)) ∧ Lk σ 18 (.int .i64 (x18_89)) ∧ Lk σ 77 (.bool (((!v114) || (!decide (x84.f_A = x7_85))) || (!decide (x84.f_B = x8_86)))) ∧ H[b2]? = some (.cells [(slV x0 b0)] 37) ∧ SlO c.nb H (cInt .i64) 3 l81 b82 ∧ Iv c.nb [] H0 H) (fun J hJ=>?_) ?_
    ·skip
     cases g148:(!v114) || (!decide (x84.f_A = x7_85))
     ·skip
      have a149:=ld_one (M:=Mt) (t:=3) f129 T.ag3 (Seg.refl.sub (ast_Node.seg2 x84))
      simp only [C.f62r20p1,R,Nat.reduceEqDiff,h126,g148,fa72_2,h120,a149,h121]
      refine hJ _ ?_
      exact ⟨h117,h118,h119,h122,h123,h124,h125,(by first | rfl | (simp only [g148]; rfl) | simp only [g148,Lk,RB,Nat.reduceEqDiff,not_false_eq_true]),f127,f128,i130⟩
     ·skip
      simp only [C.f62r20p1,R,Nat.reduceEqDiff,h126,g148]
      refine hJ _ ?_
      exact ⟨h117,h118,h119,h122,h123,h124,h125,(by first | rfl | (simp only [g148]; rfl) | simp only [g148,Lk,RB,Nat.reduceEqDiff,not_false_eq_true]),f127,f128,i130⟩
    rintro ⟨σ150,H136,d151⟩ ⟨h137,h138,h139,h140,h141,h142,h143,h144,f145,f146,i147⟩
    refine hJ _ ?_
    refine tk_cond (t:=((!v114) || (!decide (x84.f_A = x7_85))) || (!decide (x84.f_B = x8_86))) h144 (fun g152=>?_) (fun g152=>?_)
    ·replace hm:=cond_t hm g152
     refine tk_os okM hok fun J hJ=>?_
     simp only [C.f62r21,R,Nat.reduceEqDiff]
     refine hJ _ ?_
     refine tk_ret okM ?_
     refine x111 _ _ (by simp) ?_
     refine x57 _ _ (by simp) (by simp) ?_
     refine x54 _ _ (by simp) ?_
     refine x36 _ _ (by simp) ?_
     refine x30 _ _ (by simp) (by simp) ?_
     refine x26 _ _ (by simp) ?_
     obtain rfl:=Option.some.inj hm
     exact end_sl1 (P:=Mt.P) (rs:=[(.tmp 2),(.tmp 3)]) (pre:=[]) (post:=[(.bool (false))]) (x:=none) (b:=0) (nb:=H0.length) (.inl rfl) (by rw [← hnb]; exact (slO_nil (c:=(cInt .i64)) (e:=3))) enc_int fm_nil (fm_cons rfl fm_nil) (resT' (v:=(.slice none 0 0)) rfl (resT' (v:=(.bool (false))) rfl resN))
    ·replace hm:=cond_f hm g152
     refine tk_skip okM ?_
     refine n110 _ ?_
     refine tk_oe okM hok fun J hJ=>?_
     obtain ⟨j153,ej153,hm⟩:=bind_s hm
     obtain ⟨H154,a155,f156,u157⟩:=st_sl0 (M:=Mt) (t:=3) (v:=(.int .i64 (x9_87))) (y:=x9_87) enc_int.len f146 (ck_lt ej153).1 (by rw [enc_int.len]; exact T.sz3) rfl (enc_int.one _) hcn
     have i158:=i147.up u157 (f146.some (ck_lt ej153).1).1
     have z159:l81 ≠ none:=sl_some (j:=j153) (ck_lt ej153).1
     have f160:=(u157.get _ (n105 z159).symm).trans f145
     simp only [C.f62r22,R,Nat.reduceEqDiff,h138,h139,h140,ia100,ej153,a155]
     refine hJ _ ?_
     refine n55 _ ?_
     refine n53 _ ?_
     refine tk_oe okM hok fun J hJ=>?_
     simp only [C.f62r23,R,Nat.reduceEqDiff,h143]
     refine hJ _ ?_
     refine n35 _ ?_
     exact ⟨Sl.put l81 j153 x9_87,x17_88,IntKind.i64.wrap (x18_89 + 1),b82,hm,h137,(lk_eq (by simp only [slV_put,slV_copy]) h138),h141,h142,rfl,f160,f156,(fun h=>n105 (by simpa only [Sl.put_none,Sl.copy_none] using h)),i158⟩
   ·refine fun K n161 x162=>?_
    refine tk_os okM hok fun J hJ=>?_
    have a163:=ld_one (M:=Mt) (t:=3) f76 T.ag3 (Seg.refl.sub (ast_Node.seg0 (Sl.nth x0 j58)))
    obtain ⟨v165,ev165,hm⟩:=bind_s hm
    have a164:=ha_ast_kids c.ro H74 ((Sl.nth x0 j58).f_Kind) v165 ev165
    simp only [C.f62r6,R,Nat.reduceEqDiff,fa72_0,a163,c_fn F66,a164]
    refine hJ _ ?_
    refine tk_block_k fun K n166 e167 x168=>?_
    refine tk_os okM hok fun J hJ=>?_
    simp only [C.f62r7,R,Nat.reduceEqDiff]
    refine hJ _ ?_
    refine tk_cond (t:=decide (v165 = 1)) rfl (fun g169=>?_) (fun g169=>?_)
    ·replace hm:=cond_t hm g169
     refine tk_os okM hok fun J hJ=>?_
     simp only [C.f62r8,R,Nat.reduceEqDiff]
     refine hJ _ ?_
     refine tk_seq_k fun K n170 x171=>?_
     refine tk_os okM hok fun J hJ=>?_
     simp only [C.f62r9,R,Nat.reduceEqDiff]
     refine hJ _ ?_
     refine tk_cond (t:=decide ((IntKind.i64.wrap (x18_34 - 1)) < 0)) rfl (fun g172=>?_) (fun g172=>?_)
     ·replace hm:=cond_t hm g172
      refine tk_os okM hok fun J hJ=>?_
      simp only [C.f62r10,R,Nat.reduceEqDiff]
      refine hJ _ ?_
      refine tk_ret okM ?_
      refine x171 _ _ (by simp) ?_
      refine x168 _ _ (by simp) (by simp) ?_
      refine x162 _ _ (by simp) ?_
      refine x57 _ _ (by simp) (by simp) ?_
      refine x54 _ _ (by simp) ?_
      refine x36 _ _ (by simp) ?_
      refine x30 _ _ (by simp) (by simp) ?_
      refine x26 _ _ (by simp) ?_
      obtain rfl:=Option.some.inj hm
      exact end_sl1 (P:=Mt.P) (rs:=[(.tmp 2),(.tmp 3)]) (pre:=[]) (post:=[(.bool (false))]) (x:=none) (b:=0) (nb:=H0.length) (.inl rfl) (by rw [← hnb]; exact (slO_nil (c:=(cInt .i64)) (e:=3))) enc_int fm_nil (fm_cons rfl fm_nil) (resT' (v:=(.slice none 0 0)) rfl (resT' (v:=(.bool (false))) rfl resN))
     ·replace hm:=cond_f hm g172
      refine tk_skip okM ?_
      refine n170 _ ?_
      refine tk_oe okM hok fun J hJ=>?_
      obtain ⟨j173,ej173,hm⟩:=bind_s hm
      obtain ⟨mm174,k175⟩:=f80.h.blk (ck_lt ej173).1
      have a176:=lds_one (M:=Mt) (t:=3) k175 T.ag3 (seg_sl enc_int.len mm174 (ck_lt ej173).1)
      simp only [C.f62r11,R,Nat.reduceEqDiff,h40,ia100,ej173,a176]
      refine hJ _ ?_
      refine n166 _ ?_
      refine n161 _ ?_
      exact ⟨l31,x18_34,Sl.nth x0 j58,IntKind.i64.wrap (x18_34 - 1),0,IntKind.i64.wrap (1 + (Sl.nth l31 j173)),x17_33,x18_34,b32,hm,h39,h40,rfl,rfl,rfl,rfl,rfl,h41,h42,h43,f79,f80,f76,n46,(f45.h.ne q66),i78⟩
    ·replace hm:=cond_f hm g169
     refine tk_os okM hok fun J hJ=>?_
     simp only [C.f62r12,R,Nat.reduceEqDiff]
     refine hJ _ ?_
     refine tk_cond (t:=decide (v165 = 2)) rfl (fun g177=>?_) (fun g177=>?_)
     ·replace hm:=cond_t hm g177
      refine tk_os okM hok fun J hJ=>?_
      simp only [C.f62r13,R,Nat.reduceEqDiff]
      refine hJ _ ?_
      refine tk_seq_k fun K n178 x179=>?_
      refine tk_os okM hok fun J hJ=>?_
      simp only [C.f62r14,R,Nat.reduceEqDiff]
      refine hJ _ ?_
      refine tk_cond (t:=decide ((IntKind.i64.wrap (x18_34 - 1)) < 0)) rfl (fun g180=>?_) (fun g180=>?_)
      ·replace hm:=cond_t hm g180
       refine tk_os okM hok fun J hJ=>?_
       simp only [C.f62r15,R,Nat.reduceEqDiff]
       refine hJ _ ?_
       refine tk_ret okM ?_
       refine x179 _ _ (by simp) ?_
       refine x168 _ _ (by simp) (by simp) ?_
       refine x162 _ _ (by simp) ?_
       refine x57 _ _ (by simp) (by simp) ?_
       refine x54 _ _ (by simp) ?_
       refine x36 _ _ (by simp) ?_
       refine x30 _ _ (by simp) (by simp) ?_
       refine x26 _ _ (by simp) ?_
       obtain rfl:=Option.some.inj hm
       exact end_sl1 (P:=Mt.P) (rs:=[(.tmp 2),(.tmp 3)]) (pre:=[]) (post:=[(.bool (false))]) (x:=none) (b:=0) (nb:=H0.length) (.inl rfl) (by rw [← hnb]; exact (slO_nil (c:=(cInt .i64)) (e:=3))) enc_int fm_nil (fm_cons rfl fm_nil) (resT' (v:=(.slice none 0 0)) rfl (resT' (v:=(.bool (false))) rfl resN))
      ·replace hm:=cond_f hm g180
       refine tk_skip okM ?_
       refine n178 _ ?_
       refine tk_os okM hok fun J hJ=>?_
       obtain ⟨j181,ej181,hm⟩:=bind_s hm
       obtain ⟨mm182,k183⟩:=f80.h.blk (ck_lt ej181).1
       have a184:=lds_one (M:=Mt) (t:=3) k183 T.ag3 (seg_sl enc_int.len mm182 (ck_lt ej181).1)
       simp only [C.f62r16,R,Nat.reduceEqDiff,h40,ia100,ej181,a184]
       refine hJ _ ?_
       refine tk_seq_k fun K n185 x186=>?_
       refine tk_os okM hok fun J hJ=>?_
       simp only [C.f62r17,R,Nat.reduceEqDiff]
       refine hJ _ ?_
       refine tk_cond (t:=decide ((IntKind.i64.wrap ((IntKind.i64.wrap (x18_34 - 1)) - (Sl.nth l31 j181))) < 0)) rfl (fun g187=>?_) (fun g187=>?_)
       ·replace hm:=cond_t hm g187
        refine tk_os okM hok fun J hJ=>?_
        simp only [C.f62r18,R,Nat.reduceEqDiff]
        refine hJ _ ?_
        refine tk_ret okM ?_
        refine x186 _ _ (by simp) ?_
        refine x168 _ _ (by simp) (by simp) ?_
        refine x162 _ _ (by simp) ?_
        refine x57 _ _ (by simp) (by simp) ?_
        refine x54 _ _ (by simp) ?_
        refine x36 _ _ (by simp) ?_
        refine x30 _ _ (by simp) (by simp) ?_
        refine x26 _ _ (by simp) ?_
        obtain rfl:=Option.some.inj hm
        exact end_sl1 (P:=Mt.P) (rs:=[(.tmp 2),(.tmp 3)]) (pre:=[]) (post:=[(.bool (false))]) (x:=none) (b:=0) (nb:=H0.length) (.inl rfl) (by rw [← hnb]; exact (slO_nil (c:=(cInt .i64)) (e:=3))) enc_int fm_nil (fm_cons rfl fm_nil) (resT' (v:=(.slice none 0 0)) rfl (resT' (v:=(.bool (false))) rfl resN))
       ·replace hm:=cond_f hm g187
        refine tk_skip okM ?_
        refine n185 _ ?_
        refine tk_oe okM hok fun J hJ=>?_
        obtain ⟨j188,ej188,hm⟩:=bind_s hm
        obtain ⟨mm189,k190⟩:=f80.h.blk (ck_lt ej188).1
        have a191:=lds_one (M:=Mt) (t:=3) k190 T.ag3 (seg_sl enc_int.len mm189 (ck_lt ej188).1)
        obtain ⟨mm192,k193⟩:=f80.h.blk (ck_lt ej181).1
        have a194:=lds_one (M:=Mt) (t:=3) k193 T.ag3 (seg_sl enc_int.len mm192 (ck_lt ej181).1)
        simp only [C.f62r19,R,Nat.reduceEqDiff,s_pt,s_gt,isW,Bool.false_eq_true,if_false,if_true,reduceIte,h40,ia100,ej188,a191,ej181,a194]
        refine hJ _ ?_
        refine n166 _ ?_
        refine n161 _ ?_
        exact ⟨l31,x18_34,Sl.nth x0 j58,IntKind.i64.wrap ((IntKind.i64.wrap (x18_34 - 1)) - (Sl.nth l31 j181)),IntKind.i64.wrap (x18_34 - 1),IntKind.i64.wrap (1 + (IntKind.i64.wrap ((Sl.nth l31 j188) + (Sl.nth l31 j181)))),x17_33,x18_34,b32,hm,h39,h40,rfl,rfl,rfl,rfl,rfl,h41,h42,h43,f79,f80,f76,n46,(f45.h.ne q66),i78⟩
     ·replace hm:=cond_f hm g177
      refine tk_skip okM ?_
      refine n166 _ ?_
      refine n161 _ ?_
      exact ⟨l31,x18_34,Sl.nth x0 j58,0,0,1,x17_33,x18_34,b32,hm,h39,h40,rfl,rfl,rfl,rfl,rfl,h41,h42,h43,f79,f80,f76,n46,(f45.h.ne q66),i78⟩
  ·replace hm:=cond_f hm g52
   refine tk_exit okM ?_
   refine x51 _ _ (by simp) ?_
   refine x36 _ _ (by simp) ?_
   refine e29 _ ?_
   refine n25 _ ?_
   refine tk_os okM hok fun J hJ=>?_
   have a195:=ld_one (M:=Mt) (t:=35) (off:=0 + 0) f44 T.ag35 Seg.refl
   simp only [C.f62r24,R,Nat.reduceEqDiff,fa37_0,h39,a195,ln35]
   refine hJ _ ?_
   refine tk_os okM hok fun J hJ=>?_
   rw [C.f62r25]
   obtain ⟨y201,ey201,hm⟩:=bind_s hm
   refine rn_app_k (fun ⟨σ,H,_⟩=>Lk σ 87 (slV l31 b32) ∧ Lk σ 99 (.bool (y201)) ∧ SlO c.nb H (cInt .i64) 3 l31 b32 ∧ Iv c.nb [] H0 H) (fun J hJ=>?_) ?_
   ·skip
    cases g207:decide (0 ≤ (IntKind.i64.wrap ((Sl.len x0) - 1)))
    ·skip
     have ey201:=cond_f ey201 g207
     obtain rfl:=Option.some.inj ey201
     simp only [C.f62r25p0,R,Nat.reduceEqDiff,s_pt,s_gt,isW,Bool.false_eq_true,if_false,if_true,reduceIte,h40,g207]
     refine hJ _ ?_
     exact ⟨rfl,(by first | rfl | (simp only [g207]; rfl) | simp only [g207,Lk,RB,Nat.reduceEqDiff,not_false_eq_true]),f45,i47⟩
    ·skip
     have ey201:=cond_t ey201 g207
     obtain ⟨j208,ej208,ey201⟩:=bind_s ey201
     obtain ⟨mm209,k210⟩:=f45.h.blk (ck_lt ej208).1
     have a211:=lds_one (M:=Mt) (t:=3) k210 T.ag3 (seg_sl enc_int.len mm209 (ck_lt ej208).1)
     have a212:=ld_one (M:=Mt) (t:=35) (off:=0 + 0) f44 T.ag35 Seg.refl
     obtain rfl:=Option.some.inj ey201
     simp only [C.f62r25p0,R,Nat.reduceEqDiff,s_pt,s_gt,isW,Bool.false_eq_true,if_false,if_true,reduceIte,h40,g207,ia100,ej208,a211,fa37_0,h39,a212,ln35]
     refine hJ _ ?_
     exact ⟨rfl,(by first | rfl | (simp only [g207]; rfl) | simp only [g207,Lk,RB,Nat.reduceEqDiff,not_false_eq_true]),f45,i47⟩
   rintro ⟨σ213,H202,d214⟩ ⟨h203,h204,f205,i206⟩
   simp only [C.f62r25p1,R,Nat.reduceEqDiff,s_pt,s_gt,isW,Bool.false_eq_true,if_false,if_true,reduceIte,h203,h204]
   refine hJ _ ?_
   refine tk_ret okM ?_
   obtain rfl:=Option.some.inj hm
   exact end_sl1 (P:=Mt.P) (rs:=[(.tmp 2),(.tmp 3)]) (pre:=[]) (post:=[(.bool (y201))]) (x:=l31) (b:=b32) (nb:=H0.length) (.inl rfl) (by rw [← hnb]; exact f205) enc_int fm_nil (fm_cons rfl fm_nil) (resT' (v:=(slV l31 b32)) rfl (resT' (v:=(.bool (y201))) rfl resN))
end Go.Proofs.YtaadjlpfdajggaaGreatDoor
