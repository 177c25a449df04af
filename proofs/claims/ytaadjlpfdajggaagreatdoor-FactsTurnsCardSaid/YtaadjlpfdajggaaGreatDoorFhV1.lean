import Derived.Test.YtaadjlpfdajggaaGreatDoorFhBase
set_option maxRecDepth 100000
set_option linter.unusedVariables false
set_option linter.unusedSimpArgs false
namespace Go.Proofs.YtaadjlpfdajggaaGreatDoor
open Go Go.AM
attribute [local congr] bind_first map_first
def b_bp (c_t:T_bu) (c_x:T_bS) (n:Nat) (q1:Sl Int → Int → Int → Option ((Sl Int) × Bool)) (x0:(Sl S_b)) (l81:Sl Int) (x5_83:Int) (x84:S_b) (x7_85:Int) (x8_86:Int) (x9_87:Int) (x17_88:Int) (x18_89:Int):Option ((Sl Int) × Bool):=(c_x x84).bind fun v114=>bif ((!v114) || (!decide (x84.f_A = x7_85))) || (!decide (x84.f_B = x8_86)) then (some (none,false)) else ((ck (Sl.l l81).length x5_83).bind fun j153=>q1 (Sl.put l81 j153 x9_87) x17_88 (IntKind.i64.wrap (x18_89 + 1)))
def b_W (c_t:T_bu) (c_x:T_bS) (n:Nat) (x0:(Sl S_b)):Nat → Sl Int → Int → Int → Option ((Sl Int) × Bool)
 | 0,_,_,_=>none
 | k + 1,l31,x17_33,x18_34=>bif decide (x18_34 < x17_33) then ((ck (Sl.l x0).length x18_34).bind fun j58=>(c_t ((Sl.nth x0 j58).f_Kind)).bind fun v165=>bif decide (v165 = 1) then (bif decide ((IntKind.i64.wrap (x18_34 - 1)) < 0) then (some (none,false)) else ((ck (Sl.l l31).length (IntKind.i64.wrap (x18_34 - 1))).bind fun j173=>b_bp c_t c_x n (b_W c_t c_x n x0 k) x0 l31 x18_34 (Sl.nth x0 j58) (IntKind.i64.wrap (x18_34 - 1)) 0 (IntKind.i64.wrap (1 + (Sl.nth l31 j173))) x17_33 x18_34)) else (bif decide (v165 = 2) then (bif decide ((IntKind.i64.wrap (x18_34 - 1)) < 0) then (some (none,false)) else ((ck (Sl.l l31).length (IntKind.i64.wrap (x18_34 - 1))).bind fun j181=>bif decide ((IntKind.i64.wrap ((IntKind.i64.wrap (x18_34 - 1)) - (Sl.nth l31 j181))) < 0) then (some (none,false)) else ((ck (Sl.l l31).length (IntKind.i64.wrap ((IntKind.i64.wrap (x18_34 - 1)) - (Sl.nth l31 j181)))).bind fun j188=>b_bp c_t c_x n (b_W c_t c_x n x0 k) x0 l31 x18_34 (Sl.nth x0 j58) (IntKind.i64.wrap ((IntKind.i64.wrap (x18_34 - 1)) - (Sl.nth l31 j181))) (IntKind.i64.wrap (x18_34 - 1)) (IntKind.i64.wrap (1 + (IntKind.i64.wrap ((Sl.nth l31 j188) + (Sl.nth l31 j181))))) x17_33 x18_34))) else (b_bp c_t c_x n (b_W c_t c_x n x0 k) x0 l31 x18_34 (Sl.nth x0 j58) 0 0 1 x17_33 x18_34))) else ((bif decide (0 ≤ (IntKind.i64.wrap ((Sl.len x0) - 1))) then ((ck (Sl.l l31).length (IntKind.i64.wrap ((Sl.len x0) - 1))).bind fun j196=>some (decide ((Sl.nth l31 j196) = (Sl.len x0)))) else some false).bind fun y201=>some (l31,y201))
def b_dl (c_t:T_bu) (c_x:T_bS) (n:Nat) (x0:(Sl S_b)):Option ((Sl Int) × Bool):=(Sl.make 8 (Sl.len x0) (Sl.len x0) (0:Int)).bind fun l13=>b_W c_t c_x n x0 n l13 (Sl.len x0) 0
theorem w_gF {call:CallF} (hok:CallOk Mt call) {n:Nat} {c_t:T_bu} (z_ec:A_ez call c_t) {c_x:T_bS} (z_fp:A_d9 call c_x) {H0:Hp} {x0:(Sl S_b)} {b0:Nat} {r:(Sl Int) × Bool} {ro:Nat} (hro:ro ≤ H0.length) (h0:SlH H0 S_b.c 72 x0 b0) (hm:b_dl c_t c_x n x0 = some r) :
  Pt Mt ro 62 [(vAgg [slV x0 b0])] H0 (.tuple [(slV r.1 H0.length),(.bool (r.2))].toArray) (H0 ++ slB (cInt .i64) 3 r.1) []:=by
 refine pt_new okM F62d (by exact Nat.le_of_ble_eq_true rfl) ?_ hro
 intro c hnt hnb hcr
 have hcn:c.ro ≤ c.nb:=by omega
 have l0:x0 ≠ none → b0 < c.nb:=fun h=>by rw [hnb]; exact h0.lt h
 have iv:Iv c.nb [] H0 H0:=by rw [hnb]; exact iv_refl
 rw [show args0 [(vAgg [slV x0 b0])] = [(0,(vAgg [slV x0 b0]))] from rfl]
 rw [b_dl] at hm
 simp only [C.f62,C.f62b0]
 refine tk_os okM hok fun J hJ=>?_
 obtain ⟨b2,H3,a4,f5,q6,r7,x8,i9⟩:=bx_ok (M:=Mt) (t:=37) (u:=(vAgg [(slV x0 b0)])) (cs:=[(slV x0 b0)]) H0 iv.le T.sz37 vAgg_cells one_sl
 have i10:=i9 _ _ iv
 simp only [C.f62r0,R,Nat.reduceEqDiff,a4]
 refine hJ _ ?_
 refine tk_os okM hok fun J hJ=>?_
 have a12:=ld_one (M:=Mt) (t:=35) (off:=0 + 0) f5 T.ag35 Seg.refl
 obtain ⟨l13,el13,hm⟩:=bind_s hm
 obtain ⟨b14,H15,a16,f17,q18,r19,x20,i21⟩:=mk_ok (M:=Mt) (t:=100) (e:=3) (k:=.i64) (k':=.i64) H3 i10.le Tryz.underlying100 T.by3 zs3 el13
 have i22:=i21 _ _ i10
 have f23:=x20 _ _ f5
 simp only [C.f62r1,R,Nat.reduceEqDiff,fa37_0,a12,ln35,o_makeSlice,a16]
 refine hJ _ ?_
 refine tk_seq_k fun K n25 x26=>?_
 refine tk_os okM hok fun J hJ=>?_
 have a27:=ld_one (M:=Mt) (t:=35) (off:=0 + 0) f23 T.ag35 Seg.refl
 simp only [C.f62r2,R,Nat.reduceEqDiff,fa37_0,a27,ln35]
 refine hJ _ ?_
 refine tk_block_k fun K n28 e29 x30=>?_
 refine tk_loop_k (n:=n) (fun k1 ⟨σ,H,_⟩=>∃ l31 x17_33 x18_34 b32,b_W c_t c_x n x0 k1 l31 x17_33 x18_34 = some r ∧ Lk σ 1 (.pointer (some ⟨b2,0,none⟩)) ∧ Lk σ 4 (slV l31 b32) ∧ Lk σ 16 (slV x0 b0) ∧ Lk σ 17 (.int .i64 x17_33) ∧ Lk σ 18 (.int .i64 x18_34) ∧ H[b2]? = some (.cells [(slV x0 b0)] 37) ∧ SlO c.nb H (cInt .i64) 3 l31 b32 ∧ (l31 ≠ none → b32 ≠ b2) ∧ Iv c.nb [] H0 H) ?_ ?_ ?_
 ·exact ⟨l13,Sl.len x0,0,b14,hm,rfl,rfl,rfl,rfl,rfl,f23,f17,(fun _=>(ne_len f5 q18).symm),i22⟩
 ·rintro ⟨σ,H,d⟩ ⟨_,_,_,_,hm,_⟩
  cases hm
 ·intro k1 K n35 x36
  rintro ⟨σ48,H37,d49⟩ ⟨l31,x17_33,x18_34,b32,hm,h39,h40,h41,h42,h43,f44,f45,n46,i47⟩
  rw [b_W.eq_2] at hm
  refine tk_os okM hok fun J hJ=>?_
  simp only [C.f62r3,R,Nat.reduceEqDiff,h43,h42]
  refine hJ _ ?_
  refine tk_seq_k fun K n50 x51=>?_
  refine tk_cond (t:=decide (x18_34 < x17_33)) rfl (fun g52=>?_) (fun g52=>?_)
  ·replace hm:=cond_t hm g52
   refine tk_skip okM ?_
   refine n50 _ ?_
   refine tk_seq_k fun K n53 x54=>?_
   refine tk_block_k fun K n55 e56 x57=>?_
   refine tk_os okM hok fun J hJ=>?_
   obtain ⟨j58,ej58,hm⟩:=bind_s hm
   obtain ⟨mm59,k60⟩:=(h0.iv l0 (fun _=>by simp) i47).blk (ck_lt ej58).1
   have a61:=lds_agg (M:=Mt) (t:=72) k60 T.ag72 (by rw [S_b.enc.len]; exact T.sz72) (seg_sl S_b.enc.len mm59 (ck_lt ej58).1)
   obtain ⟨b62,H63,a64,f65,q66,r67,x68,i69⟩:=al_ok H37 72 (S_b.c S_b.zero) i47.le
   have i70:=i69 _ _ i47
   have f71:=x68 _ _ f44
   have f72:=f45.ex x68
   obtain ⟨H74,a75,f76,u77⟩:=st_ok (M:=Mt) (t:=72) (v:=(vAgg (S_b.c (Sl.nth x0 j58)))) (c:=S_b.c (Sl.nth x0 j58)) (cs':=S_b.c (Sl.nth x0 j58)) f65 (by rw [S_b.enc.len]; exact T.sz72) vAgg_cells (S_b.enc.one _) (Nat.le_trans hcn r67) (le0 S_b.enc.len) (wrs_all (eqL S_b.enc.len))
   have i78:=i70.up u77 r67
   have f79:=(u77.get _ (ne_len f44 q66)).trans f71
   have f80:=f72.up u77 (f45.h.ne q66)
   simp only [C.f62r4,R,Nat.reduceEqDiff,h43,ia35,ej58,h41,a61,zs72,a64,a75]
   refine hJ _ ?_
   refine tk_os okM hok fun J hJ=>?_
   simp only [C.f62r5,R,Nat.reduceEqDiff]
   refine hJ _ ?_
   refine tk_seq_j (fun ⟨σ,H,_⟩=>∃ l81 x5_83 x84 x7_85 x8_86 x9_87 x17_88 x18_89 b82,b_bp c_t c_x n (b_W c_t c_x n x0 k1) x0 l81 x5_83 x84 x7_85 x8_86 x9_87 x17_88 x18_89 = some r ∧ Lk σ 1 (.pointer (some ⟨b2,0,none⟩)) ∧ Lk σ 4 (slV l81 b82) ∧ Lk σ 5 (.int .i64 x5_83) ∧ Lk σ 6 (.pointer (some ⟨b62,0,none⟩)) ∧ Lk σ 7 (.int .i64 x7_85) ∧ Lk σ 8 (.int .i64 x8_86) ∧ Lk σ 9 (.int .i64 x9_87) ∧ Lk σ 16 (slV x0 b0) ∧ Lk σ 17 (.int .i64 x17_88) ∧ Lk σ 18 (.int .i64 x18_89) ∧ H[b2]? = some (.cells [(slV x0 b0)] 37) ∧ SlO c.nb H (cInt .i64) 3 l81 b82 ∧ H[b62]? = some (.cells (S_b.c x84) 72) ∧ (l81 ≠ none → b82 ≠ b2) ∧ (l81 ≠ none → b82 ≠ b62) ∧ Iv c.nb [] H0 H) ?_ ?_
   ·skip
    rintro ⟨σ108,H90,d109⟩ ⟨l81,x5_83,x84,x7_85,x8_86,x9_87,x17_88,x18_89,b82,hm,h92,h93,h94,h95,h96,h97,h98,h99,h100,h101,f102,f103,f104,n105,n106,i107⟩
    rw [b_bp] at hm
    refine tk_seq_k fun K n110 x111=>?_
    refine tk_os okM hok fun J hJ=>?_
    rw [C.f62r20]
    have a112:=ld_agg (M:=Mt) (t:=72) f104 T.ag72 (by rw [S_b.enc.len]; exact T.sz72) Seg.refl
    obtain ⟨v114,ev114,hm⟩:=bind_s hm
    have a113:=z_fp c.ro H90 x84 v114 ev114
    refine rn_app_k (fun ⟨σ,H,_⟩=>Lk σ 1 (.pointer (some ⟨b2,0,none⟩)) ∧ Lk σ 4 (slV l81 b82) ∧ Lk σ 5 (.int .i64 (x5_83)) ∧ Lk σ 6 (.pointer (some ⟨b62,0,none⟩)) ∧ Lk σ 8 (.int .i64 (x8_86)) ∧ Lk σ 9 (.int .i64 (x9_87)) ∧ Lk σ 16 (slV x0 b0) ∧ Lk σ 17 (.int .i64 (x17_88)) ∧ Lk σ 18 (.int .i64 (x18_89)) ∧ Lk σ 71 (.bool ((!v114) || (!decide (x84.f_A = x7_85)))) ∧ H[b2]? = some (.cells [(slV x0 b0)] 37) ∧ SlO c.nb H (cInt .i64) 3 l81 b82 ∧ H[b62]? = some (.cells (S_b.c x84) 72) ∧ Iv c.nb [] H0 H) (fun J hJ=>?_) ?_
    ·skip
     cases g131:!v114
     ·skip
      have a132:=ld_one (M:=Mt) (t:=3) f104 T.ag3 (Seg.refl.sub (S_b.seg1 x84))
      simp only [C.f62r20p0,R,Nat.reduceEqDiff,a112,h95,c_fn F97,a113,g131,fa72_1,a132,h96]
      refine hJ _ ?_
      exact ⟨h92,h93,h94,h95,h97,h98,h99,h100,h101,(by first | rfl | (simp only [g131]; rfl) | simp only [g131,Lk,RB,Nat.reduceEqDiff,not_false_eq_true]),f102,f103,f104,i107⟩
     ·skip
      simp only [C.f62r20p0,R,Nat.reduceEqDiff,a112,h95,c_fn F97,a113,g131]
      refine hJ _ ?_
      exact ⟨h92,h93,h94,h95,h97,h98,h99,h100,h101,(by first | rfl | (simp only [g131]; rfl) | simp only [g131,Lk,RB,Nat.reduceEqDiff,not_false_eq_true]),f102,f103,f104,i107⟩
    rintro ⟨σ133,H116,d134⟩ ⟨h117,h118,h119,h120,h121,h122,h123,h124,h125,h126,f127,f128,f129,i130⟩
    refine rn_k (fun ⟨σ,H,_⟩=>Lk σ 1 (.pointer (some ⟨b2,0,none⟩)) ∧ Lk σ 4 (slV l81 b82) ∧ Lk σ 5 (.int .i64 (x5_83)) ∧ Lk σ 9 (.int .i64 (x9_87)) ∧ Lk σ 16 (slV x0 b0) ∧ Lk σ 17 (.int .i64 (x17_88)) ∧ Lk σ 18 (.int .i64 (x18_89)) ∧ Lk σ 77 (.bool (((!v114) || (!decide (x84.f_A = x7_85))) || (!decide (x84.f_B = x8_86)))) ∧ H[b2]? = some (.cells [(slV x0 b0)] 37) ∧ SlO c.nb H (cInt .i64) 3 l81 b82 ∧ Iv c.nb [] H0 H) (fun J hJ=>?_) ?_
    ·skip
     cases g148:(!v114) || (!decide (x84.f_A = x7_85))
     ·skip
      have a149:=ld_one (M:=Mt) (t:=3) f129 T.ag3 (Seg.refl.sub (S_b.seg2 x84))
      simp only [C.f62r20p1,R,Nat.reduceEqDiff,h126,g148,fa72_2,h120,a149,h121]
      refine hJ _ ?_
      exact ⟨h117,h118,h119,h122,h123,h124,h125,(by first | rfl | (simp only [g148]; rfl) | simp only [g148,Lk,RB,Nat.reduceEqDiff,not_false_eq_true]),f127,f128,i130⟩
     ·skip
      simp only [C.f62r20p1,R,Nat.reduceEqDiff,h126,g148]
      refine hJ _ ?_
      exact ⟨h117,h118,h119,h122,h123,h124,h125,(by first | rfl | (simp only [g148]; rfl) | simp only [g148,Lk,RB,Nat.reduceEqDiff,not_false_eq_true]),f127,f128,i130⟩
    rintro ⟨σ150,H136,d151⟩ ⟨h137,h138,h139,h140,h141,h142,h143,h144,f145,f146,i147⟩
    refine hJ _ ?_
    refine tk_cond (t:=((!v114) || (!decide (x84.f_A = x7_85))) || (!decide (x84.f_B = x8_86))) h144 (fun g152=>?_) (fun g152=>?_)
    ·replace hm:=cond_t hm g152
     refine tk_os okM hok fun J hJ=>?_
     simp only [C.f62r21,R,Nat.reduceEqDiff]
     refine hJ _ ?_
     refine tk_ret okM ?_
     refine x111 _ _ (by simp) ?_
     refine x57 _ _ (by simp) (by simp) ?_
     refine x54 _ _ (by simp) ?_
     refine x36 _ _ (by simp) ?_
     refine x30 _ _ (by simp) (by simp) ?_
     refine x26 _ _ (by simp) ?_
     obtain rfl:=Option.some.inj hm
     exact end_sl1 (P:=Mt.P) (rs:=[(.tmp 2),(.tmp 3)]) (pre:=[]) (post:=[(.bool (false))]) (x:=none) (b:=0) (nb:=H0.length) (.inl rfl) (by rw [← hnb]; exact (slO_nil (c:=(cInt .i64)) (e:=3))) enc_int fm_nil (fm_cons rfl fm_nil) (resT' (v:=(.slice none 0 0)) rfl (resT' (v:=(.bool (false))) rfl resN))
    ·replace hm:=cond_f hm g152
     refine tk_skip okM ?_
     refine n110 _ ?_
     refine tk_oe okM hok fun J hJ=>?_
     obtain ⟨j153,ej153,hm⟩:=bind_s hm
     obtain ⟨H154,a155,f156,u157⟩:=st_sl0 (M:=Mt) (t:=3) (v:=(.int .i64 (x9_87))) (y:=x9_87) enc_int.len f146 (ck_lt ej153).1 (by rw [enc_int.len]; exact T.sz3) rfl (enc_int.one _) hcn
     have i158:=i147.up u157 (f146.some (ck_lt ej153).1).1
     have z159:l81 ≠ none:=sl_some (j:=j153) (ck_lt ej153).1
     have f160:=(u157.get _ (n105 z159).symm).trans f145
     simp only [C.f62r22,R,Nat.reduceEqDiff,h138,h139,h140,ia100,ej153,a155]
     refine hJ _ ?_
     refine n55 _ ?_
     refine n53 _ ?_
     refine tk_oe okM hok fun J hJ=>?_
     simp only [C.f62r23,R,Nat.reduceEqDiff,h143]
     refine hJ _ ?_
     refine n35 _ ?_
     exact ⟨Sl.put l81 j153 x9_87,x17_88,IntKind.i64.wrap (x18_89 + 1),b82,hm,h137,(lk_eq (by simp only [slV_put,slV_copy]) h138),h141,h142,rfl,f160,f156,(fun h=>n105 (by simpa only [Sl.put_none,Sl.copy_none] using h)),i158⟩
   ·refine fun K n161 x162=>?_
    refine tk_os okM hok fun J hJ=>?_
    have a163:=ld_one (M:=Mt) (t:=3) f76 T.ag3 (Seg.refl.sub (S_b.seg0 (Sl.nth x0 j58)))
    obtain ⟨v165,ev165,hm⟩:=bind_s hm
    have a164:=z_ec c.ro H74 ((Sl.nth x0 j58).f_Kind) v165 ev165
    simp only [C.f62r6,R,Nat.reduceEqDiff,fa72_0,a163,c_fn F66,a164]
    refine hJ _ ?_
    refine tk_block_k fun K n166 e167 x168=>?_
    refine tk_os okM hok fun J hJ=>?_
    simp only [C.f62r7,R,Nat.reduceEqDiff]
    refine hJ _ ?_
    refine tk_cond (t:=decide (v165 = 1)) rfl (fun g169=>?_) (fun g169=>?_)
    ·replace hm:=cond_t hm g169
     refine tk_os okM hok fun J hJ=>?_
     simp only [C.f62r8,R,Nat.reduceEqDiff]
     refine hJ _ ?_
     refine tk_seq_k fun K n170 x171=>?_
     refine tk_os okM hok fun J hJ=>?_
     simp only [C.f62r9,R,Nat.reduceEqDiff]
     refine hJ _ ?_
     refine tk_cond (t:=decide ((IntKind.i64.wrap (x18_34 - 1)) < 0)) rfl (fun g172=>?_) (fun g172=>?_)
     ·replace hm:=cond_t hm g172
      refine tk_os okM hok fun J hJ=>?_
      simp only [C.f62r10,R,Nat.reduceEqDiff]
      refine hJ _ ?_
      refine tk_ret okM ?_
      refine x171 _ _ (by simp) ?_
      refine x168 _ _ (by simp) (by simp) ?_
      refine x162 _ _ (by simp) ?_
      refine x57 _ _ (by simp) (by simp) ?_
      refine x54 _ _ (by simp) ?_
      refine x36 _ _ (by simp) ?_
      refine x30 _ _ (by simp) (by simp) ?_
      refine x26 _ _ (by simp) ?_
      obtain rfl:=Option.some.inj hm
      exact end_sl1 (P:=Mt.P) (rs:=[(.tmp 2),(.tmp 3)]) (pre:=[]) (post:=[(.bool (false))]) (x:=none) (b:=0) (nb:=H0.length) (.inl rfl) (by rw [← hnb]; exact (slO_nil (c:=(cInt .i64)) (e:=3))) enc_int fm_nil (fm_cons rfl fm_nil) (resT' (v:=(.slice none 0 0)) rfl (resT' (v:=(.bool (false))) rfl resN))
     ·replace hm:=cond_f hm g172
      refine tk_skip okM ?_
      refine n170 _ ?_
      refine tk_oe okM hok fun J hJ=>?_
      obtain ⟨j173,ej173,hm⟩:=bind_s hm
      obtain ⟨mm174,k175⟩:=f80.h.blk (ck_lt ej173).1
      have a176:=lds_one (M:=Mt) (t:=3) k175 T.ag3 (seg_sl enc_int.len mm174 (ck_lt ej173).1)
      simp only [C.f62r11,R,Nat.reduceEqDiff,h40,ia100,ej173,a176]
      refine hJ _ ?_
      refine n166 _ ?_
      refine n161 _ ?_
      exact ⟨l31,x18_34,Sl.nth x0 j58,IntKind.i64.wrap (x18_34 - 1),0,IntKind.i64.wrap (1 + (Sl.nth l31 j173)),x17_33,x18_34,b32,hm,h39,h40,rfl,rfl,rfl,rfl,rfl,h41,h42,h43,f79,f80,f76,n46,(f45.h.ne q66),i78⟩
    ·replace hm:=cond_f hm g169
     refine tk_os okM hok fun J hJ=>?_
     simp only [C.f62r12,R,Nat.reduceEqDiff]
     refine hJ _ ?_
     refine tk_cond (t:=decide (v165 = 2)) rfl (fun g177=>?_) (fun g177=>?_)
     ·replace hm:=cond_t hm g177
      refine tk_os okM hok fun J hJ=>?_
      simp only [C.f62r13,R,Nat.reduceEqDiff]
      refine hJ _ ?_
      refine tk_seq_k fun K n178 x179=>?_
      refine tk_os okM hok fun J hJ=>?_
      simp only [C.f62r14,R,Nat.reduceEqDiff]
      refine hJ _ ?_
      refine tk_cond (t:=decide ((IntKind.i64.wrap (x18_34 - 1)) < 0)) rfl (fun g180=>?_) (fun g180=>?_)
      ·replace hm:=cond_t hm g180
       refine tk_os okM hok fun J hJ=>?_
       simp only [C.f62r15,R,Nat.reduceEqDiff]
       refine hJ _ ?_
       refine tk_ret okM ?_
       refine x179 _ _ (by simp) ?_
       refine x168 _ _ (by simp) (by simp) ?_
       refine x162 _ _ (by simp) ?_
       refine x57 _ _ (by simp) (by simp) ?_
       refine x54 _ _ (by simp) ?_
       refine x36 _ _ (by simp) ?_
       refine x30 _ _ (by simp) (by simp) ?_
       refine x26 _ _ (by simp) ?_
       obtain rfl:=Option.some.inj hm
       exact end_sl1 (P:=Mt.P) (rs:=[(.tmp 2),(.tmp 3)]) (pre:=[]) (post:=[(.bool (false))]) (x:=none) (b:=0) (nb:=H0.length) (.inl rfl) (by rw [← hnb]; exact (slO_nil (c:=(cInt .i64)) (e:=3))) enc_int fm_nil (fm_cons rfl fm_nil) (resT' (v:=(.slice none 0 0)) rfl (resT' (v:=(.bool (false))) rfl resN))
      ·replace hm:=cond_f hm g180
       refine tk_skip okM ?_
       refine n178 _ ?_
       refine tk_os okM hok fun J hJ=>?_
       obtain ⟨j181,ej181,hm⟩:=bind_s hm
       obtain ⟨mm182,k183⟩:=f80.h.blk (ck_lt ej181).1
       have a184:=lds_one (M:=Mt) (t:=3) k183 T.ag3 (seg_sl enc_int.len mm182 (ck_lt ej181).1)
       simp only [C.f62r16,R,Nat.reduceEqDiff,h40,ia100,ej181,a184]
       refine hJ _ ?_
       refine tk_seq_k fun K n185 x186=>?_
       refine tk_os okM hok fun J hJ=>?_
       simp only [C.f62r17,R,Nat.reduceEqDiff]
       refine hJ _ ?_
       refine tk_cond (t:=decide ((IntKind.i64.wrap ((IntKind.i64.wrap (x18_34 - 1)) - (Sl.nth l31 j181))) < 0)) rfl (fun g187=>?_) (fun g187=>?_)
       ·replace hm:=cond_t hm g187
        refine tk_os okM hok fun J hJ=>?_
        simp only [C.f62r18,R,Nat.reduceEqDiff]
        refine hJ _ ?_
        refine tk_ret okM ?_
        refine x186 _ _ (by simp) ?_
        refine x168 _ _ (by simp) (by simp) ?_
        refine x162 _ _ (by simp) ?_
        refine x57 _ _ (by simp) (by simp) ?_
        refine x54 _ _ (by simp) ?_
        refine x36 _ _ (by simp) ?_
        refine x30 _ _ (by simp) (by simp) ?_
        refine x26 _ _ (by simp) ?_
        obtain rfl:=Option.some.inj hm
        exact end_sl1 (P:=Mt.P) (rs:=[(.tmp 2),(.tmp 3)]) (pre:=[]) (post:=[(.bool (false))]) (x:=none) (b:=0) (nb:=H0.length) (.inl rfl) (by rw [← hnb]; exact (slO_nil (c:=(cInt .i64)) (e:=3))) enc_int fm_nil (fm_cons rfl fm_nil) (resT' (v:=(.slice none 0 0)) rfl (resT' (v:=(.bool (false))) rfl resN))
       ·replace hm:=cond_f hm g187
        refine tk_skip okM ?_
        refine n185 _ ?_
        refine tk_oe okM hok fun J hJ=>?_
        obtain ⟨j188,ej188,hm⟩:=bind_s hm
        obtain ⟨mm189,k190⟩:=f80.h.blk (ck_lt ej188).1
        have a191:=lds_one (M:=Mt) (t:=3) k190 T.ag3 (seg_sl enc_int.len mm189 (ck_lt ej188).1)
        obtain ⟨mm192,k193⟩:=f80.h.blk (ck_lt ej181).1
        have a194:=lds_one (M:=Mt) (t:=3) k193 T.ag3 (seg_sl enc_int.len mm192 (ck_lt ej181).1)
        simp only [C.f62r19,R,Nat.reduceEqDiff,s_pt,s_gt,isW,Bool.false_eq_true,if_false,if_true,reduceIte,h40,ia100,ej188,a191,ej181,a194]
        refine hJ _ ?_
        refine n166 _ ?_
        refine n161 _ ?_
        exact ⟨l31,x18_34,Sl.nth x0 j58,IntKind.i64.wrap ((IntKind.i64.wrap (x18_34 - 1)) - (Sl.nth l31 j181)),IntKind.i64.wrap (x18_34 - 1),IntKind.i64.wrap (1 + (IntKind.i64.wrap ((Sl.nth l31 j188) + (Sl.nth l31 j181)))),x17_33,x18_34,b32,hm,h39,h40,rfl,rfl,rfl,rfl,rfl,h41,h42,h43,f79,f80,f76,n46,(f45.h.ne q66),i78⟩
     ·replace hm:=cond_f hm g177
      refine tk_skip okM ?_
      refine n166 _ ?_
      refine n161 _ ?_
      exact ⟨l31,x18_34,Sl.nth x0 j58,0,0,1,x17_33,x18_34,b32,hm,h39,h40,rfl,rfl,rfl,rfl,rfl,h41,h42,h43,f79,f80,f76,n46,(f45.h.ne q66),i78⟩
  ·replace hm:=cond_f hm g52
   refine tk_exit okM ?_
   refine x51 _ _ (by simp) ?_
   refine x36 _ _ (by simp) ?_
   refine e29 _ ?_
   refine n25 _ ?_
   refine tk_os okM hok fun J hJ=>?_
   have a195:=ld_one (M:=Mt) (t:=35) (off:=0 + 0) f44 T.ag35 Seg.refl
   simp only [C.f62r24,R,Nat.reduceEqDiff,fa37_0,h39,a195,ln35]
   refine hJ _ ?_
   refine tk_os okM hok fun J hJ=>?_
   rw [C.f62r25]
   obtain ⟨y201,ey201,hm⟩:=bind_s hm
   refine rn_app_k (fun ⟨σ,H,_⟩=>Lk σ 87 (slV l31 b32) ∧ Lk σ 99 (.bool (y201)) ∧ SlO c.nb H (cInt .i64) 3 l31 b32 ∧ Iv c.nb [] H0 H) (fun J hJ=>?_) ?_
   ·skip
    cases g207:decide (0 ≤ (IntKind.i64.wrap ((Sl.len x0) - 1)))
    ·skip
     have ey201:=cond_f ey201 g207
     obtain rfl:=Option.some.inj ey201
     simp only [C.f62r25p0,R,Nat.reduceEqDiff,s_pt,s_gt,isW,Bool.false_eq_true,if_false,if_true,reduceIte,h40,g207]
     refine hJ _ ?_
     exact ⟨rfl,(by first | rfl | (simp only [g207]; rfl) | simp only [g207,Lk,RB,Nat.reduceEqDiff,not_false_eq_true]),f45,i47⟩
    ·skip
     have ey201:=cond_t ey201 g207
     obtain ⟨j208,ej208,ey201⟩:=bind_s ey201
     obtain ⟨mm209,k210⟩:=f45.h.blk (ck_lt ej208).1
     have a211:=lds_one (M:=Mt) (t:=3) k210 T.ag3 (seg_sl enc_int.len mm209 (ck_lt ej208).1)
     have a212:=ld_one (M:=Mt) (t:=35) (off:=0 + 0) f44 T.ag35 Seg.refl
     obtain rfl:=Option.some.inj ey201
     simp only [C.f62r25p0,R,Nat.reduceEqDiff,s_pt,s_gt,isW,Bool.false_eq_true,if_false,if_true,reduceIte,h40,g207,ia100,ej208,a211,fa37_0,h39,a212,ln35]
     refine hJ _ ?_
     exact ⟨rfl,(by first | rfl | (simp only [g207]; rfl) | simp only [g207,Lk,RB,Nat.reduceEqDiff,not_false_eq_true]),f45,i47⟩
   rintro ⟨σ213,H202,d214⟩ ⟨h203,h204,f205,i206⟩
   simp only [C.f62r25p1,R,Nat.reduceEqDiff,s_pt,s_gt,isW,Bool.false_eq_true,if_false,if_true,reduceIte,h203,h204]
   refine hJ _ ?_
   refine tk_ret okM ?_
   obtain rfl:=Option.some.inj hm
   exact end_sl1 (P:=Mt.P) (rs:=[(.tmp 2),(.tmp 3)]) (pre:=[]) (post:=[(.bool (y201))]) (x:=l31) (b:=b32) (nb:=H0.length) (.inl rfl) (by rw [← hnb]; exact f205) enc_int fm_nil (fm_cons rfl fm_nil) (resT' (v:=(slV l31 b32)) rfl (resT' (v:=(.bool (y201))) rfl resN))
def b_5 (c_t:T_bu) (n:Nat) (q1:Sl Int → Int → Int → Option ((Sl Int))) (x0:(Sl S_b)) (l50:Sl Int) (x12_52:Int) (x13_53:Int):Option ((Sl Int)):=q1 l50 x12_52 (IntKind.i64.wrap (x13_53 + 1))
def b_R (c_t:T_bu) (n:Nat) (x0:(Sl S_b)):Nat → Sl Int → Int → Int → Option ((Sl Int))
 | 0,_,_,_=>none
 | k + 1,l31,x12_33,x13_34=>bif decide (x13_34 < x12_33) then ((ck (Sl.l x0).length x13_34).bind fun j69=>(c_t ((Sl.nth x0 j69).f_Kind)).bind fun v92=>bif decide (v92 = 0) then ((ck (Sl.l l31).length x13_34).bind fun j97=>b_5 c_t n (b_R c_t n x0 k) x0 (Sl.put l31 j97 1) x12_33 x13_34) else (bif decide (v92 = 1) then ((ck (Sl.l l31).length ((Sl.nth x0 j69).f_A)).bind fun j107=>(ck (Sl.l l31).length x13_34).bind fun j111=>b_5 c_t n (b_R c_t n x0 k) x0 (Sl.put l31 j111 (IntKind.i64.wrap (1 + (Sl.nth l31 j107)))) x12_33 x13_34) else ((ck (Sl.l l31).length ((Sl.nth x0 j69).f_A)).bind fun j120=>(ck (Sl.l l31).length ((Sl.nth x0 j69).f_B)).bind fun j125=>(ck (Sl.l l31).length x13_34).bind fun j129=>b_5 c_t n (b_R c_t n x0 k) x0 (Sl.put l31 j129 (IntKind.i64.wrap (1 + (max (Sl.nth l31 j120) (Sl.nth l31 j125))))) x12_33 x13_34))) else (some l31)
def b_c8 (c_t:T_bu) (n:Nat) (x0:(Sl S_b)):Option ((Sl Int)):=(Sl.make 8 (Sl.len x0) (Sl.len x0) (0:Int)).bind fun l13=>b_R c_t n x0 n l13 (Sl.len x0) 0
theorem w_gl {call:CallF} (hok:CallOk Mt call) {n:Nat} {c_t:T_bu} (z_ec:A_ez call c_t) {H0:Hp} {x0:(Sl S_b)} {b0:Nat} {r:(Sl Int)} {ro:Nat} (hro:ro ≤ H0.length) (h0:SlH H0 S_b.c 72 x0 b0) (hm:b_c8 c_t n x0 = some r) :
  Pt Mt ro 63 [(vAgg [slV x0 b0])] H0 (slV r H0.length) (H0 ++ slB (cInt .i64) 3 r) []:=by
 refine pt_new okM F63d (by exact Nat.le_of_ble_eq_true rfl) ?_ hro
 intro c hnt hnb hcr
 have hcn:c.ro ≤ c.nb:=by omega
 have l0:x0 ≠ none → b0 < c.nb:=fun h=>by rw [hnb]; exact h0.lt h
 have iv:Iv c.nb [] H0 H0:=by rw [hnb]; exact iv_refl
 rw [show args0 [(vAgg [slV x0 b0])] = [(0,(vAgg [slV x0 b0]))] from rfl]
 rw [b_c8] at hm
 simp only [C.f63,C.f63b0]
 refine tk_os okM hok fun J hJ=>?_
 obtain ⟨b2,H3,a4,f5,q6,r7,x8,i9⟩:=bx_ok (M:=Mt) (t:=37) (u:=(vAgg [(slV x0 b0)])) (cs:=[(slV x0 b0)]) H0 iv.le T.sz37 vAgg_cells one_sl
 have i10:=i9 _ _ iv
 simp only [C.f63r0,R,Nat.reduceEqDiff,a4]
 refine hJ _ ?_
 refine tk_os okM hok fun J hJ=>?_
 have a12:=ld_one (M:=Mt) (t:=35) (off:=0 + 0) f5 T.ag35 Seg.refl
 obtain ⟨l13,el13,hm⟩:=bind_s hm
 obtain ⟨b14,H15,a16,f17,q18,r19,x20,i21⟩:=mk_ok (M:=Mt) (t:=100) (e:=3) (k:=.i64) (k':=.i64) H3 i10.le Tryz.underlying100 T.by3 zs3 el13
 have i22:=i21 _ _ i10
 have f23:=x20 _ _ f5
 simp only [C.f63r1,R,Nat.reduceEqDiff,fa37_0,a12,ln35,o_makeSlice,a16]
 refine hJ _ ?_
 refine tk_seq_k fun K n25 x26=>?_
 refine tk_os okM hok fun J hJ=>?_
 have a27:=ld_one (M:=Mt) (t:=35) (off:=0 + 0) f23 T.ag35 Seg.refl
 simp only [C.f63r2,R,Nat.reduceEqDiff,fa37_0,a27,ln35]
 refine hJ _ ?_
 refine tk_block_k fun K n28 e29 x30=>?_
 refine tk_loop_k (n:=n) (fun k1 ⟨σ,H,_⟩=>∃ l31 x12_33 x13_34 b32,b_R c_t n x0 k1 l31 x12_33 x13_34 = some r ∧ Lk σ 3 (slV l31 b32) ∧ Lk σ 11 (slV x0 b0) ∧ Lk σ 12 (.int .i64 x12_33) ∧ Lk σ 13 (.int .i64 x13_34) ∧ SlO c.nb H (cInt .i64) 3 l31 b32 ∧ Iv c.nb [] H0 H) ?_ ?_ ?_
 ·exact ⟨l13,Sl.len x0,0,b14,hm,rfl,rfl,rfl,rfl,f17,i22⟩
 ·rintro ⟨σ,H,d⟩ ⟨_,_,_,_,hm,_⟩
  cases hm
 ·intro k1 K n35 x36
  rintro ⟨σ45,H37,d46⟩ ⟨l31,x12_33,x13_34,b32,hm,h39,h40,h41,h42,f43,i44⟩
  rw [b_R.eq_2] at hm
  refine tk_os okM hok fun J hJ=>?_
  simp only [C.f63r3,R,Nat.reduceEqDiff,h42,h41]
  refine hJ _ ?_
  refine tk_seq_k fun K n47 x48=>?_
  refine tk_cond (t:=decide (x13_34 < x12_33)) rfl (fun g49=>?_) (fun g49=>?_)
  ·replace hm:=cond_t hm g49
   refine tk_skip okM ?_
   refine n47 _ ?_
   refine tk_seq_j (fun ⟨σ,H,_⟩=>∃ l50 x12_52 x13_53 b51,b_5 c_t n (b_R c_t n x0 k1) x0 l50 x12_52 x13_53 = some r ∧ Lk σ 3 (slV l50 b51) ∧ Lk σ 11 (slV x0 b0) ∧ Lk σ 12 (.int .i64 x12_52) ∧ Lk σ 13 (.int .i64 x13_53) ∧ SlO c.nb H (cInt .i64) 3 l50 b51 ∧ Iv c.nb [] H0 H) ?_ ?_
   ·skip
    rintro ⟨σ62,H54,d63⟩ ⟨l50,x12_52,x13_53,b51,hm,h56,h57,h58,h59,f60,i61⟩
    rw [b_5] at hm
    refine tk_oe okM hok fun J hJ=>?_
    simp only [C.f63r11,R,Nat.reduceEqDiff,h59]
    refine hJ _ ?_
    refine n35 _ ?_
    exact ⟨l50,x12_52,IntKind.i64.wrap (x13_53 + 1),b51,hm,h56,h57,h58,rfl,f60,i61⟩
   ·refine fun K n64 x65=>?_
    refine tk_block_k fun K n66 e67 x68=>?_
    refine tk_os okM hok fun J hJ=>?_
    obtain ⟨j69,ej69,hm⟩:=bind_s hm
    obtain ⟨mm70,k71⟩:=(h0.iv l0 (fun _=>by simp) i44).blk (ck_lt ej69).1
    have a72:=lds_agg (M:=Mt) (t:=72) k71 T.ag72 (by rw [S_b.enc.len]; exact T.sz72) (seg_sl S_b.enc.len mm70 (ck_lt ej69).1)
    obtain ⟨b73,H74,a75,f76,q77,r78,x79,i80⟩:=al_ok H37 72 (S_b.c S_b.zero) i44.le
    have i81:=i80 _ _ i44
    have f82:=f43.ex x79
    obtain ⟨H84,a85,f86,u87⟩:=st_ok (M:=Mt) (t:=72) (v:=(vAgg (S_b.c (Sl.nth x0 j69)))) (c:=S_b.c (Sl.nth x0 j69)) (cs':=S_b.c (Sl.nth x0 j69)) f76 (by rw [S_b.enc.len]; exact T.sz72) vAgg_cells (S_b.enc.one _) (Nat.le_trans hcn r78) (le0 S_b.enc.len) (wrs_all (eqL S_b.enc.len))
    have i88:=i81.up u87 r78
    have f89:=f82.up u87 (f43.h.ne q77)
    simp only [C.f63r4,R,Nat.reduceEqDiff,h42,ia35,ej69,h40,a72,zs72,a75,a85]
    refine hJ _ ?_
    refine tk_os okM hok fun J hJ=>?_
    have a90:=ld_one (M:=Mt) (t:=3) f86 T.ag3 (Seg.refl.sub (S_b.seg0 (Sl.nth x0 j69)))
    obtain ⟨v92,ev92,hm⟩:=bind_s hm
    have a91:=z_ec c.ro H84 ((Sl.nth x0 j69).f_Kind) v92 ev92
    simp only [C.f63r5,R,Nat.reduceEqDiff,fa72_0,a90,c_fn F66,a91]
    refine hJ _ ?_
    refine tk_block_k fun K n93 e94 x95=>?_
    refine tk_os okM hok fun J hJ=>?_
    simp only [C.f63r7,R,Nat.reduceEqDiff]
    refine hJ _ ?_
    refine tk_cond (t:=decide (v92 = 0)) rfl (fun g96=>?_) (fun g96=>?_)
    ·replace hm:=cond_t hm g96
     refine tk_oe okM hok fun J hJ=>?_
     obtain ⟨j97,ej97,hm⟩:=bind_s hm
     obtain ⟨H98,a99,f100,u101⟩:=st_sl0 (M:=Mt) (t:=3) (v:=(.int .i64 (1))) (y:=1) enc_int.len f89 (ck_lt ej97).1 (by rw [enc_int.len]; exact T.sz3) rfl (enc_int.one _) hcn
     have i102:=i88.up u101 (f89.some (ck_lt ej97).1).1
     have z103:l31 ≠ none:=sl_some (j:=j97) (ck_lt ej97).1
     have f104:=(u101.get _ ((f43.h.ne q77) z103).symm).trans f86
     simp only [C.f63r8,R,Nat.reduceEqDiff,h39,ia100,ej97,a99]
     refine hJ _ ?_
     refine n93 _ ?_
     refine n66 _ ?_
     refine n64 _ ?_
     exact ⟨Sl.put l31 j97 1,x12_33,x13_34,b32,hm,(lk_eq (by simp only [slV_put,slV_copy]) h39),h40,h41,h42,f100,i102⟩
    ·replace hm:=cond_f hm g96
     refine tk_os okM hok fun J hJ=>?_
     simp only [C.f63r9,R,Nat.reduceEqDiff]
     refine hJ _ ?_
     refine tk_cond (t:=decide (v92 = 1)) rfl (fun g105=>?_) (fun g105=>?_)
     ·replace hm:=cond_t hm g105
      refine tk_oe okM hok fun J hJ=>?_
      have a106:=ld_one (M:=Mt) (t:=3) f86 T.ag3 (Seg.refl.sub (S_b.seg1 (Sl.nth x0 j69)))
      obtain ⟨j107,ej107,hm⟩:=bind_s hm
      obtain ⟨mm108,k109⟩:=f89.h.blk (ck_lt ej107).1
      have a110:=lds_one (M:=Mt) (t:=3) k109 T.ag3 (seg_sl enc_int.len mm108 (ck_lt ej107).1)
      obtain ⟨j111,ej111,hm⟩:=bind_s hm
      obtain ⟨H112,a113,f114,u115⟩:=st_sl0 (M:=Mt) (t:=3) (v:=(.int .i64 (IntKind.i64.wrap (1 + (Sl.nth l31 j107))))) (y:=(IntKind.i64.wrap (1 + (Sl.nth l31 j107)))) enc_int.len f89 (ck_lt ej111).1 (by rw [enc_int.len]; exact T.sz3) rfl (enc_int.one _) hcn
      have i116:=i88.up u115 (f89.some (ck_lt ej111).1).1
      have z117:l31 ≠ none:=sl_some (j:=j111) (ck_lt ej111).1
      have f118:=(u115.get _ ((f43.h.ne q77) z117).symm).trans f86
      simp only [C.f63r10,R,Nat.reduceEqDiff,h39,fa72_1,a106,ia100,ej107,a110,ej111,a113]
      refine hJ _ ?_
      refine n93 _ ?_
      refine n66 _ ?_
      refine n64 _ ?_
      exact ⟨Sl.put l31 j111 (IntKind.i64.wrap (1 + (Sl.nth l31 j107))),x12_33,x13_34,b32,hm,(lk_eq (by simp only [slV_put,slV_copy]) h39),h40,h41,h42,f114,i116⟩
     ·replace hm:=cond_f hm g105
      refine tk_oe okM hok fun J hJ=>?_
      have a119:=ld_one (M:=Mt) (t:=3) f86 T.ag3 (Seg.refl.sub (S_b.seg1 (Sl.nth x0 j69)))
      obtain ⟨j120,ej120,hm⟩:=bind_s hm
      obtain ⟨mm121,k122⟩:=f89.h.blk (ck_lt ej120).1
      have a123:=lds_one (M:=Mt) (t:=3) k122 T.ag3 (seg_sl enc_int.len mm121 (ck_lt ej120).1)
      have a124:=ld_one (M:=Mt) (t:=3) f86 T.ag3 (Seg.refl.sub (S_b.seg2 (Sl.nth x0 j69)))
      obtain ⟨j125,ej125,hm⟩:=bind_s hm
      obtain ⟨mm126,k127⟩:=f89.h.blk (ck_lt ej125).1
      have a128:=lds_one (M:=Mt) (t:=3) k127 T.ag3 (seg_sl enc_int.len mm126 (ck_lt ej125).1)
      obtain ⟨j129,ej129,hm⟩:=bind_s hm
      obtain ⟨H130,a131,f132,u133⟩:=st_sl0 (M:=Mt) (t:=3) (v:=(.int .i64 (IntKind.i64.wrap (1 + (max (Sl.nth l31 j120) (Sl.nth l31 j125)))))) (y:=(IntKind.i64.wrap (1 + (max (Sl.nth l31 j120) (Sl.nth l31 j125))))) enc_int.len f89 (ck_lt ej129).1 (by rw [enc_int.len]; exact T.sz3) rfl (enc_int.one _) hcn
      have i134:=i88.up u133 (f89.some (ck_lt ej129).1).1
      have z135:l31 ≠ none:=sl_some (j:=j129) (ck_lt ej129).1
      have f136:=(u133.get _ ((f43.h.ne q77) z135).symm).trans f86
      simp only [C.f63r6,R,Nat.reduceEqDiff,s_pt,s_gt,isW,Bool.false_eq_true,if_false,if_true,reduceIte,h39,fa72_1,a119,ia100,ej120,a123,fa72_2,a124,ej125,a128,ej129,a131]
      refine hJ _ ?_
      refine n93 _ ?_
      refine n66 _ ?_
      refine n64 _ ?_
      exact ⟨Sl.put l31 j129 (IntKind.i64.wrap (1 + (max (Sl.nth l31 j120) (Sl.nth l31 j125)))),x12_33,x13_34,b32,hm,(lk_eq (by simp only [slV_put,slV_copy]) h39),h40,h41,h42,f132,i134⟩
  ·replace hm:=cond_f hm g49
   refine tk_exit okM ?_
   refine x48 _ _ (by simp) ?_
   refine x36 _ _ (by simp) ?_
   refine e29 _ ?_
   refine n25 _ ?_
   refine tk_os okM hok fun J hJ=>?_
   simp only [C.f63r12,R,Nat.reduceEqDiff,h39]
   refine hJ _ ?_
   refine tk_ret okM ?_
   obtain rfl:=Option.some.inj hm
   exact end_sl1 (P:=Mt.P) (rs:=[(.tmp 2)]) (pre:=[]) (post:=[]) (x:=l31) (b:=b32) (nb:=H0.length) (.inl rfl) (by rw [← hnb]; exact f43) enc_int fm_nil fm_nil (resT' (v:=(slV l31 b32)) rfl resN)
def b_c1 (c_v:T_8) (c_bc:T_cx) (c_bw:T_b6) (n:Nat) (x0:(Sl S_b)):Option (Int):=bif decide (500 < (Sl.len x0)) then (some 4) else ((c_v x0).bind fun v20=>bif !v20.2 then (some 3) else ((c_bc x0).bind fun v36=>(c_bw v36).bind fun v48=>bif decide (40 < v48) then (some 4) else (some 0)))
theorem w_gm {call:CallF} (hok:CallOk Mt call) {n:Nat} {c_v:T_8} (z_cu:A_dn call c_v) {c_bc:T_cx} (z_dv:A_dQ call c_bc) {c_bw:T_b6} (z_et:A_c7 call c_bw) {H0:Hp} {x0:(Sl S_b)} {b0:Nat} {r:Int} {ro:Nat} (hro:ro ≤ H0.length) (h0:SlH H0 S_b.c 72 x0 b0) (hm:b_c1 c_v c_bc c_bw n x0 = some r) :
  Pt Mt ro 64 [(vAgg [slV x0 b0])] H0 (.int .i64 (r)) H0 []:=by
 refine pt_new0 okM F64d (by exact Nat.le_of_ble_eq_true rfl) ?_ hro
 intro c hnt hnb hcr
 have hcn:c.ro ≤ c.nb:=by omega
 have l0:x0 ≠ none → b0 < c.nb:=fun h=>by rw [hnb]; exact h0.lt h
 have iv:Iv c.nb [] H0 H0:=by rw [hnb]; exact iv_refl
 rw [show args0 [(vAgg [slV x0 b0])] = [(0,(vAgg [slV x0 b0]))] from rfl]
 rw [b_c1] at hm
 simp only [C.f64]
 refine tk_os okM hok fun J hJ=>?_
 obtain ⟨b2,H3,a4,f5,q6,r7,x8,i9⟩:=bx_ok (M:=Mt) (t:=37) (u:=(vAgg [(slV x0 b0)])) (cs:=[(slV x0 b0)]) H0 iv.le T.sz37 vAgg_cells one_sl
 have i10:=i9 _ _ iv
 simp only [C.f64r0,R,Nat.reduceEqDiff,a4]
 refine hJ _ ?_
 refine tk_seq_k fun K n12 x13=>?_
 refine tk_os okM hok fun J hJ=>?_
 have a14:=ld_one (M:=Mt) (t:=35) (off:=0 + 0) f5 T.ag35 Seg.refl
 simp only [C.f64r1,R,Nat.reduceEqDiff,fa37_0,a14,ln35]
 refine hJ _ ?_
 refine tk_cond (t:=decide (500 < (Sl.len x0))) rfl (fun g15=>?_) (fun g15=>?_)
 ·replace hm:=cond_t hm g15
  refine tk_os okM hok fun J hJ=>?_
  simp only [C.f64r2,R,Nat.reduceEqDiff]
  refine hJ _ ?_
  refine tk_ret okM ?_
  refine x13 _ _ (by simp) ?_
  obtain rfl:=Option.some.inj hm
  exact end_flat (.inl rfl) (vs:=[(.int .i64 (4))]) (resT' (v:=(.int .i64 (4))) rfl resN) (fm_cons rfl fm_nil)
 ·replace hm:=cond_f hm g15
  refine tk_skip okM ?_
  refine n12 _ ?_
  refine tk_seq_k fun K n16 x17=>?_
  refine tk_os okM hok fun J hJ=>?_
  have a18:=ld_agg (M:=Mt) (t:=37) (off:=0) (c:=[(slV x0 b0)]) f5 T.ag37 T.sz37 Seg.refl
  obtain ⟨v20,ev20,hm⟩:=bind_s hm
  have a19:=z_cu c.ro H3 x0 b0 v20 (h0.iv l0 (fun _=>by simp) i10) ev20
  obtain ⟨H21,q22⟩:∃ x,x = H3 ++ slB (cInt .i64) 3 v20.1:=⟨_,rfl⟩
  obtain ⟨b23,q24⟩:∃ b,b = H3.length:=⟨_,rfl⟩
  rw [← q22,← q24] at a19
  have x28:Ex H3 H21:=by rw [q22]; exact ex_app
  have i26:Iv c.nb [] H0 H21:=by rw [q22]; exact i10.app
  have f25:SlO c.nb H21 (cInt .i64) 3 v20.1 b23:=by rw [q22,q24]; exact slB_own i10.le
  have r27:c.nb ≤ b23:=by rw [q24]; exact i10.le
  have f29:=x28 _ _ f5
  simp only [C.f64r3,R,Nat.reduceEqDiff,a18,c_fn F62,a19]
  refine hJ _ ?_
  refine tk_os okM hok fun J hJ=>?_
  simp only [C.f64r4,R,Nat.reduceEqDiff]
  refine hJ _ ?_
  refine tk_cond (t:=!v20.2) rfl (fun g31=>?_) (fun g31=>?_)
  ·replace hm:=cond_t hm g31
   refine tk_os okM hok fun J hJ=>?_
   simp only [C.f64r5,R,Nat.reduceEqDiff]
   refine hJ _ ?_
   refine tk_ret okM ?_
   refine x17 _ _ (by simp) ?_
   obtain rfl:=Option.some.inj hm
   exact end_flat (.inl rfl) (vs:=[(.int .i64 (3))]) (resT' (v:=(.int .i64 (3))) rfl resN) (fm_cons rfl fm_nil)
  ·replace hm:=cond_f hm g31
   refine tk_skip okM ?_
   refine n16 _ ?_
   refine tk_seq_k fun K n32 x33=>?_
   refine tk_os okM hok fun J hJ=>?_
   have a34:=ld_agg (M:=Mt) (t:=37) (off:=0) (c:=[(slV x0 b0)]) f29 T.ag37 T.sz37 Seg.refl
   obtain ⟨v36,ev36,hm⟩:=bind_s hm
   have a35:=z_dv c.ro H21 x0 b0 v36 (h0.iv l0 (fun _=>by simp) i26) ev36
   obtain ⟨H37,q38⟩:∃ x,x = H21 ++ slB (cInt .i64) 3 v36:=⟨_,rfl⟩
   obtain ⟨b39,q40⟩:∃ b,b = H21.length:=⟨_,rfl⟩
   rw [← q38,← q40] at a35
   have x44:Ex H21 H37:=by rw [q38]; exact ex_app
   have i42:Iv c.nb [] H0 H37:=by rw [q38]; exact i26.app
   have f41:SlO c.nb H37 (cInt .i64) 3 v36 b39:=by rw [q38,q40]; exact slB_own i26.le
   have r43:c.nb ≤ b39:=by rw [q40]; exact i26.le
   have f45:=x44 _ _ f29
   obtain ⟨v48,ev48,hm⟩:=bind_s hm
   have a47:=z_et c.ro H37 v36 b39 v48 f41.h ev48
   simp only [C.f64r6,R,Nat.reduceEqDiff,a34,c_fn F63,a35,c_fn F98,a47]
   refine hJ _ ?_
   refine tk_cond (t:=decide (40 < v48)) rfl (fun g49=>?_) (fun g49=>?_)
   ·replace hm:=cond_t hm g49
    refine tk_os okM hok fun J hJ=>?_
    simp only [C.f64r7,R,Nat.reduceEqDiff]
    refine hJ _ ?_
    refine tk_ret okM ?_
    refine x33 _ _ (by simp) ?_
    obtain rfl:=Option.some.inj hm
    exact end_flat (.inl rfl) (vs:=[(.int .i64 (4))]) (resT' (v:=(.int .i64 (4))) rfl resN) (fm_cons rfl fm_nil)
   ·replace hm:=cond_f hm g49
    refine tk_skip okM ?_
    refine n32 _ ?_
    refine tk_os okM hok fun J hJ=>?_
    simp only [C.f64r8,R,Nat.reduceEqDiff]
    refine hJ _ ?_
    refine tk_ret okM ?_
    obtain rfl:=Option.some.inj hm
    exact end_flat (.inl rfl) (vs:=[(.int .i64 (0))]) (resT' (v:=(.int .i64 (0))) rfl resN) (fm_cons rfl fm_nil)
def b_C (c_u:T_cB) (c_p:T_ci) (n:Nat) (q1:Sl Int → Sl Int → Int → Int → Option ((Sl Int) × (Sl Int))) (x0:(Sl S_b)) (l69:Sl Int) (l71:Sl Int) (x18_73:Int) (x19_74:Int):Option ((Sl Int) × (Sl Int)):=q1 l69 l71 x18_73 (IntKind.i64.wrap (x19_74 + 1))
def b_bG (c_u:T_cB) (c_p:T_ci) (n:Nat) (q1:Sl Int → Sl Int → Int → Int → Option ((Sl Int) × (Sl Int))) (x0:(Sl S_b)) (l283:Sl Int) (l285:Sl Int) (x6_287:Int) (x288:S_b) (x18_289:Int) (x19_290:Int) (x138_291:Bool):Option ((Sl Int) × (Sl Int)):=bif x138_291 then ((ck (Sl.l l283).length x288.f_A).bind fun j314=>(ck (Sl.l l285).length x288.f_A).bind fun j319=>(ck (Sl.l l283).length x6_287).bind fun j323=>(ck (Sl.l l285).length x6_287).bind fun j332=>b_C c_u c_p n q1 x0 (Sl.put l283 j323 (Sl.nth l283 j314)) (Sl.put l285 j332 (Sl.nth l285 j319)) x18_289 x19_290) else (b_C c_u c_p n q1 x0 l283 l285 x18_289 x19_290)
def b_D (c_u:T_cB) (c_p:T_ci) (n:Nat) (x0:(Sl S_b)):Nat → Sl Int → Sl Int → Int → Int → Option ((Sl Int) × (Sl Int))
 | 0,_,_,_,_=>none
 | k + 1,l44,l46,x18_48,x19_49=>bif decide (x19_49 < x18_48) then ((ck (Sl.l x0).length x19_49).bind fun j94=>bif decide (((Sl.nth x0 j94).f_Kind) = 1) then ((ck (Sl.l l44).length x19_49).bind fun j122=>(ck (Sl.l l46).length x19_49).bind fun j131=>b_C c_u c_p n (b_D c_u c_p n x0 k) x0 (Sl.put l44 j122 1) (Sl.put l46 j131 1) x18_48 x19_49) else (bif decide (((Sl.nth x0 j94).f_Kind) = 12) then ((ck (Sl.l l46).length x19_49).bind fun j141=>b_C c_u c_p n (b_D c_u c_p n x0 k) x0 l44 (Sl.put l46 j141 ((-1))) x18_48 x19_49) else (bif decide (((Sl.nth x0 j94).f_Kind) = 8) then ((ck (Sl.l l44).length ((Sl.nth x0 j94).f_A)).bind fun j152=>(ck (Sl.l l44).length ((Sl.nth x0 j94).f_B)).bind fun j157=>(c_u (Sl.nth l44 j152) (Sl.nth l44 j157)).bind fun v162=>(ck (Sl.l l46).length ((Sl.nth x0 j94).f_A)).bind fun j164=>(ck (Sl.l l46).length ((Sl.nth x0 j94).f_B)).bind fun j169=>(c_u (Sl.nth l46 j164) (Sl.nth l46 j169)).bind fun v174=>(ck (Sl.l l44).length x19_49).bind fun j175=>(ck (Sl.l l46).length x19_49).bind fun j184=>b_C c_u c_p n (b_D c_u c_p n x0 k) x0 (Sl.put l44 j175 v162) (Sl.put l46 j184 v174) x18_48 x19_49) else (bif decide (((Sl.nth x0 j94).f_Kind) = 9) then ((ck (Sl.l l44).length ((Sl.nth x0 j94).f_A)).bind fun j195=>(ck (Sl.l l44).length ((Sl.nth x0 j94).f_B)).bind fun j200=>(ck (Sl.l l46).length ((Sl.nth x0 j94).f_A)).bind fun j205=>(ck (Sl.l l46).length ((Sl.nth x0 j94).f_B)).bind fun j210=>(ck (Sl.l l44).length x19_49).bind fun j214=>(ck (Sl.l l46).length x19_49).bind fun j223=>bif decide ((min (Sl.nth (Sl.put l46 j223 (max (Sl.nth l46 j205) (Sl.nth l46 j210))) j205) (Sl.nth (Sl.put l46 j223 (max (Sl.nth l46 j205) (Sl.nth l46 j210))) j210)) = ((-1))) then (b_C c_u c_p n (b_D c_u c_p n x0 k) x0 (Sl.put l44 j214 (min (Sl.nth l44 j195) (Sl.nth l44 j200))) (Sl.put (Sl.put l46 j223 (max (Sl.nth l46 j205) (Sl.nth l46 j210))) j223 ((-1))) x18_48 x19_49) else (b_C c_u c_p n (b_D c_u c_p n x0 k) x0 (Sl.put l44 j214 (min (Sl.nth l44 j195) (Sl.nth l44 j200))) (Sl.put l46 j223 (max (Sl.nth l46 j205) (Sl.nth l46 j210))) x18_48 x19_49)) else (bif decide (((Sl.nth x0 j94).f_Kind) = 10) then ((ck (Sl.l l44).length ((Sl.nth x0 j94).f_A)).bind fun j250=>(c_p (Sl.nth l44 j250) ((Sl.nth x0 j94).f_Min)).bind fun v256=>(ck (Sl.l l46).length ((Sl.nth x0 j94).f_A)).bind fun j258=>(c_p (Sl.nth l46 j258) ((Sl.nth x0 j94).f_Max)).bind fun v264=>(ck (Sl.l l44).length x19_49).bind fun j265=>(ck (Sl.l l46).length x19_49).bind fun j274=>b_C c_u c_p n (b_D c_u c_p n x0 k) x0 (Sl.put l44 j265 v256) (Sl.put l46 j274 v264) x18_48 x19_49) else (bif decide (((Sl.nth x0 j94).f_Kind) = 11) then (b_bG c_u c_p n (b_D c_u c_p n x0 k) x0 l44 l46 x19_49 (Sl.nth x0 j94) x18_48 x19_49 (decide (((Sl.nth x0 j94).f_Kind) = 11))) else (b_bG c_u c_p n (b_D c_u c_p n x0 k) x0 l44 l46 x19_49 (Sl.nth x0 j94) x18_48 x19_49 (decide (((Sl.nth x0 j94).f_Kind) = 17))))))))) else (some (l44,l46))
def b_dI (c_u:T_cB) (c_p:T_ci) (n:Nat) (x0:(Sl S_b)):Option ((Sl Int) × (Sl Int)):=(Sl.make 8 (Sl.len x0) (Sl.len x0) (0:Int)).bind fun l13=>b_D c_u c_p n x0 n l13 l13 (Sl.len x0) 0
theorem w_gV {call:CallF} (hok:CallOk Mt call) {n:Nat} {c_u:T_cB} (z_fi:A_fH call c_u) {c_p:T_ci} (z_eV:A_fj call c_p) {H0:Hp} {x0:(Sl S_b)} {b0:Nat} {r:(Sl Int) × (Sl Int)} {ro:Nat} (hro:ro ≤ H0.length) (h0:SlH H0 S_b.c 72 x0 b0) (hm:b_dI c_u c_p n x0 = some r) :
  Pt Mt ro 65 [(vAgg [slV x0 b0])] H0 (.tuple [(slV r.1 H0.length),(slV r.2 (H0.length + (slB (cInt .i64) 3 r.1).length))].toArray) (H0 ++ (slB (cInt .i64) 3 r.1 ++ slB (cInt .i64) 3 r.2)) []:=by
 refine pt_new okM F65d (by exact Nat.le_of_ble_eq_true rfl) ?_ hro
 intro c hnt hnb hcr
 have hcn:c.ro ≤ c.nb:=by omega
 have l0:x0 ≠ none → b0 < c.nb:=fun h=>by rw [hnb]; exact h0.lt h
 have iv:Iv c.nb [] H0 H0:=by rw [hnb]; exact iv_refl
 rw [show args0 [(vAgg [slV x0 b0])] = [(0,(vAgg [slV x0 b0]))] from rfl]
 rw [b_dI] at hm
 simp only [C.f65,C.f65b0]
 refine tk_os okM hok fun J hJ=>?_
 obtain ⟨b2,H3,a4,f5,q6,r7,x8,i9⟩:=bx_ok (M:=Mt) (t:=37) (u:=(vAgg [(slV x0 b0)])) (cs:=[(slV x0 b0)]) H0 iv.le T.sz37 vAgg_cells one_sl
 have i10:=i9 _ _ iv
 simp only [C.f65r0,R,Nat.reduceEqDiff,a4]
 refine hJ _ ?_
 refine tk_os okM hok fun J hJ=>?_
 have a12:=ld_one (M:=Mt) (t:=35) (off:=0 + 0) f5 T.ag35 Seg.refl
 obtain ⟨l13,el13,hm⟩:=bind_s hm
 obtain ⟨b14,H15,a16,f17,q18,r19,x20,i21⟩:=mk_ok (M:=Mt) (t:=100) (e:=3) (k:=.i64) (k':=.i64) H3 i10.le Tryz.underlying100 T.by3 zs3 el13
 have i22:=i21 _ _ i10
 have f23:=x20 _ _ f5
 have a25:=ld_one (M:=Mt) (t:=35) (off:=0 + 0) f23 T.ag35 Seg.refl
 obtain ⟨b26,H27,a28,f29,q30,r31,x32,i33⟩:=mk_ok (M:=Mt) (t:=100) (e:=3) (k:=.i64) (k':=.i64) H15 i22.le Tryz.underlying100 T.by3 zs3 el13
 have i34:=i33 _ _ i22
 have f35:=x32 _ _ f23
 have f36:=f17.ex x32
 simp only [C.f65r1,R,Nat.reduceEqDiff,s_pt,s_gt,isW,Bool.false_eq_true,if_false,if_true,reduceIte,fa37_0,a12,ln35,o_makeSlice,a16,a25,a28]
 refine hJ _ ?_
 refine tk_seq_k fun K n38 x39=>?_
 refine tk_os okM hok fun J hJ=>?_
 have a40:=ld_one (M:=Mt) (t:=35) (off:=0 + 0) f35 T.ag35 Seg.refl
 simp only [C.f65r2,R,Nat.reduceEqDiff,fa37_0,a40,ln35]
 refine hJ _ ?_
 refine tk_block_k fun K n41 e42 x43=>?_
 refine tk_loop_k (n:=n) (fun k1 ⟨σ,H,_⟩=>∃ l44 l46 x18_48 x19_49 b45 b47,b_D c_u c_p n x0 k1 l44 l46 x18_48 x19_49 = some r ∧ Lk σ 4 (slV l44 b45) ∧ Lk σ 5 (slV l46 b47) ∧ Lk σ 17 (slV x0 b0) ∧ Lk σ 18 (.int .i64 x18_48) ∧ Lk σ 19 (.int .i64 x19_49) ∧ SlO c.nb H (cInt .i64) 3 l44 b45 ∧ SlO c.nb H (cInt .i64) 3 l46 b47 ∧ (l44 ≠ none → l46 ≠ none → b45 ≠ b47) ∧ Iv c.nb [] H0 H) ?_ ?_ ?_
 ·exact ⟨l13,l13,Sl.len x0,0,b14,b26,hm,rfl,rfl,rfl,rfl,rfl,f36,f29,(fun h _=>(f17.h.ne q30) h),i34⟩
 ·rintro ⟨σ,H,d⟩ ⟨_,_,_,_,_,_,hm,_⟩
  cases hm
 ·intro k1 K n50 x51
  rintro ⟨σ64,H52,d65⟩ ⟨l44,l46,x18_48,x19_49,b45,b47,hm,h55,h56,h57,h58,h59,f60,f61,n62,i63⟩
  rw [b_D.eq_2] at hm
  refine tk_os okM hok fun J hJ=>?_
  simp only [C.f65r3,R,Nat.reduceEqDiff,h59,h58]
  refine hJ _ ?_
  refine tk_seq_k fun K n66 x67=>?_
  refine tk_cond (t:=decide (x19_49 < x18_48)) rfl (fun g68=>?_) (fun g68=>?_)
  ·replace hm:=cond_t hm g68
   refine tk_skip okM ?_
   refine n66 _ ?_
   refine tk_seq_j (fun ⟨σ,H,_⟩=>∃ l69 l71 x18_73 x19_74 b70 b72,b_C c_u c_p n (b_D c_u c_p n x0 k1) x0 l69 l71 x18_73 x19_74 = some r ∧ Lk σ 4 (slV l69 b70) ∧ Lk σ 5 (slV l71 b72) ∧ Lk σ 17 (slV x0 b0) ∧ Lk σ 18 (.int .i64 x18_73) ∧ Lk σ 19 (.int .i64 x19_74) ∧ SlO c.nb H (cInt .i64) 3 l69 b70 ∧ SlO c.nb H (cInt .i64) 3 l71 b72 ∧ (l69 ≠ none → l71 ≠ none → b70 ≠ b72) ∧ Iv c.nb [] H0 H) ?_ ?_
   ·skip
    rintro ⟨σ87,H75,d88⟩ ⟨l69,l71,x18_73,x19_74,b70,b72,hm,h78,h79,h80,h81,h82,f83,f84,n85,i86⟩
    rw [b_C] at hm
    refine tk_oe okM hok fun J hJ=>?_
    simp only [C.f65r21,R,Nat.reduceEqDiff,h82]
    refine hJ _ ?_
    refine n50 _ ?_
    exact ⟨l69,l71,x18_73,IntKind.i64.wrap (x19_74 + 1),b70,b72,hm,h78,h79,h80,h81,rfl,f83,f84,n85,i86⟩
   ·refine fun K n89 x90=>?_
    refine tk_block_k fun K n91 e92 x93=>?_
    refine tk_os okM hok fun J hJ=>?_
    obtain ⟨j94,ej94,hm⟩:=bind_s hm
    obtain ⟨mm95,k96⟩:=(h0.iv l0 (fun _=>by simp) i63).blk (ck_lt ej94).1
    have a97:=lds_agg (M:=Mt) (t:=72) k96 T.ag72 (by rw [S_b.enc.len]; exact T.sz72) (seg_sl S_b.enc.len mm95 (ck_lt ej94).1)
    obtain ⟨b98,H99,a100,f101,q102,r103,x104,i105⟩:=al_ok H52 72 (S_b.c S_b.zero) i63.le
    have i106:=i105 _ _ i63
    have f107:=f60.ex x104
    have f108:=f61.ex x104
    obtain ⟨H110,a111,f112,u113⟩:=st_ok (M:=Mt) (t:=72) (v:=(vAgg (S_b.c (Sl.nth x0 j94)))) (c:=S_b.c (Sl.nth x0 j94)) (cs':=S_b.c (Sl.nth x0 j94)) f101 (by rw [S_b.enc.len]; exact T.sz72) vAgg_cells (S_b.enc.one _) (Nat.le_trans hcn r103) (le0 S_b.enc.len) (wrs_all (eqL S_b.enc.len))
    have i114:=i106.up u113 r103
    have f115:=f107.up u113 (f60.h.ne q102)
    have f116:=f108.up u113 (f61.h.ne q102)
    simp only [C.f65r4,R,Nat.reduceEqDiff,h59,ia35,ej94,h57,a97,zs72,a100,a111]
    refine hJ _ ?_
    refine tk_os okM hok fun J hJ=>?_
    have a117:=ld_one (M:=Mt) (t:=3) f112 T.ag3 (Seg.refl.sub (S_b.seg0 (Sl.nth x0 j94)))
    simp only [C.f65r5,R,Nat.reduceEqDiff,fa72_0,a117]
    refine hJ _ ?_
    refine tk_block_k fun K n118 e119 x120=>?_
    refine tk_os okM hok fun J hJ=>?_
    simp only [C.f65r6,R,Nat.reduceEqDiff]
    refine hJ _ ?_
    refine tk_cond (t:=decide (((Sl.nth x0 j94).f_Kind) = 1)) rfl (fun g121=>?_) (fun g121=>?_)
    ·replace hm:=cond_t hm g121
     refine tk_oe okM hok fun J hJ=>?_
     obtain ⟨j122,ej122,hm⟩:=bind_s hm
     obtain ⟨H123,a124,f125,u126⟩:=st_sl0 (M:=Mt) (t:=3) (v:=(.int .i64 (1))) (y:=1) enc_int.len f115 (ck_lt ej122).1 (by rw [enc_int.len]; exact T.sz3) rfl (enc_int.one _) hcn
     have i127:=i114.up u126 (f115.some (ck_lt ej122).1).1
     have z128:l44 ≠ none:=sl_some (j:=j122) (ck_lt ej122).1
     have f129:=f116.up u126 (fun h=>(fun h h'=>(n62 h' h).symm) h z128)
     have f130:=(u126.get _ ((f60.h.ne q102) z128).symm).trans f112
     obtain ⟨j131,ej131,hm⟩:=bind_s hm
     obtain ⟨H132,a133,f134,u135⟩:=st_sl0 (M:=Mt) (t:=3) (v:=(.int .i64 (1))) (y:=1) enc_int.len f129 (ck_lt ej131).1 (by rw [enc_int.len]; exact T.sz3) rfl (enc_int.one _) hcn
     have i136:=i127.up u135 (f129.some (ck_lt ej131).1).1
     have z137:l46 ≠ none:=sl_some (j:=j131) (ck_lt ej131).1
     have f138:=f125.up u135 (fun h=>(fun h=>(fun h h'=>n62 (by simpa only [Sl.put_none,Sl.copy_none] using h) (by simpa only [Sl.put_none,Sl.copy_none] using h')) h z137) (by simpa only [Sl.put_none,Sl.copy_none] using h))
     have f139:=(u135.get _ ((f61.h.ne q102) z137).symm).trans f130
     simp only [C.f65r7,R,Nat.reduceEqDiff,h55,h56,ia100,ej122,a124,ej131,a133]
     refine hJ _ ?_
     refine n118 _ ?_
     refine n91 _ ?_
     refine n89 _ ?_
     exact ⟨Sl.put l44 j122 1,Sl.put l46 j131 1,x18_48,x19_49,b45,b47,hm,(lk_eq (by simp only [slV_put,slV_copy]) h55),(lk_eq (by simp only [slV_put,slV_copy]) h56),h57,h58,h59,f138,f134,(fun h h'=>n62 (by simpa only [Sl.put_none,Sl.copy_none] using h) (by simpa only [Sl.put_none,Sl.copy_none] using h')),i136⟩
    ·replace hm:=cond_f hm g121
     refine tk_os okM hok fun J hJ=>?_
     simp only [C.f65r8,R,Nat.reduceEqDiff]
     refine hJ _ ?_
     refine tk_cond (t:=decide (((Sl.nth x0 j94).f_Kind) = 12)) rfl (fun g140=>?_) (fun g140=>?_)
     ·replace hm:=cond_t hm g140
      refine tk_oe okM hok fun J hJ=>?_
      obtain ⟨j141,ej141,hm⟩:=bind_s hm
      obtain ⟨H142,a143,f144,u145⟩:=st_sl0 (M:=Mt) (t:=3) (v:=(.int .i64 ((-1)))) (y:=((-1))) enc_int.len f116 (ck_lt ej141).1 (by rw [enc_int.len]; exact T.sz3) rfl (enc_int.one _) hcn
      have i146:=i114.up u145 (f116.some (ck_lt ej141).1).1
      have z147:l46 ≠ none:=sl_some (j:=j141) (ck_lt ej141).1
      have f148:=f115.up u145 (fun h=>n62 h z147)
      have f149:=(u145.get _ ((f61.h.ne q102) z147).symm).trans f112
      simp only [C.f65r9,R,Nat.reduceEqDiff,h56,ia100,ej141,a143]
      refine hJ _ ?_
      refine n118 _ ?_
      refine n91 _ ?_
      refine n89 _ ?_
      exact ⟨l44,Sl.put l46 j141 ((-1)),x18_48,x19_49,b45,b47,hm,h55,(lk_eq (by simp only [slV_put,slV_copy]) h56),h57,h58,h59,f148,f144,(fun h h'=>n62 (by simpa only [Sl.put_none,Sl.copy_none] using h) (by simpa only [Sl.put_none,Sl.copy_none] using h')),i146⟩
     ·replace hm:=cond_f hm g140
      refine tk_os okM hok fun J hJ=>?_
      simp only [C.f65r10,R,Nat.reduceEqDiff]
      refine hJ _ ?_
      refine tk_cond (t:=decide (((Sl.nth x0 j94).f_Kind) = 8)) rfl (fun g150=>?_) (fun g150=>?_)
      ·replace hm:=cond_t hm g150
       refine tk_oe okM hok fun J hJ=>?_
       have a151:=ld_one (M:=Mt) (t:=3) f112 T.ag3 (Seg.refl.sub (S_b.seg1 (Sl.nth x0 j94)))
       obtain ⟨j152,ej152,hm⟩:=bind_s hm
       obtain ⟨mm153,k154⟩:=f115.h.blk (ck_lt ej152).1
       have a155:=lds_one (M:=Mt) (t:=3) k154 T.ag3 (seg_sl enc_int.len mm153 (ck_lt ej152).1)
       have a156:=ld_one (M:=Mt) (t:=3) f112 T.ag3 (Seg.refl.sub (S_b.seg2 (Sl.nth x0 j94)))
       obtain ⟨j157,ej157,hm⟩:=bind_s hm
       obtain ⟨mm158,k159⟩:=f115.h.blk (ck_lt ej157).1
       have a160:=lds_one (M:=Mt) (t:=3) k159 T.ag3 (seg_sl enc_int.len mm158 (ck_lt ej157).1)
       obtain ⟨v162,ev162,hm⟩:=bind_s hm
       have a161:=z_fi H110.length H110 (Sl.nth l44 j152) (Sl.nth l44 j157) v162 ev162
       have a163:=ld_one (M:=Mt) (t:=3) f112 T.ag3 (Seg.refl.sub (S_b.seg1 (Sl.nth x0 j94)))
       obtain ⟨j164,ej164,hm⟩:=bind_s hm
       obtain ⟨mm165,k166⟩:=f116.h.blk (ck_lt ej164).1
       have a167:=lds_one (M:=Mt) (t:=3) k166 T.ag3 (seg_sl enc_int.len mm165 (ck_lt ej164).1)
       have a168:=ld_one (M:=Mt) (t:=3) f112 T.ag3 (Seg.refl.sub (S_b.seg2 (Sl.nth x0 j94)))
       obtain ⟨j169,ej169,hm⟩:=bind_s hm
       obtain ⟨mm170,k171⟩:=f116.h.blk (ck_lt ej169).1
       have a172:=lds_one (M:=Mt) (t:=3) k171 T.ag3 (seg_sl enc_int.len mm170 (ck_lt ej169).1)
       obtain ⟨v174,ev174,hm⟩:=bind_s hm
       have a173:=z_fi H110.length H110 (Sl.nth l46 j164) (Sl.nth l46 j169) v174 ev174
       obtain ⟨j175,ej175,hm⟩:=bind_s hm
       obtain ⟨H176,a177,f178,u179⟩:=st_sl0 (M:=Mt) (t:=3) (v:=(.int .i64 (v162))) (y:=v162) enc_int.len f115 (ck_lt ej175).1 (by rw [enc_int.len]; exact T.sz3) rfl (enc_int.one _) hcn
       have i180:=i114.up u179 (f115.some (ck_lt ej175).1).1
       have z181:l44 ≠ none:=sl_some (j:=j175) (ck_lt ej175).1
       have f182:=f116.up u179 (fun h=>(fun h h'=>(n62 h' h).symm) h z181)
       have f183:=(u179.get _ ((f60.h.ne q102) z181).symm).trans f112
       obtain ⟨j184,ej184,hm⟩:=bind_s hm
       obtain ⟨H185,a186,f187,u188⟩:=st_sl0 (M:=Mt) (t:=3) (v:=(.int .i64 (v174))) (y:=v174) enc_int.len f182 (ck_lt ej184).1 (by rw [enc_int.len]; exact T.sz3) rfl (enc_int.one _) hcn
       have i189:=i180.up u188 (f182.some (ck_lt ej184).1).1
       have z190:l46 ≠ none:=sl_some (j:=j184) (ck_lt ej184).1
       have f191:=f178.up u188 (fun h=>(fun h=>(fun h h'=>n62 (by simpa only [Sl.put_none,Sl.copy_none] using h) (by simpa only [Sl.put_none,Sl.copy_none] using h')) h z190) (by simpa only [Sl.put_none,Sl.copy_none] using h))
       have f192:=(u188.get _ ((f61.h.ne q102) z190).symm).trans f183
       simp only [C.f65r11,R,Nat.reduceEqDiff,s_pt,s_gt,isW,Bool.false_eq_true,if_false,if_true,reduceIte,h55,h56,fa72_1,a151,ia100,ej152,a155,fa72_2,a156,ej157,a160,c_fn F99,a161,a163,ej164,a167,a168,ej169,a172,a173,ej175,a177,ej184,a186]
       refine hJ _ ?_
       refine n118 _ ?_
       refine n91 _ ?_
       refine n89 _ ?_
       exact ⟨Sl.put l44 j175 v162,Sl.put l46 j184 v174,x18_48,x19_49,b45,b47,hm,(lk_eq (by simp only [slV_put,slV_copy]) h55),(lk_eq (by simp only [slV_put,slV_copy]) h56),h57,h58,h59,f191,f187,(fun h h'=>n62 (by simpa only [Sl.put_none,Sl.copy_none] using h) (by simpa only [Sl.put_none,Sl.copy_none] using h')),i189⟩
      ·replace hm:=cond_f hm g150
       refine tk_os okM hok fun J hJ=>?_
       simp only [C.f65r12,R,Nat.reduceEqDiff]
       refine hJ _ ?_
       refine tk_cond (t:=decide (((Sl.nth x0 j94).f_Kind) = 9)) rfl (fun g193=>?_) (fun g193=>?_)
       ·replace hm:=cond_t hm g193
        refine tk_os okM hok fun J hJ=>?_
        have a194:=ld_one (M:=Mt) (t:=3) f112 T.ag3 (Seg.refl.sub (S_b.seg1 (Sl.nth x0 j94)))
        obtain ⟨j195,ej195,hm⟩:=bind_s hm
        obtain ⟨mm196,k197⟩:=f115.h.blk (ck_lt ej195).1
        have a198:=lds_one (M:=Mt) (t:=3) k197 T.ag3 (seg_sl enc_int.len mm196 (ck_lt ej195).1)
        have a199:=ld_one (M:=Mt) (t:=3) f112 T.ag3 (Seg.refl.sub (S_b.seg2 (Sl.nth x0 j94)))
        obtain ⟨j200,ej200,hm⟩:=bind_s hm
        obtain ⟨mm201,k202⟩:=f115.h.blk (ck_lt ej200).1
        have a203:=lds_one (M:=Mt) (t:=3) k202 T.ag3 (seg_sl enc_int.len mm201 (ck_lt ej200).1)
        have a204:=ld_one (M:=Mt) (t:=3) f112 T.ag3 (Seg.refl.sub (S_b.seg1 (Sl.nth x0 j94)))
        obtain ⟨j205,ej205,hm⟩:=bind_s hm
        obtain ⟨mm206,k207⟩:=f116.h.blk (ck_lt ej205).1
        have a208:=lds_one (M:=Mt) (t:=3) k207 T.ag3 (seg_sl enc_int.len mm206 (ck_lt ej205).1)
        have a209:=ld_one (M:=Mt) (t:=3) f112 T.ag3 (Seg.refl.sub (S_b.seg2 (Sl.nth x0 j94)))
        obtain ⟨j210,ej210,hm⟩:=bind_s hm
        obtain ⟨mm211,k212⟩:=f116.h.blk (ck_lt ej210).1
        have a213:=lds_one (M:=Mt) (t:=3) k212 T.ag3 (seg_sl enc_int.len mm211 (ck_lt ej210).1)
        obtain ⟨j214,ej214,hm⟩:=bind_s hm
        obtain ⟨H215,a216,f217,u218⟩:=st_sl0 (M:=Mt) (t:=3) (v:=(.int .i64 (min (Sl.nth l44 j195) (Sl.nth l44 j200)))) (y:=(min (Sl.nth l44 j195) (Sl.nth l44 j200))) enc_int.len f115 (ck_lt ej214).1 (by rw [enc_int.len]; exact T.sz3) rfl (enc_int.one _) hcn
        have i219:=i114.up u218 (f115.some (ck_lt ej214).1).1
        have z220:l44 ≠ none:=sl_some (j:=j214) (ck_lt ej214).1
        have f221:=f116.up u218 (fun h=>(fun h h'=>(n62 h' h).symm) h z220)
        have f222:=(u218.get _ ((f60.h.ne q102) z220).symm).trans f112
        obtain ⟨j223,ej223,hm⟩:=bind_s hm
        obtain ⟨H224,a225,f226,u227⟩:=st_sl0 (M:=Mt) (t:=3) (v:=(.int .i64 (max (Sl.nth l46 j205) (Sl.nth l46 j210)))) (y:=(max (Sl.nth l46 j205) (Sl.nth l46 j210))) enc_int.len f221 (ck_lt ej223).1 (by rw [enc_int.len]; exact T.sz3) rfl (enc_int.one _) hcn
        have i228:=i219.up u227 (f221.some (ck_lt ej223).1).1
        have z229:l46 ≠ none:=sl_some (j:=j223) (ck_lt ej223).1
        have f230:=f217.up u227 (fun h=>(fun h=>(fun h h'=>n62 (by simpa only [Sl.put_none,Sl.copy_none] using h) (by simpa only [Sl.put_none,Sl.copy_none] using h')) h z229) (by simpa only [Sl.put_none,Sl.copy_none] using h))
        have f231:=(u227.get _ ((f61.h.ne q102) z229).symm).trans f222
        simp only [C.f65r13,R,Nat.reduceEqDiff,s_pt,s_gt,isW,Bool.false_eq_true,if_false,if_true,reduceIte,h55,h56,fa72_1,a194,ia100,ej195,a198,fa72_2,a199,ej200,a203,a204,ej205,a208,a209,ej210,a213,ej214,a216,ej223,a225]
        refine hJ _ ?_
        refine tk_os okM hok fun J hJ=>?_
        have a232:=ld_one (M:=Mt) (t:=3) f231 T.ag3 (Seg.refl.sub (S_b.seg1 (Sl.nth x0 j94)))
        obtain ⟨mm233,k234⟩:=f226.h.blk (by simp only [Sl.put_len,Sl.copy_len]; exact (ck_lt ej205).1)
        have a235:=lds_one (M:=Mt) (t:=3) k234 T.ag3 (seg_sl enc_int.len mm233 (by simp only [Sl.put_len,Sl.copy_len]; exact (ck_lt ej205).1))
        have a236:=ld_one (M:=Mt) (t:=3) f231 T.ag3 (Seg.refl.sub (S_b.seg2 (Sl.nth x0 j94)))
        obtain ⟨mm237,k238⟩:=f226.h.blk (by simp only [Sl.put_len,Sl.copy_len]; exact (ck_lt ej210).1)
        have a239:=lds_one (M:=Mt) (t:=3) k238 T.ag3 (seg_sl enc_int.len mm237 (by simp only [Sl.put_len,Sl.copy_len]; exact (ck_lt ej210).1))
        simp only [C.f65r14,R,Nat.reduceEqDiff,s_pt,s_gt,isW,Bool.false_eq_true,if_false,if_true,reduceIte,h56,fa72_1,a232,ia100,ej205,a235,fa72_2,a236,ej210,a239]
        refine hJ _ ?_
        refine tk_cond (t:=decide ((min (Sl.nth (Sl.put l46 j223 (max (Sl.nth l46 j205) (Sl.nth l46 j210))) j205) (Sl.nth (Sl.put l46 j223 (max (Sl.nth l46 j205) (Sl.nth l46 j210))) j210)) = ((-1)))) rfl (fun g240=>?_) (fun g240=>?_)
        ·replace hm:=cond_t hm g240
         refine tk_oe okM hok fun J hJ=>?_
         obtain ⟨H241,a242,f243,u244⟩:=st_sl0 (M:=Mt) (t:=3) (v:=(.int .i64 ((-1)))) (y:=((-1))) enc_int.len f226 (by simp only [Sl.put_len,Sl.copy_len]; exact (ck_lt ej223).1) (by rw [enc_int.len]; exact T.sz3) rfl (enc_int.one _) hcn
         have i245:=i228.up u244 (f226.some (by simp only [Sl.put_len,Sl.copy_len]; exact (ck_lt ej223).1)).1
         have z246:(Sl.put l46 j223 (max (Sl.nth l46 j205) (Sl.nth l46 j210))) ≠ none:=sl_some (j:=j223) (by simp only [Sl.put_len,Sl.copy_len]; exact (ck_lt ej223).1)
         have f247:=f230.up u244 (fun h=>(fun h=>(fun h h'=>n62 (by simpa only [Sl.put_none,Sl.copy_none] using h) (by simpa only [Sl.put_none,Sl.copy_none] using h')) h z246) (by simpa only [Sl.put_none,Sl.copy_none] using h))
         simp only [C.f65r15,R,Nat.reduceEqDiff,h56,ia100,ej223,a242]
         refine hJ _ ?_
         refine n118 _ ?_
         refine n91 _ ?_
         refine n89 _ ?_
         exact ⟨Sl.put l44 j214 (min (Sl.nth l44 j195) (Sl.nth l44 j200)),Sl.put (Sl.put l46 j223 (max (Sl.nth l46 j205) (Sl.nth l46 j210))) j223 ((-1)),x18_48,x19_49,b45,b47,hm,(lk_eq (by simp only [slV_put,slV_copy]) h55),(lk_eq (by simp only [slV_put,slV_copy]) h56),h57,h58,h59,f247,f243,(fun h h'=>n62 (by simpa only [Sl.put_none,Sl.copy_none] using h) (by simpa only [Sl.put_none,Sl.copy_none] using h')),i245⟩
        ·replace hm:=cond_f hm g240
         refine tk_skip okM ?_
         refine n118 _ ?_
         refine n91 _ ?_
         refine n89 _ ?_
         exact ⟨Sl.put l44 j214 (min (Sl.nth l44 j195) (Sl.nth l44 j200)),Sl.put l46 j223 (max (Sl.nth l46 j205) (Sl.nth l46 j210)),x18_48,x19_49,b45,b47,hm,(lk_eq (by simp only [slV_put,slV_copy]) h55),(lk_eq (by simp only [slV_put,slV_copy]) h56),h57,h58,h59,f230,f226,(fun h h'=>n62 (by simpa only [Sl.put_none,Sl.copy_none] using h) (by simpa only [Sl.put_none,Sl.copy_none] using h')),i228⟩
       ·replace hm:=cond_f hm g193
        refine tk_os okM hok fun J hJ=>?_
        simp only [C.f65r16,R,Nat.reduceEqDiff]
        refine hJ _ ?_
        refine tk_cond (t:=decide (((Sl.nth x0 j94).f_Kind) = 10)) rfl (fun g248=>?_) (fun g248=>?_)
        ·replace hm:=cond_t hm g248
         refine tk_oe okM hok fun J hJ=>?_
         have a249:=ld_one (M:=Mt) (t:=3) f112 T.ag3 (Seg.refl.sub (S_b.seg1 (Sl.nth x0 j94)))
         obtain ⟨j250,ej250,hm⟩:=bind_s hm
         obtain ⟨mm251,k252⟩:=f115.h.blk (ck_lt ej250).1
         have a253:=lds_one (M:=Mt) (t:=3) k252 T.ag3 (seg_sl enc_int.len mm251 (ck_lt ej250).1)
         have a254:=ld_one (M:=Mt) (t:=3) f112 T.ag3 (Seg.refl.sub (S_b.seg4 (Sl.nth x0 j94)))
         obtain ⟨v256,ev256,hm⟩:=bind_s hm
         have a255:=z_eV H110.length H110 (Sl.nth l44 j250) ((Sl.nth x0 j94).f_Min) v256 ev256
         have a257:=ld_one (M:=Mt) (t:=3) f112 T.ag3 (Seg.refl.sub (S_b.seg1 (Sl.nth x0 j94)))
         obtain ⟨j258,ej258,hm⟩:=bind_s hm
         obtain ⟨mm259,k260⟩:=f116.h.blk (ck_lt ej258).1
         have a261:=lds_one (M:=Mt) (t:=3) k260 T.ag3 (seg_sl enc_int.len mm259 (ck_lt ej258).1)
         have a262:=ld_one (M:=Mt) (t:=3) f112 T.ag3 (Seg.refl.sub (S_b.seg5 (Sl.nth x0 j94)))
         obtain ⟨v264,ev264,hm⟩:=bind_s hm
         have a263:=z_eV H110.length H110 (Sl.nth l46 j258) ((Sl.nth x0 j94).f_Max) v264 ev264
         obtain ⟨j265,ej265,hm⟩:=bind_s hm
         obtain ⟨H266,a267,f268,u269⟩:=st_sl0 (M:=Mt) (t:=3) (v:=(.int .i64 (v256))) (y:=v256) enc_int.len f115 (ck_lt ej265).1 (by rw [enc_int.len]; exact T.sz3) rfl (enc_int.one _) hcn
         have i270:=i114.up u269 (f115.some (ck_lt ej265).1).1
         have z271:l44 ≠ none:=sl_some (j:=j265) (ck_lt ej265).1
         have f272:=f116.up u269 (fun h=>(fun h h'=>(n62 h' h).symm) h z271)
         have f273:=(u269.get _ ((f60.h.ne q102) z271).symm).trans f112
         obtain ⟨j274,ej274,hm⟩:=bind_s hm
         obtain ⟨H275,a276,f277,u278⟩:=st_sl0 (M:=Mt) (t:=3) (v:=(.int .i64 (v264))) (y:=v264) enc_int.len f272 (ck_lt ej274).1 (by rw [enc_int.len]; exact T.sz3) rfl (enc_int.one _) hcn
         have i279:=i270.up u278 (f272.some (ck_lt ej274).1).1
         have z280:l46 ≠ none:=sl_some (j:=j274) (ck_lt ej274).1
         have f281:=f268.up u278 (fun h=>(fun h=>(fun h h'=>n62 (by simpa only [Sl.put_none,Sl.copy_none] using h) (by simpa only [Sl.put_none,Sl.copy_none] using h')) h z280) (by simpa only [Sl.put_none,Sl.copy_none] using h))
         have f282:=(u278.get _ ((f61.h.ne q102) z280).symm).trans f273
         simp only [C.f65r17,R,Nat.reduceEqDiff,s_pt,s_gt,isW,Bool.false_eq_true,if_false,if_true,reduceIte,h55,h56,fa72_1,a249,ia100,ej250,a253,fa72_4,a254,c_fn F100,a255,a257,ej258,a261,fa72_5,a262,a263,ej265,a267,ej274,a276]
         refine hJ _ ?_
         refine n118 _ ?_
         refine n91 _ ?_
         refine n89 _ ?_
         exact ⟨Sl.put l44 j265 v256,Sl.put l46 j274 v264,x18_48,x19_49,b45,b47,hm,(lk_eq (by simp only [slV_put,slV_copy]) h55),(lk_eq (by simp only [slV_put,slV_copy]) h56),h57,h58,h59,f281,f277,(fun h h'=>n62 (by simpa only [Sl.put_none,Sl.copy_none] using h) (by simpa only [Sl.put_none,Sl.copy_none] using h')),i279⟩
        ·replace hm:=cond_f hm g248
         refine tk_seq_j (fun ⟨σ,H,_⟩=>∃ l283 l285 x6_287 x288 x18_289 x19_290 x138_291 b284 b286,b_bG c_u c_p n (b_D c_u c_p n x0 k1) x0 l283 l285 x6_287 x288 x18_289 x19_290 x138_291 = some r ∧ Lk σ 4 (slV l283 b284) ∧ Lk σ 5 (slV l285 b286) ∧ Lk σ 6 (.int .i64 x6_287) ∧ Lk σ 7 (.pointer (some ⟨b98,0,none⟩)) ∧ Lk σ 17 (slV x0 b0) ∧ Lk σ 18 (.int .i64 x18_289) ∧ Lk σ 19 (.int .i64 x19_290) ∧ Lk σ 138 (.bool x138_291) ∧ SlO c.nb H (cInt .i64) 3 l283 b284 ∧ SlO c.nb H (cInt .i64) 3 l285 b286 ∧ H[b98]? = some (.cells (S_b.c x288) 72) ∧ (l283 ≠ none → b284 ≠ b98) ∧ (l285 ≠ none → b286 ≠ b98) ∧ (l283 ≠ none → l285 ≠ none → b284 ≠ b286) ∧ Iv c.nb [] H0 H) ?_ ?_
         ·skip
          rintro ⟨σ310,H292,d311⟩ ⟨l283,l285,x6_287,x288,x18_289,x19_290,x138_291,b284,b286,hm,h295,h296,h297,h298,h299,h300,h301,h302,f303,f304,f305,n306,n307,n308,i309⟩
          rw [b_bG] at hm
          refine tk_cond (t:=x138_291) h302 (fun g312=>?_) (fun g312=>?_)
          ·replace hm:=cond_t hm g312
           refine tk_oe okM hok fun J hJ=>?_
           have a313:=ld_one (M:=Mt) (t:=3) f305 T.ag3 (Seg.refl.sub (S_b.seg1 x288))
           obtain ⟨j314,ej314,hm⟩:=bind_s hm
           obtain ⟨mm315,k316⟩:=f303.h.blk (ck_lt ej314).1
           have a317:=lds_one (M:=Mt) (t:=3) k316 T.ag3 (seg_sl enc_int.len mm315 (ck_lt ej314).1)
           have a318:=ld_one (M:=Mt) (t:=3) f305 T.ag3 (Seg.refl.sub (S_b.seg1 x288))
           obtain ⟨j319,ej319,hm⟩:=bind_s hm
           obtain ⟨mm320,k321⟩:=f304.h.blk (ck_lt ej319).1
           have a322:=lds_one (M:=Mt) (t:=3) k321 T.ag3 (seg_sl enc_int.len mm320 (ck_lt ej319).1)
           obtain ⟨j323,ej323,hm⟩:=bind_s hm
           obtain ⟨H324,a325,f326,u327⟩:=st_sl0 (M:=Mt) (t:=3) (v:=(.int .i64 (Sl.nth l283 j314))) (y:=(Sl.nth l283 j314)) enc_int.len f303 (ck_lt ej323).1 (by rw [enc_int.len]; exact T.sz3) rfl (enc_int.one _) hcn
           have i328:=i309.up u327 (f303.some (ck_lt ej323).1).1
           have z329:l283 ≠ none:=sl_some (j:=j323) (ck_lt ej323).1
           have f330:=f304.up u327 (fun h=>(fun h h'=>(n308 h' h).symm) h z329)
           have f331:=(u327.get _ (n306 z329).symm).trans f305
           obtain ⟨j332,ej332,hm⟩:=bind_s hm
           obtain ⟨H333,a334,f335,u336⟩:=st_sl0 (M:=Mt) (t:=3) (v:=(.int .i64 (Sl.nth l285 j319))) (y:=(Sl.nth l285 j319)) enc_int.len f330 (ck_lt ej332).1 (by rw [enc_int.len]; exact T.sz3) rfl (enc_int.one _) hcn
           have i337:=i328.up u336 (f330.some (ck_lt ej332).1).1
           have z338:l285 ≠ none:=sl_some (j:=j332) (ck_lt ej332).1
           have f339:=f326.up u336 (fun h=>(fun h=>(fun h h'=>n308 (by simpa only [Sl.put_none,Sl.copy_none] using h) (by simpa only [Sl.put_none,Sl.copy_none] using h')) h z338) (by simpa only [Sl.put_none,Sl.copy_none] using h))
           have f340:=(u336.get _ (n307 z338).symm).trans f331
           simp only [C.f65r20,R,Nat.reduceEqDiff,s_pt,s_gt,isW,Bool.false_eq_true,if_false,if_true,reduceIte,h295,h297,h296,fa72_1,h298,a313,ia100,ej314,a317,a318,ej319,a322,ej323,a325,ej332,a334]
           refine hJ _ ?_
           refine n118 _ ?_
           refine n91 _ ?_
           refine n89 _ ?_
           exact ⟨Sl.put l283 j323 (Sl.nth l283 j314),Sl.put l285 j332 (Sl.nth l285 j319),x18_289,x19_290,b284,b286,hm,(lk_eq (by simp only [slV_put,slV_copy]) h295),(lk_eq (by simp only [slV_put,slV_copy]) h296),h299,h300,h301,f339,f335,(fun h h'=>n308 (by simpa only [Sl.put_none,Sl.copy_none] using h) (by simpa only [Sl.put_none,Sl.copy_none] using h')),i337⟩
          ·replace hm:=cond_f hm g312
           refine tk_skip okM ?_
           refine n118 _ ?_
           refine n91 _ ?_
           refine n89 _ ?_
           exact ⟨l283,l285,x18_289,x19_290,b284,b286,hm,h295,h296,h299,h300,h301,f303,f304,n308,i309⟩
         ·refine fun K n341 x342=>?_
          refine tk_os okM hok fun J hJ=>?_
          simp only [C.f65r18,R,Nat.reduceEqDiff]
          refine hJ _ ?_
          refine tk_cond (t:=decide (((Sl.nth x0 j94).f_Kind) = 11)) rfl (fun g343=>?_) (fun g343=>?_)
          ·replace hm:=cond_t hm g343
           refine tk_skip okM ?_
           refine n341 _ ?_
           exact ⟨l44,l46,x19_49,Sl.nth x0 j94,x18_48,x19_49,decide (((Sl.nth x0 j94).f_Kind) = 11),b45,b47,hm,h55,h56,rfl,rfl,h57,h58,h59,rfl,f115,f116,f112,(f60.h.ne q102),(f61.h.ne q102),n62,i114⟩
          ·replace hm:=cond_f hm g343
           refine tk_oe okM hok fun J hJ=>?_
           simp only [C.f65r19,R,Nat.reduceEqDiff]
           refine hJ _ ?_
           refine n341 _ ?_
           exact ⟨l44,l46,x19_49,Sl.nth x0 j94,x18_48,x19_49,decide (((Sl.nth x0 j94).f_Kind) = 17),b45,b47,hm,h55,h56,rfl,rfl,h57,h58,h59,rfl,f115,f116,f112,(f60.h.ne q102),(f61.h.ne q102),n62,i114⟩
  ·replace hm:=cond_f hm g68
   refine tk_exit okM ?_
   refine x67 _ _ (by simp) ?_
   refine x51 _ _ (by simp) ?_
   refine e42 _ ?_
   refine n38 _ ?_
   refine tk_os okM hok fun J hJ=>?_
   simp only [C.f65r22,R,Nat.reduceEqDiff,h55,h56]
   refine hJ _ ?_
   refine tk_ret okM ?_
   obtain rfl:=Option.some.inj hm
   exact end_sl2 (nb:=H0.length) (.inl rfl) (by rw [← hnb]; exact f60) enc_int (by rw [← hnb]; exact f61) enc_int n62 (resT' (v:=(slV l44 b45)) rfl (resT' (v:=(slV l46 b47)) rfl resN))
def b_1 (n:Nat) (x7_15:Bool):Option (Int):=bif x7_15 then (some 1) else (some 0)
def b_cy (n:Nat) (x3_6:Int) (x4_7:Bool):Option (Int):=bif x4_7 then (some 2) else (bif decide (x3_6 = 10) then (b_1 n (decide (x3_6 = 10))) else (bif decide (x3_6 = 11) then (b_1 n (decide (x3_6 = 11))) else (bif decide (x3_6 = 13) then (b_1 n (decide (x3_6 = 13))) else (bif decide (x3_6 = 14) then (b_1 n (decide (x3_6 = 14))) else (bif decide (x3_6 = 15) then (b_1 n (decide (x3_6 = 15))) else (bif decide (x3_6 = 16) then (b_1 n (decide (x3_6 = 16))) else (b_1 n (decide (x3_6 = 17)))))))))
def b_dN (n:Nat) (x0:Int):Option (Int):=bif decide (x0 = 8) then (b_cy n x0 (decide (x0 = 8))) else (b_cy n x0 (decide (x0 = 9)))
theorem w_gT {call:CallF} (hok:CallOk Mt call) {n:Nat} {H0:Hp} {x0:Int} {r:Int} {ro:Nat} (hro:ro ≤ H0.length) (hm:b_dN n x0 = some r) :
  Pt Mt ro 66 [(.int .i64 x0)] H0 (.int .i64 (r)) H0 []:=by
 refine pt_new0 okM F66d (by exact Nat.le_of_ble_eq_true rfl) ?_ hro
 intro c hnt hnb hcr
 have hcn:c.ro ≤ c.nb:=by omega
 have iv:Iv c.nb [] H0 H0:=by rw [hnb]; exact iv_refl
 rw [show args0 [(.int .i64 x0)] = [(0,(.int .i64 x0))] from rfl]
 rw [b_dN] at hm
 simp only [C.f66]
 refine tk_os okM hok fun J hJ=>?_
 simp only [C.f66r0,R,Nat.reduceEqDiff]
 refine hJ _ ?_
 refine tk_seq_k fun K n1 x2=>?_
 refine tk_os okM hok fun J hJ=>?_
 simp only [C.f66r1,R,Nat.reduceEqDiff]
 refine hJ _ ?_
 refine tk_block_k fun K n3 e4 x5=>?_
 refine tk_seq_j (fun ⟨σ,H,_⟩=>∃ x3_6 x4_7,b_cy n x3_6 x4_7 = some r ∧ Lk σ 3 (.int .i64 x3_6) ∧ Lk σ 4 (.bool x4_7) ∧ Iv c.nb [] H0 H) ?_ ?_
 ·skip
  rintro ⟨σ12,H8,d13⟩ ⟨x3_6,x4_7,hm,h9,h10,i11⟩
  rw [b_cy] at hm
  refine tk_cond (t:=x4_7) h10 (fun g14=>?_) (fun g14=>?_)
  ·replace hm:=cond_t hm g14
   refine tk_os okM hok fun J hJ=>?_
   simp only [C.f66r4,R,Nat.reduceEqDiff]
   refine hJ _ ?_
   refine tk_ret okM ?_
   refine x5 _ _ (by simp) (by simp) ?_
   refine x2 _ _ (by simp) ?_
   obtain rfl:=Option.some.inj hm
   exact end_flat (.inl rfl) (vs:=[(.int .i64 (2))]) (resT' (v:=(.int .i64 (2))) rfl resN) (fm_cons rfl fm_nil)
  ·replace hm:=cond_f hm g14
   refine tk_seq_j (fun ⟨σ,H,_⟩=>∃ x7_15,b_1 n x7_15 = some r ∧ Lk σ 7 (.bool x7_15) ∧ Iv c.nb [] H0 H) ?_ ?_
   ·skip
    rintro ⟨σ19,H16,d20⟩ ⟨x7_15,hm,h17,i18⟩
    rw [b_1] at hm
    refine tk_cond (t:=x7_15) h17 (fun g21=>?_) (fun g21=>?_)
    ·replace hm:=cond_t hm g21
     refine tk_os okM hok fun J hJ=>?_
     simp only [C.f66r12,R,Nat.reduceEqDiff]
     refine hJ _ ?_
     refine tk_ret okM ?_
     refine x5 _ _ (by simp) (by simp) ?_
     refine x2 _ _ (by simp) ?_
     obtain rfl:=Option.some.inj hm
     exact end_flat (.inl rfl) (vs:=[(.int .i64 (1))]) (resT' (v:=(.int .i64 (1))) rfl resN) (fm_cons rfl fm_nil)
    ·replace hm:=cond_f hm g21
     refine tk_skip okM ?_
     refine n3 _ ?_
     refine n1 _ ?_
     refine tk_os okM hok fun J hJ=>?_
     simp only [C.f66r13,R,Nat.reduceEqDiff]
     refine hJ _ ?_
     refine tk_ret okM ?_
     obtain rfl:=Option.some.inj hm
     exact end_flat (.inl rfl) (vs:=[(.int .i64 (0))]) (resT' (v:=(.int .i64 (0))) rfl resN) (fm_cons rfl fm_nil)
   ·refine fun K n22 x23=>?_
    refine tk_os okM hok fun J hJ=>?_
    simp only [C.f66r5,R,Nat.reduceEqDiff,h9]
    refine hJ _ ?_
    refine tk_cond (t:=decide (x3_6 = 10)) rfl (fun g24=>?_) (fun g24=>?_)
    ·replace hm:=cond_t hm g24
     refine tk_skip okM ?_
     refine n22 _ ?_
     exact ⟨decide (x3_6 = 10),hm,rfl,i11⟩
    ·replace hm:=cond_f hm g24
     refine tk_os okM hok fun J hJ=>?_
     simp only [C.f66r6,R,Nat.reduceEqDiff,h9]
     refine hJ _ ?_
     refine tk_cond (t:=decide (x3_6 = 11)) rfl (fun g25=>?_) (fun g25=>?_)
     ·replace hm:=cond_t hm g25
      refine tk_skip okM ?_
      refine n22 _ ?_
      exact ⟨decide (x3_6 = 11),hm,rfl,i11⟩
     ·replace hm:=cond_f hm g25
      refine tk_os okM hok fun J hJ=>?_
      simp only [C.f66r7,R,Nat.reduceEqDiff,h9]
      refine hJ _ ?_
      refine tk_cond (t:=decide (x3_6 = 13)) rfl (fun g26=>?_) (fun g26=>?_)
      ·replace hm:=cond_t hm g26
       refine tk_skip okM ?_
       refine n22 _ ?_
       exact ⟨decide (x3_6 = 13),hm,rfl,i11⟩
      ·replace hm:=cond_f hm g26
       refine tk_os okM hok fun J hJ=>?_
       simp only [C.f66r8,R,Nat.reduceEqDiff,h9]
       refine hJ _ ?_
       refine tk_cond (t:=decide (x3_6 = 14)) rfl (fun g27=>?_) (fun g27=>?_)
       ·replace hm:=cond_t hm g27
        refine tk_skip okM ?_
        refine n22 _ ?_
        exact ⟨decide (x3_6 = 14),hm,rfl,i11⟩
       ·replace hm:=cond_f hm g27
        refine tk_os okM hok fun J hJ=>?_
        simp only [C.f66r9,R,Nat.reduceEqDiff,h9]
        refine hJ _ ?_
        refine tk_cond (t:=decide (x3_6 = 15)) rfl (fun g28=>?_) (fun g28=>?_)
        ·replace hm:=cond_t hm g28
         refine tk_skip okM ?_
         refine n22 _ ?_
         exact ⟨decide (x3_6 = 15),hm,rfl,i11⟩
        ·replace hm:=cond_f hm g28
         refine tk_os okM hok fun J hJ=>?_
         simp only [C.f66r10,R,Nat.reduceEqDiff,h9]
         refine hJ _ ?_
         refine tk_cond (t:=decide (x3_6 = 16)) rfl (fun g29=>?_) (fun g29=>?_)
         ·replace hm:=cond_t hm g29
          refine tk_skip okM ?_
          refine n22 _ ?_
          exact ⟨decide (x3_6 = 16),hm,rfl,i11⟩
         ·replace hm:=cond_f hm g29
          refine tk_oe okM hok fun J hJ=>?_
          simp only [C.f66r11,R,Nat.reduceEqDiff,h9]
          refine hJ _ ?_
          refine n22 _ ?_
          exact ⟨decide (x3_6 = 17),hm,rfl,i11⟩
 ·refine fun K n30 x31=>?_
  refine tk_os okM hok fun J hJ=>?_
  simp only [C.f66r2,R,Nat.reduceEqDiff]
  refine hJ _ ?_
  refine tk_cond (t:=decide (x0 = 8)) rfl (fun g32=>?_) (fun g32=>?_)
  ·replace hm:=cond_t hm g32
   refine tk_skip okM ?_
   refine n30 _ ?_
   exact ⟨x0,decide (x0 = 8),hm,rfl,rfl,iv⟩
  ·replace hm:=cond_f hm g32
   refine tk_oe okM hok fun J hJ=>?_
   simp only [C.f66r3,R,Nat.reduceEqDiff]
   refine hJ _ ?_
   refine n30 _ ?_
   exact ⟨x0,decide (x0 = 9),hm,rfl,rfl,iv⟩
def b_bo (c_v:T_8) (c_i:T_K) (c_k:T_O) (n:Nat) (q1:Sl Int → Sl Int → Int → Int → Option (Bool)) (x0:(Sl S_b)) (l98:Sl Int) (l100:Sl Int) (x19_102:Int) (x20_103:Int):Option (Bool):=q1 l98 l100 x19_102 (IntKind.i64.wrap (x20_103 + 1))
def b_ba (c_v:T_8) (c_i:T_K) (c_k:T_O) (n:Nat) (x0:(Sl S_b)):Nat → Sl Int → Int → Int → Option (Bool)
 | 0,_,_,_=>none
 | k + 1,l253,x38_255,x39_256=>bif decide (x39_256 < x38_255) then ((ck (Sl.l l253).length x39_256).bind fun j282=>(ck (Sl.l x0).length (Sl.nth l253 j282)).bind fun j287=>bif !decide (((Sl.nth x0 j287).f_N) = (IntKind.i64.wrap (x39_256 + 1))) then (some false) else (b_ba c_v c_i c_k n x0 k l253 x38_255 (IntKind.i64.wrap (x39_256 + 1)))) else ((bif decide ((Sl.len l253) ≤ 9) then ((c_k x0 l253).bind fun v295=>some (!v295)) else some false).bind fun y296=>some y296)
def b_U (c_v:T_8) (c_i:T_K) (c_k:T_O) (n:Nat) (x0:(Sl S_b)):Nat → Sl Int → Sl Int → Int → Int → Option (Bool)
 | 0,_,_,_,_=>none
 | k + 1,l63,l65,x19_67,x20_68=>bif decide (x20_68 < x19_67) then ((ck (Sl.l x0).length x20_68).bind fun j133=>bif decide (((Sl.nth x0 j133).f_Kind) = 11) then ((Sl.app 8 l65 (some ([x20_68]:List Int))).bind fun v180=>b_bo c_v c_i c_k n (b_U c_v c_i c_k n x0 k) x0 l63 v180 x19_67 x20_68) else (b_bo c_v c_i c_k n (b_U c_v c_i c_k n x0 k) x0 l63 l65 x19_67 x20_68)) else ((c_i l65 l63).bind fun l241=>b_ba c_v c_i c_k n x0 n l241 (Sl.len l65) 0)
def b_cQ (c_v:T_8) (c_i:T_K) (c_k:T_O) (n:Nat) (x0:(Sl S_b)):Option (Bool):=(c_v x0).bind fun v14=>b_U c_v c_i c_k n x0 n v14.1 none (Sl.len x0) 0
theorem w_gh {call:CallF} (hok:CallOk Mt call) {n:Nat} {c_v:T_8} (z_cu:A_dn call c_v) {c_i:T_K} (z_dz:A_cn call c_i) {c_k:T_O} (z_dV:A_cJ call c_k) {H0:Hp} {x0:(Sl S_b)} {b0:Nat} {r:Bool} {ro:Nat} (hro:ro ≤ H0.length) (h0:SlH H0 S_b.c 72 x0 b0) (hm:b_cQ c_v c_i c_k n x0 = some r) :
  Pt Mt ro 68 [(vAgg [slV x0 b0])] H0 (.bool (r)) H0 []:=by
 refine pt_new0 okM F68d (by exact Nat.le_of_ble_eq_true rfl) ?_ hro
 intro c hnt hnb hcr
 have hcn:c.ro ≤ c.nb:=by omega
 have l0:x0 ≠ none → b0 < c.nb:=fun h=>by rw [hnb]; exact h0.lt h
 have iv:Iv c.nb [] H0 H0:=by rw [hnb]; exact iv_refl
 rw [show args0 [(vAgg [slV x0 b0])] = [(0,(vAgg [slV x0 b0]))] from rfl]
 rw [b_cQ] at hm
 simp only [C.f68,C.f68b0,C.f68b1]
 refine tk_os okM hok fun J hJ=>?_
 obtain ⟨b2,H3,a4,f5,q6,r7,x8,i9⟩:=bx_ok (M:=Mt) (t:=37) (u:=(vAgg [(slV x0 b0)])) (cs:=[(slV x0 b0)]) H0 iv.le T.sz37 vAgg_cells one_sl
 have i10:=i9 _ _ iv
 simp only [C.f68r0,R,Nat.reduceEqDiff,a4]
 refine hJ _ ?_
 refine tk_os okM hok fun J hJ=>?_
 have a12:=ld_agg (M:=Mt) (t:=37) (off:=0) (c:=[(slV x0 b0)]) f5 T.ag37 T.sz37 Seg.refl
 obtain ⟨v14,ev14,hm⟩:=bind_s hm
 have a13:=z_cu c.ro H3 x0 b0 v14 (h0.iv l0 (fun _=>by simp) i10) ev14
 obtain ⟨H15,q16⟩:∃ x,x = H3 ++ slB (cInt .i64) 3 v14.1:=⟨_,rfl⟩
 obtain ⟨b17,q18⟩:∃ b,b = H3.length:=⟨_,rfl⟩
 rw [← q16,← q18] at a13
 have x22:Ex H3 H15:=by rw [q16]; exact ex_app
 have i20:Iv c.nb [] H0 H15:=by rw [q16]; exact i10.app
 have f19:SlO c.nb H15 (cInt .i64) 3 v14.1 b17:=by rw [q16,q18]; exact slB_own i10.le
 have r21:c.nb ≤ b17:=by rw [q18]; exact i10.le
 have f23:=x22 _ _ f5
 obtain ⟨b25,H26,a27,f28,q29,r30,x31,i32⟩:=al_ok H15 100 [.slice none 0 0] i20.le
 have i33:=i32 _ _ i20
 have f34:=x31 _ _ f23
 have f35:=f19.ex x31
 obtain ⟨H37,a38,f39,u40⟩:=st_ok (M:=Mt) (t:=100) (off:=0) (ro:=c.ro) (v:=(slV v14.1 b17)) (c:=[(slV v14.1 b17)]) (cs':=[(slV v14.1 b17)]) f28 T.sz100 cells_sl one_sl (Nat.le_trans hcn r30) (Nat.le_refl _) rfl
 have i41:=i33.up u40 r30
 have f42:=(u40.get _ (ne_len f23 q29)).trans f34
 have f43:=f35.up u40 (f19.h.ne q29)
 simp only [C.f68r1,R,Nat.reduceEqDiff,a12,c_fn F62,a13,(show zc Mt.P 100 = _ from T.zc100),a27,a38]
 refine hJ _ ?_
 refine tk_os okM hok fun J hJ=>?_
 obtain ⟨b44,H45,a46,f47,q48,r49,x50,i51⟩:=al_ok H37 100 [.slice none 0 0] i41.le
 have i52:=i51 _ _ i41
 have f53:=x50 _ _ f42
 have f54:=f43.ex x50
 have f55:=x50 _ _ f39
 simp only [C.f68r2,R,Nat.reduceEqDiff,(show zc Mt.P 100 = _ from T.zc100),a46]
 refine hJ _ ?_
 refine tk_seq_k fun K n57 x58=>?_
 refine tk_os okM hok fun J hJ=>?_
 have a59:=ld_one (M:=Mt) (t:=35) (off:=0 + 0) f53 T.ag35 Seg.refl
 simp only [C.f68r3,R,Nat.reduceEqDiff,fa37_0,a59,ln35]
 refine hJ _ ?_
 refine tk_block_k fun K n60 e61 x62=>?_
 refine tk_loop_k (n:=n) (fun k1 ⟨σ,H,_⟩=>∃ l63 l65 x19_67 x20_68 b64 b66,b_U c_v c_i c_k n x0 k1 l63 l65 x19_67 x20_68 = some r ∧ Lk σ 1 (.pointer (some ⟨b2,0,none⟩)) ∧ Lk σ 3 (.pointer (some ⟨b25,0,none⟩)) ∧ Lk σ 5 (.pointer (some ⟨b44,0,none⟩)) ∧ Lk σ 18 (slV x0 b0) ∧ Lk σ 19 (.int .i64 x19_67) ∧ Lk σ 20 (.int .i64 x20_68) ∧ H[b2]? = some (.cells [(slV x0 b0)] 37) ∧ SlO c.nb H (cInt .i64) 3 l63 b64 ∧ H[b25]? = some (.cells [(slV l63 b64)] 100) ∧ SlO c.nb H (cInt .i64) 3 l65 b66 ∧ H[b44]? = some (.cells [(slV l65 b66)] 100) ∧ (l63 ≠ none → b64 ≠ b2) ∧ (l63 ≠ none → b64 ≠ b25) ∧ (l63 ≠ none → b64 ≠ b44) ∧ (l65 ≠ none → b66 ≠ b2) ∧ (l65 ≠ none → b66 ≠ b25) ∧ (l65 ≠ none → b66 ≠ b44) ∧ (l63 ≠ none → l65 ≠ none → b64 ≠ b66) ∧ Iv c.nb [] H0 H) ?_ ?_ ?_
 ·exact ⟨v14.1,none,Sl.len x0,0,b17,0,hm,rfl,rfl,rfl,rfl,rfl,rfl,f53,f54,f55,slO_nil,f47,(fun _=>(ne_len f5 q18).symm),(f19.h.ne q29),(f43.h.ne q48),(fun h=>absurd rfl h),(fun h=>absurd rfl h),(fun h=>absurd rfl h),(fun _ h=>absurd rfl h),i52⟩
 ·rintro ⟨σ,H,d⟩ ⟨_,_,_,_,_,_,hm,_⟩
  cases hm
 ·intro k1 K n69 x70
  rintro ⟨σ93,H71,d94⟩ ⟨l63,l65,x19_67,x20_68,b64,b66,hm,h74,h75,h76,h77,h78,h79,f80,f81,f82,f83,f84,n85,n86,n87,n88,n89,n90,n91,i92⟩
  rw [b_U.eq_2] at hm
  refine tk_os okM hok fun J hJ=>?_
  simp only [C.f68r4,R,Nat.reduceEqDiff,h79,h78]
  refine hJ _ ?_
  refine tk_seq_k fun K n95 x96=>?_
  refine tk_cond (t:=decide (x20_68 < x19_67)) rfl (fun g97=>?_) (fun g97=>?_)
  ·replace hm:=cond_t hm g97
   refine tk_skip okM ?_
   refine n95 _ ?_
   refine tk_seq_j (fun ⟨σ,H,_⟩=>∃ l98 l100 x19_102 x20_103 b99 b101,b_bo c_v c_i c_k n (b_U c_v c_i c_k n x0 k1) x0 l98 l100 x19_102 x20_103 = some r ∧ Lk σ 1 (.pointer (some ⟨b2,0,none⟩)) ∧ Lk σ 3 (.pointer (some ⟨b25,0,none⟩)) ∧ Lk σ 5 (.pointer (some ⟨b44,0,none⟩)) ∧ Lk σ 18 (slV x0 b0) ∧ Lk σ 19 (.int .i64 x19_102) ∧ Lk σ 20 (.int .i64 x20_103) ∧ H[b2]? = some (.cells [(slV x0 b0)] 37) ∧ SlO c.nb H (cInt .i64) 3 l98 b99 ∧ H[b25]? = some (.cells [(slV l98 b99)] 100) ∧ SlO c.nb H (cInt .i64) 3 l100 b101 ∧ H[b44]? = some (.cells [(slV l100 b101)] 100) ∧ (l98 ≠ none → b99 ≠ b2) ∧ (l98 ≠ none → b99 ≠ b25) ∧ (l98 ≠ none → b99 ≠ b44) ∧ (l100 ≠ none → b101 ≠ b2) ∧ (l100 ≠ none → b101 ≠ b25) ∧ (l100 ≠ none → b101 ≠ b44) ∧ (l98 ≠ none → l100 ≠ none → b99 ≠ b101) ∧ Iv c.nb [] H0 H) ?_ ?_
   ·skip
    rintro ⟨σ126,H104,d127⟩ ⟨l98,l100,x19_102,x20_103,b99,b101,hm,h107,h108,h109,h110,h111,h112,f113,f114,f115,f116,f117,n118,n119,n120,n121,n122,n123,n124,i125⟩
    rw [b_bo] at hm
    refine tk_oe okM hok fun J hJ=>?_
    simp only [C.f68r8,R,Nat.reduceEqDiff,h112]
    refine hJ _ ?_
    refine n69 _ ?_
    exact ⟨l98,l100,x19_102,IntKind.i64.wrap (x20_103 + 1),b99,b101,hm,h107,h108,h109,h110,h111,rfl,f113,f114,f115,f116,f117,n118,n119,n120,n121,n122,n123,n124,i125⟩
   ·refine fun K n128 x129=>?_
    refine tk_block_k fun K n130 e131 x132=>?_
    refine tk_os okM hok fun J hJ=>?_
    obtain ⟨j133,ej133,hm⟩:=bind_s hm
    obtain ⟨mm134,k135⟩:=(h0.iv l0 (fun _=>by simp) i92).blk (ck_lt ej133).1
    have a136:=lds_agg (M:=Mt) (t:=72) k135 T.ag72 (by rw [S_b.enc.len]; exact T.sz72) (seg_sl S_b.enc.len mm134 (ck_lt ej133).1)
    obtain ⟨b137,H138,a139,f140,q141,r142,x143,i144⟩:=al_ok H71 72 (S_b.c S_b.zero) i92.le
    have i145:=i144 _ _ i92
    have f146:=x143 _ _ f80
    have f147:=f81.ex x143
    have f148:=x143 _ _ f82
    have f149:=f83.ex x143
    have f150:=x143 _ _ f84
    obtain ⟨H152,a153,f154,u155⟩:=st_ok (M:=Mt) (t:=72) (v:=(vAgg (S_b.c (Sl.nth x0 j133)))) (c:=S_b.c (Sl.nth x0 j133)) (cs':=S_b.c (Sl.nth x0 j133)) f140 (by rw [S_b.enc.len]; exact T.sz72) vAgg_cells (S_b.enc.one _) (Nat.le_trans hcn r142) (le0 S_b.enc.len) (wrs_all (eqL S_b.enc.len))
    have i156:=i145.up u155 r142
    have f157:=(u155.get _ (ne_len f80 q141)).trans f146
    have f158:=f147.up u155 (f81.h.ne q141)
    have f159:=(u155.get _ (ne_len f82 q141)).trans f148
    have f160:=f149.up u155 (f83.h.ne q141)
    have f161:=(u155.get _ (ne_len f84 q141)).trans f150
    simp only [C.f68r5,R,Nat.reduceEqDiff,h79,ia35,ej133,h77,a136,zs72,a139,a153]
    refine hJ _ ?_
    refine tk_os okM hok fun J hJ=>?_
    have a162:=ld_one (M:=Mt) (t:=3) f154 T.ag3 (Seg.refl.sub (S_b.seg0 (Sl.nth x0 j133)))
    simp only [C.f68r6,R,Nat.reduceEqDiff,fa72_0,a162]
    refine hJ _ ?_
    refine tk_cond (t:=decide (((Sl.nth x0 j133).f_Kind) = 11)) rfl (fun g163=>?_) (fun g163=>?_)
    ·replace hm:=cond_t hm g163
     refine tk_oe okM hok fun J hJ=>?_
     have a164:=ld_one (M:=Mt) (t:=100) f161 T.ag100 Seg.refl
     obtain ⟨b165,H166,a167,f168,q169,r170,x171,i172⟩:=bs_ok (M:=Mt) (t:=100) (e:=3) (c:=(cInt .i64)) (l:=([x20_68]:List Int)) (ps:=[(0,(.int .i64 (x20_68)))]) (n:=1) H152 i156.le Tryz.underlying100 (zs3) rfl (by simp only [List.length_cons,List.length_nil]; decide) (fun _=>rfl) enc_int.one rfl rfl
     have i173:=i172 _ _ i156
     have f174:=x171 _ _ f157
     have f175:=f158.ex x171
     have f176:=x171 _ _ f159
     have f177:=f160.ex x171
     have f178:=x171 _ _ f161
     obtain ⟨v180,ev180,hm⟩:=bind_s hm
     obtain ⟨b181,H182,a183,f184,mv185,i186,nw187⟩:=app_ok (M:=Mt) (t:=100) (u:=100) (nb:=c.nb) (x:=l65) (y:=some ([x20_68]:List Int)) (b:=b66) (b2:=b165) Tryz.underlying100 Tryz.underlying100 T.sz3 T.by3 zs3 (by decide) (by decide) enc_int.len enc_int.one i173.le hcn f177 f168.h ev180
     have i188:=i186 _ _ i173
     have n189:=nw187 b2 (get_lt f174) n88
     have n190:=fun (h:l63 ≠ none)=>nw187 b64 (f175.h.lt h) (fun h'=>(n91 h h').symm)
     have n191:=nw187 b25 (get_lt f176) n89
     have n192:=nw187 b44 (get_lt f178) n90
     have f193:=mv185.2 _ _ (fun h=>(n88 h).symm) f174
     have f194:=f175.mv mv185 n91
     have f195:=mv185.2 _ _ (fun h=>(n89 h).symm) f176
     have f196:=mv185.2 _ _ (fun h=>(n90 h).symm) f178
     obtain ⟨H198,a199,f200,u201⟩:=st_ok (M:=Mt) (t:=100) (off:=0) (ro:=c.ro) (v:=(slV v180 b181)) (c:=[(slV v180 b181)]) (cs':=[(slV v180 b181)]) f196 T.sz100 cells_sl one_sl (Nat.le_trans hcn r49) (Nat.le_refl _) rfl
     have i202:=i188.up u201 r49
     have f203:=(u201.get _ (ne_len f42 q48)).trans f193
     have f204:=f194.up u201 n87
     have f205:=(u201.get _ (ne_len f39 q48)).trans f195
     have f206:=f184.up u201 n192
     simp only [C.f68r7,R,Nat.reduceEqDiff,a164,h76,a167,a183,a199]
     refine hJ _ ?_
     refine n130 _ ?_
     refine n128 _ ?_
     exact ⟨l63,v180,x19_67,x20_68,b64,b181,hm,h74,h75,h76,h77,h78,h79,f203,f204,f205,f206,f200,n85,n86,n87,n189,n191,n192,(fun h h'=>(n190 h h').symm),i202⟩
    ·replace hm:=cond_f hm g163
     refine tk_skip okM ?_
     refine n130 _ ?_
     refine n128 _ ?_
     exact ⟨l63,l65,x19_67,x20_68,b64,b66,hm,h74,h75,h76,h77,h78,h79,f157,f158,f159,f160,f161,n85,n86,n87,n88,n89,n90,n91,i156⟩
  ·replace hm:=cond_f hm g97
   refine tk_exit okM ?_
   refine x96 _ _ (by simp) ?_
   refine x70 _ _ (by simp) ?_
   refine e61 _ ?_
   refine n57 _ ?_
   refine tk_os okM hok fun J hJ=>?_
   obtain ⟨b207,H208,a209,f210,q211,r212,x213,i214⟩:=al_ok H71 99 [.nilFunc] i92.le
   have i215:=i214 _ _ i92
   have f216:=x213 _ _ f80
   have f217:=f81.ex x213
   have f218:=x213 _ _ f82
   have f219:=f83.ex x213
   have f220:=x213 _ _ f84
   obtain ⟨H222,a223,f224,u225⟩:=st_ok (M:=Mt) (t:=99) (off:=0) (ro:=c.ro) (v:=(.func (.func 102) [].toArray [(.pointer (some ⟨b25,0,none⟩))].toArray)) (c:=[(.func (.func 102) [].toArray [(.pointer (some ⟨b25,0,none⟩))].toArray)]) (cs':=[(.func (.func 102) [].toArray [(.pointer (some ⟨b25,0,none⟩))].toArray)]) f210 T.sz99 rfl (one_v rfl) (Nat.le_trans hcn r212) (Nat.le_refl _) rfl
   have i226:=i215.up u225 r212
   have f227:=(u225.get _ (ne_len f80 q211)).trans f216
   have f228:=f217.up u225 (f81.h.ne q211)
   have f229:=(u225.get _ (ne_len f82 q211)).trans f218
   have f230:=f219.up u225 (f83.h.ne q211)
   have f231:=(u225.get _ (ne_len f84 q211)).trans f220
   simp only [C.f68r9,R,Nat.reduceEqDiff,o_makeFunc,mf_ok,h75,(show zc Mt.P 99 = _ from T.zc99),a209,a223]
   refine hJ _ ?_
   refine tk_os okM hok fun J hJ=>?_
   have a232:=ld_one (M:=Mt) (t:=100) f231 T.ag100 Seg.refl
   obtain ⟨l241,el241,hm⟩:=bind_s hm
   obtain ⟨H236,a237,f238,u239,sv233,sn234,sl235⟩:=z_dz c.ro c.nb H222 l65 b66 l63 b207 b25 b64 l241 hcn f230 f224 f229 f228.h (fun h=>((f83.h.ne q211) h)) (fun h=>(n89 h)) (fun h h'=>(n91 h' h).symm) el241
   have i240:=i226.upS u239 (fun h=>(f230.own h))
   have f242:=u239.get b2 (fun h=>(n88 h)) f227
   have f243:=f228.upS u239 (fun h h'=>((fun h h'=>(n91 h' h).symm) h' h).symm)
   have f244:=u239.get b25 (fun h=>(n89 h)) f229
   have f245:=u239.get b44 (fun h=>(n90 h)) f231
   have f246:=u239.get b207 (fun h=>((f83.h.ne q211) h)) f224
   simp only [C.f68r10,R,Nat.reduceEqDiff,a232,h76,o_makeFunc,mf_ok,h75,c_fn F103,a237]
   refine hJ _ ?_
   refine tk_seq_k fun K n247 x248=>?_
   refine tk_os okM hok fun J hJ=>?_
   have a249:=ld_one (M:=Mt) (t:=100) f245 T.ag100 Seg.refl
   simp only [C.f68r11,R,Nat.reduceEqDiff,a249,h76,ln100]
   refine hJ _ ?_
   refine tk_block_k fun K n250 e251 x252=>?_
   refine tk_loop_k (n:=n) (fun k3 ⟨σ,H,_⟩=>∃ l253 x38_255 x39_256 b254,b_ba c_v c_i c_k n x0 k3 l253 x38_255 x39_256 = some r ∧ Lk σ 1 (.pointer (some ⟨b2,0,none⟩)) ∧ Lk σ 5 (.pointer (some ⟨b44,0,none⟩)) ∧ Lk σ 37 (slV l253 b254) ∧ Lk σ 38 (.int .i64 x38_255) ∧ Lk σ 39 (.int .i64 x39_256) ∧ H[b2]? = some (.cells [(slV x0 b0)] 37) ∧ SlO c.nb H (cInt .i64) 3 l253 b254 ∧ H[b44]? = some (.cells [(slV l253 b254)] 100) ∧ (l253 ≠ none → b254 ≠ b2) ∧ (l253 ≠ none → b254 ≠ b44) ∧ Iv c.nb [] H0 H) ?_ ?_ ?_
   ·exact ⟨l241,Sl.len l65,0,b66,hm,h74,h76,(lk_eq (by simp only [slV_put,slV_copy,sv233]) rfl),rfl,rfl,f242,f238,(by simp only [slV_put,slV_copy,sv233]; exact f245),(fun h=>n88 (by simpa only [Sl.put_none,Sl.copy_none,sn234] using h)),(fun h=>n90 (by simpa only [Sl.put_none,Sl.copy_none,sn234] using h)),i240⟩
   ·rintro ⟨σ,H,d⟩ ⟨_,_,_,_,hm,_⟩
    cases hm
   ·intro k3 K n257 x258
    rintro ⟨σ272,H259,d273⟩ ⟨l253,x38_255,x39_256,b254,hm,h261,h262,h263,h264,h265,f266,f267,f268,n269,n270,i271⟩
    rw [b_ba.eq_2] at hm
    refine tk_os okM hok fun J hJ=>?_
    simp only [C.f68r12,R,Nat.reduceEqDiff,h265,h264]
    refine hJ _ ?_
    refine tk_seq_k fun K n274 x275=>?_
    refine tk_cond (t:=decide (x39_256 < x38_255)) rfl (fun g276=>?_) (fun g276=>?_)
    ·replace hm:=cond_t hm g276
     refine tk_skip okM ?_
     refine n274 _ ?_
     refine tk_seq_k fun K n277 x278=>?_
     refine tk_block_k fun K n279 e280 x281=>?_
     refine tk_os okM hok fun J hJ=>?_
     obtain ⟨j282,ej282,hm⟩:=bind_s hm
     obtain ⟨mm283,k284⟩:=f267.h.blk (ck_lt ej282).1
     have a285:=lds_one (M:=Mt) (t:=3) k284 T.ag3 (seg_sl enc_int.len mm283 (ck_lt ej282).1)
     simp only [C.f68r13,R,Nat.reduceEqDiff,h265,ia100,ej282,h263,a285]
     refine hJ _ ?_
     refine tk_os okM hok fun J hJ=>?_
     have a286:=ld_one (M:=Mt) (t:=35) (off:=0 + 0) f266 T.ag35 Seg.refl
     obtain ⟨j287,ej287,hm⟩:=bind_s hm
     obtain ⟨mm288,k289⟩:=(h0.iv l0 (fun _=>by simp) i271).blk (ck_lt ej287).1
     have a290:=lds_one (M:=Mt) (t:=3) k289 T.ag3 ((seg_sl S_b.enc.len mm288 (ck_lt ej287).1).sub (S_b.seg7 (Sl.nth x0 j287)))
     simp only [C.f68r14,R,Nat.reduceEqDiff,fa37_0,h261,a286,ia35,ej287,fa72_7,a290]
     refine hJ _ ?_
     refine tk_cond (t:=!decide (((Sl.nth x0 j287).f_N) = (IntKind.i64.wrap (x39_256 + 1)))) rfl (fun g291=>?_) (fun g291=>?_)
     ·replace hm:=cond_t hm g291
      refine tk_os okM hok fun J hJ=>?_
      simp only [C.f68r15,R,Nat.reduceEqDiff]
      refine hJ _ ?_
      refine tk_ret okM ?_
      refine x281 _ _ (by simp) (by simp) ?_
      refine x278 _ _ (by simp) ?_
      refine x258 _ _ (by simp) ?_
      refine x252 _ _ (by simp) (by simp) ?_
      refine x248 _ _ (by simp) ?_
      obtain rfl:=Option.some.inj hm
      exact end_flat (.inl rfl) (vs:=[(.bool (false))]) (resT' (v:=(.bool (false))) rfl resN) (fm_cons rfl fm_nil)
     ·replace hm:=cond_f hm g291
      refine tk_skip okM ?_
      refine n279 _ ?_
      refine n277 _ ?_
      refine tk_oe okM hok fun J hJ=>?_
      simp only [C.f68r16,R,Nat.reduceEqDiff,h265]
      refine hJ _ ?_
      refine n257 _ ?_
      exact ⟨l253,x38_255,IntKind.i64.wrap (x39_256 + 1),b254,hm,h261,h262,h263,h264,rfl,f266,f267,f268,n269,n270,i271⟩
    ·replace hm:=cond_f hm g276
     refine tk_exit okM ?_
     refine x275 _ _ (by simp) ?_
     refine x258 _ _ (by simp) ?_
     refine e251 _ ?_
     refine n247 _ ?_
     refine tk_os okM hok fun J hJ=>?_
     simp only [C.f68r17,R,Nat.reduceEqDiff,o_makeFunc,mf_ok,h262]
     refine hJ _ ?_
     refine tk_os okM hok fun J hJ=>?_
     rw [C.f68r18]
     have a292:=ld_one (M:=Mt) (t:=100) f268 T.ag100 Seg.refl
     obtain ⟨y296,ey296,hm⟩:=bind_s hm
     refine rn_app_k (fun ⟨σ,H,_⟩=>Lk σ 64 (.bool (y296)) ∧ Iv c.nb [] H0 H) (fun J hJ=>?_) ?_
     ·skip
      cases g300:decide ((Sl.len l253) ≤ 9)
      ·skip
       have ey296:=cond_f ey296 g300
       obtain rfl:=Option.some.inj ey296
       simp only [C.f68r18p0,R,Nat.reduceEqDiff,a292,h262,ln100,g300]
       refine hJ _ ?_
       exact ⟨(by first | rfl | (simp only [g300]; rfl) | simp only [g300,Lk,RB,Nat.reduceEqDiff,not_false_eq_true]),i271⟩
      ·skip
       have ey296:=cond_t ey296 g300
       have a301:=ld_one (M:=Mt) (t:=35) (off:=0 + 0) f266 T.ag35 Seg.refl
       obtain ⟨v303,ev303,ey296⟩:=bind_s ey296
       have a302:=z_dV c.ro H259 x0 b0 l253 b44 b254 v303 (h0.iv l0 (fun _=>by simp) i271) f268 f267.h ev303
       obtain rfl:=Option.some.inj ey296
       simp only [C.f68r18p0,R,Nat.reduceEqDiff,a292,h262,ln100,g300,fa37_0,h261,a301,c_fn F106,a302]
       refine hJ _ ?_
       exact ⟨(by first | rfl | (simp only [g300]; rfl) | simp only [g300,Lk,RB,Nat.reduceEqDiff,not_false_eq_true]),i271⟩
     rintro ⟨σ304,H297,d305⟩ ⟨h298,i299⟩
     simp only [C.f68r18p1,R,Nat.reduceEqDiff,h298]
     refine hJ _ ?_
     refine tk_ret okM ?_
     obtain rfl:=Option.some.inj hm
     exact end_flat (.inl rfl) (vs:=[(.bool (y296))]) (resT' (v:=(.bool (y296))) rfl resN) (fm_cons rfl fm_nil)
def b_4 (n:Nat) (x0:Int):Option (Int):=(shrO .u64 x0 1).bind fun v1=>(shrO .u64 (IntKind.u64.wrap ((andI .u64 v1 6148914691236517205) + (andI .u64 x0 6148914691236517205))) 2).bind fun v2=>(shrO .u64 (IntKind.u64.wrap ((andI .u64 v2 3689348814741910323) + (andI .u64 (IntKind.u64.wrap ((andI .u64 v1 6148914691236517205) + (andI .u64 x0 6148914691236517205))) 3689348814741910323))) 4).bind fun v3=>(shrO .u64 (andI .u64 (IntKind.u64.wrap (v3 + (IntKind.u64.wrap ((andI .u64 v2 3689348814741910323) + (andI .u64 (IntKind.u64.wrap ((andI .u64 v1 6148914691236517205) + (andI .u64 x0 6148914691236517205))) 3689348814741910323))))) 1085102592571150095) 8).bind fun v4=>(shrO .u64 (IntKind.u64.wrap ((andI .u64 (IntKind.u64.wrap (v3 + (IntKind.u64.wrap ((andI .u64 v2 3689348814741910323) + (andI .u64 (IntKind.u64.wrap ((andI .u64 v1 6148914691236517205) + (andI .u64 x0 6148914691236517205))) 3689348814741910323))))) 1085102592571150095) + v4)) 16).bind fun v5=>(shrO .u64 (IntKind.u64.wrap ((IntKind.u64.wrap ((andI .u64 (IntKind.u64.wrap (v3 + (IntKind.u64.wrap ((andI .u64 v2 3689348814741910323) + (andI .u64 (IntKind.u64.wrap ((andI .u64 v1 6148914691236517205) + (andI .u64 x0 6148914691236517205))) 3689348814741910323))))) 1085102592571150095) + v4)) + v5)) 32).bind fun v6=>some (andI .i64 (IntKind.i64.wrap (IntKind.u64.wrap ((IntKind.u64.wrap ((IntKind.u64.wrap ((andI .u64 (IntKind.u64.wrap (v3 + (IntKind.u64.wrap ((andI .u64 v2 3689348814741910323) + (andI .u64 (IntKind.u64.wrap ((andI .u64 v1 6148914691236517205) + (andI .u64 x0 6148914691236517205))) 3689348814741910323))))) 1085102592571150095) + v4)) + v5)) + v6))) 127)
theorem w_e2 {call:CallF} (hok:CallOk Mt call) {n:Nat} {H0:Hp} {x0:Int} {r:Int} {ro:Nat} (hro:ro ≤ H0.length) (hm:b_4 n x0 = some r) :
  Pt Mt ro 72 [(.int .u64 x0)] H0 (.int .i64 (r)) H0 []:=by
 refine pt_new0 okM F72d (by exact Nat.le_of_ble_eq_true rfl) ?_ hro
 intro c hnt hnb hcr
 have hcn:c.ro ≤ c.nb:=by omega
 have iv:Iv c.nb [] H0 H0:=by rw [hnb]; exact iv_refl
 rw [show args0 [(.int .u64 x0)] = [(0,(.int .u64 x0))] from rfl]
 rw [b_4] at hm
 simp only [C.f72]
 refine tk_os okM hok fun J hJ=>?_
 simp only [C.f72r0,R,Nat.reduceEqDiff]
 refine hJ _ ?_
 refine tk_os okM hok fun J hJ=>?_
 obtain ⟨v1,ev1,hm⟩:=bind_s hm
 simp only [C.f72r1,R,Nat.reduceEqDiff,ev1]
 refine hJ _ ?_
 refine tk_os okM hok fun J hJ=>?_
 obtain ⟨v2,ev2,hm⟩:=bind_s hm
 simp only [C.f72r2,R,Nat.reduceEqDiff,ev2]
 refine hJ _ ?_
 refine tk_os okM hok fun J hJ=>?_
 obtain ⟨v3,ev3,hm⟩:=bind_s hm
 simp only [C.f72r3,R,Nat.reduceEqDiff,ev3]
 refine hJ _ ?_
 refine tk_os okM hok fun J hJ=>?_
 obtain ⟨v4,ev4,hm⟩:=bind_s hm
 simp only [C.f72r4,R,Nat.reduceEqDiff,ev4]
 refine hJ _ ?_
 refine tk_os okM hok fun J hJ=>?_
 obtain ⟨v5,ev5,hm⟩:=bind_s hm
 simp only [C.f72r5,R,Nat.reduceEqDiff,ev5]
 refine hJ _ ?_
 refine tk_os okM hok fun J hJ=>?_
 obtain ⟨v6,ev6,hm⟩:=bind_s hm
 simp only [C.f72r6,R,Nat.reduceEqDiff,ev6]
 refine hJ _ ?_
 refine tk_os okM hok fun J hJ=>?_
 simp only [C.f72r7,R,Nat.reduceEqDiff,cv_int (M:=Mt) Tryz.underlying22 Tryz.underlying3]
 refine hJ _ ?_
 refine tk_ret okM ?_
 obtain rfl:=Option.some.inj hm
 exact end_flat (.inl rfl) (vs:=[(.int .i64 (andI .i64 (IntKind.i64.wrap (IntKind.u64.wrap ((IntKind.u64.wrap ((IntKind.u64.wrap ((andI .u64 (IntKind.u64.wrap (v3 + (IntKind.u64.wrap ((andI .u64 v2 3689348814741910323) + (andI .u64 (IntKind.u64.wrap ((andI .u64 v1 6148914691236517205) + (andI .u64 x0 6148914691236517205))) 3689348814741910323))))) 1085102592571150095) + v4)) + v5)) + v6))) 127))]) (resT' (v:=(.int .i64 (andI .i64 (IntKind.i64.wrap (IntKind.u64.wrap ((IntKind.u64.wrap ((IntKind.u64.wrap ((andI .u64 (IntKind.u64.wrap (v3 + (IntKind.u64.wrap ((andI .u64 v2 3689348814741910323) + (andI .u64 (IntKind.u64.wrap ((andI .u64 v1 6148914691236517205) + (andI .u64 x0 6148914691236517205))) 3689348814741910323))))) 1085102592571150095) + v4)) + v5)) + v6))) 127))) rfl resN) (fm_cons rfl fm_nil)
def b_bn (c_X:T_cp) (c_0:T_co) (n:Nat) (x42:S_a) (x43:S_a):Option (S_a):=some x43
def b_ce (c_X:T_cp) (c_0:T_co) (n:Nat) (x0:S_d):Option (S_a):=(c_0 x0).bind fun v63=>(c_X x0).bind fun v66=>bif decide (v66 = 1) then (b_bn c_X c_0 n S_a.zero (S_a.w1 (S_a.w0 (({ S_a.zero with f_Facts:=({ S_c.zero with f_First:=x0 }:S_c) }:S_a)) (S_c.w3 ((({ S_a.zero with f_Facts:=({ S_c.zero with f_First:=x0 }:S_c) }:S_a)).f_Facts) (strOf (some ([v63.1]:List Int))))) true)) else (b_bn c_X c_0 n S_a.zero (({ S_a.zero with f_Facts:=({ S_c.zero with f_First:=x0 }:S_c) }:S_a)))
theorem w_gc {call:CallF} (hok:CallOk Mt call) {n:Nat} {c_X:T_cp} (z_fl:A_d7 call c_X) {c_0:T_co} (z_fw:A_d5 call c_0) {H0:Hp} {x0:S_d} {r:S_a} {ro:Nat} (hro:ro ≤ H0.length) (hm:b_ce c_X c_0 n x0 = some r) (hG1:TabH1 H0) :
  Pt Mt ro 86 [(vAgg (S_d.c x0))] H0 (vAgg (S_a.c (r))) H0 []:=by
 refine pt_new0 okM F86d (by exact Nat.le_of_ble_eq_true rfl) ?_ hro
 intro c hnt hnb hcr
 have hcn:c.ro ≤ c.nb:=by omega
 have iv:Iv c.nb [] H0 H0:=by rw [hnb]; exact iv_refl
 rw [show args0 [(vAgg (S_d.c x0))] = [(0,(vAgg (S_d.c x0)))] from rfl]
 rw [b_ce] at hm
 simp only [C.f86]
 refine tk_os okM hok fun J hJ=>?_
 obtain ⟨b1,H2,a3,f4,q5,r6,x7,i8⟩:=bx_ok (M:=Mt) (t:=25) (u:=(vAgg (S_d.c (x0)))) (cs:=S_d.c x0) H0 iv.le (by rw [S_d.enc.len]; exact T.sz25) vAgg_cells (S_d.enc.one _)
 have i9:=i8 _ _ iv
 obtain ⟨b11,H12,a13,f14,q15,r16,x17,i18⟩:=al_ok H2 107 (S_a.c S_a.zero) i9.le
 have i19:=i18 _ _ i9
 have f20:=x17 _ _ f4
 simp only [C.f86r0,R,Nat.reduceEqDiff,a3,zs107,a13]
 refine hJ _ ?_
 refine tk_os okM hok fun J hJ=>?_
 have a22:=ld_agg (M:=Mt) (t:=25) f20 T.ag25 (by rw [S_d.enc.len]; exact T.sz25) Seg.refl
 obtain ⟨b23,H24,a25,f26,q27,r28,x29,i30⟩:=al_ok H12 107 (S_a.c S_a.zero) i19.le
 have i31:=i30 _ _ i19
 have f32:=x29 _ _ f20
 have f33:=x29 _ _ f14
 obtain ⟨H35,a36,f37,u38⟩:=st_ok (M:=Mt) (t:=107) (v:=(vAgg (S_a.c (({ S_a.zero with f_Facts:=({ S_c.zero with f_First:=x0 }:S_c) }:S_a))))) (c:=S_a.c (({ S_a.zero with f_Facts:=({ S_c.zero with f_First:=x0 }:S_c) }:S_a))) (cs':=S_a.c (({ S_a.zero with f_Facts:=({ S_c.zero with f_First:=x0 }:S_c) }:S_a))) f26 (by rw [S_a.enc.len]; exact T.sz107) vAgg_cells (S_a.enc.one _) (Nat.le_trans hcn r28) (le0 S_a.enc.len) (wrs_all (eqL S_a.enc.len))
 have i39:=i31.up u38 r28
 have f40:=(u38.get _ (ne_len f20 q27)).trans f32
 have f41:=(u38.get _ (ne_len f14 q27)).trans f33
 simp only [C.f86r1,R,Nat.reduceEqDiff,a22,bd54_0,bd107_0,zs107,a25,a36]
 refine hJ _ ?_
 refine tk_seq_j (fun ⟨σ,H,_⟩=>∃ x42 x43,b_bn c_X c_0 n x42 x43 = some r ∧ Lk σ 2 (.pointer (some ⟨b11,0,none⟩)) ∧ Lk σ 3 (.pointer (some ⟨b23,0,none⟩)) ∧ H[b11]? = some (.cells (S_a.c x42) 107) ∧ H[b23]? = some (.cells (S_a.c x43) 107) ∧ Iv c.nb [] H0 H) ?_ ?_
 ·skip
  rintro ⟨σ50,H44,d51⟩ ⟨x42,x43,hm,h45,h46,f47,f48,i49⟩
  rw [b_bn] at hm
  refine tk_os okM hok fun J hJ=>?_
  have a52:=ld_agg (M:=Mt) (t:=107) f48 T.ag107 (by rw [S_a.enc.len]; exact T.sz107) Seg.refl
  obtain ⟨H53,a54,f55,u56⟩:=st_ok (M:=Mt) (t:=107) (v:=(vAgg (S_a.c (x43)))) (c:=S_a.c x43) (cs':=S_a.c x43) f47 (by rw [S_a.enc.len]; exact T.sz107) vAgg_cells (S_a.enc.one _) (Nat.le_trans hcn r16) (le0 S_a.enc.len) (wrs_all (eqL S_a.enc.len))
  have i57:=i49.up u56 r16
  have f58:=(u56.get _ (ne_len f14 q27).symm).trans f48
  simp only [C.f86r5,R,Nat.reduceEqDiff,a52,h46,a54,h45]
  refine hJ _ ?_
  refine tk_ret okM ?_
  obtain rfl:=Option.some.inj hm
  exact end_flat (.inl rfl) (vs:=[(vAgg (S_a.c (x43)))]) (resC' (v:=(vAgg (S_a.c (x43)))) h45 (ldv_of (ld_agg (M:=Mt) (t:=107) f55 T.ag107 (by rw [S_a.enc.len]; exact T.sz107) Seg.refl)) resN) (fm_cons (flat_agg S_a.enc _) fm_nil)
 ·refine fun K n59 x60=>?_
  refine tk_os okM hok fun J hJ=>?_
  have a61:=ld_agg (M:=Mt) (t:=25) f40 T.ag25 (by rw [S_d.enc.len]; exact T.sz25) Seg.refl
  obtain ⟨v63,ev63,hm⟩:=bind_s hm
  have a62:=z_fw c.ro H35 x0 v63 (tabIv1 i39 hnb hG1) ev63
  simp only [C.f86r2,R,Nat.reduceEqDiff,a61,c_fn F120,a62]
  refine hJ _ ?_
  refine tk_os okM hok fun J hJ=>?_
  have a64:=ld_agg (M:=Mt) (t:=25) f40 T.ag25 (by rw [S_d.enc.len]; exact T.sz25) Seg.refl
  obtain ⟨v66,ev66,hm⟩:=bind_s hm
  have a65:=z_fl c.ro H35 x0 v66 ev66
  simp only [C.f86r3,R,Nat.reduceEqDiff,a64,c_fn F44,a65]
  refine hJ _ ?_
  refine tk_cond (t:=decide (v66 = 1)) rfl (fun g67=>?_) (fun g67=>?_)
  ·replace hm:=cond_t hm g67
   refine tk_oe okM hok fun J hJ=>?_
   obtain ⟨b68,H69,a70,f71,q72,r73,x74,i75⟩:=bs_ok (M:=Mt) (t:=128) (e:=5) (c:=(cInt .u8)) (l:=([v63.1]:List Int)) (ps:=[(0,(.int .u8 (v63.1)))]) (n:=1) H35 i39.le Tryz.underlying128 (zs5) rfl (by simp only [List.length_cons,List.length_nil]; decide) (fun _=>rfl) enc_int.one rfl rfl
   have i76:=i75 _ _ i39
   have f77:=x74 _ _ f41
   have f78:=x74 _ _ f37
   obtain ⟨H80,a81,f82,u83⟩:=st_ok (M:=Mt) (t:=9) (v:=(.string (strOf (some ([v63.1]:List Int))))) (c:=cStr (strOf (some ([v63.1]:List Int)))) (cs':=S_a.c (S_a.w0 (({ S_a.zero with f_Facts:=({ S_c.zero with f_First:=x0 }:S_c) }:S_a)) (S_c.w3 ((({ S_a.zero with f_Facts:=({ S_c.zero with f_First:=x0 }:S_c) }:S_a)).f_Facts) (strOf (some ([v63.1]:List Int)))))) f78 (by rw [enc_str.len]; exact T.sz9) rfl (enc_str.one _) (Nat.le_trans hcn r28) (Nat.le_trans (Nat.le_of_eq (congrArg _ (eqL enc_str.len))) ((Seg.refl.sub (S_a.seg0 (({ S_a.zero with f_Facts:=({ S_c.zero with f_First:=x0 }:S_c) }:S_a)))).sub (S_c.seg3 ((({ S_a.zero with f_Facts:=({ S_c.zero with f_First:=x0 }:S_c) }:S_a)).f_Facts))).2) (by rw [wrs_in (Seg.refl.sub (S_a.seg0 (({ S_a.zero with f_Facts:=({ S_c.zero with f_First:=x0 }:S_c) }:S_a)))) (by have:=trivial; simp only [enc_str.len,S_c.enc.len]; omega),S_c.wr3 ((({ S_a.zero with f_Facts:=({ S_c.zero with f_First:=x0 }:S_c) }:S_a)).f_Facts) (strOf (some ([v63.1]:List Int))),Nat.zero_add,S_a.wr0 (({ S_a.zero with f_Facts:=({ S_c.zero with f_First:=x0 }:S_c) }:S_a)) (S_c.w3 ((({ S_a.zero with f_Facts:=({ S_c.zero with f_First:=x0 }:S_c) }:S_a)).f_Facts) (strOf (some ([v63.1]:List Int))))])
   have i84:=i76.up u83 r28
   have f85:=(u83.get _ (ne_len f14 q27)).trans f77
   have f86:=f71.up u83 (fun _=>(ne_len f37 q72).symm)
   obtain ⟨H87,a88,f89,u90⟩:=st_ok (M:=Mt) (t:=4) (v:=(.bool (true))) (c:=cBool true) (cs':=S_a.c (S_a.w1 (S_a.w0 (({ S_a.zero with f_Facts:=({ S_c.zero with f_First:=x0 }:S_c) }:S_a)) (S_c.w3 ((({ S_a.zero with f_Facts:=({ S_c.zero with f_First:=x0 }:S_c) }:S_a)).f_Facts) (strOf (some ([v63.1]:List Int))))) true)) f82 (by rw [enc_bool.len]; exact T.sz4) rfl (enc_bool.one _) (Nat.le_trans hcn r28) (Nat.le_trans (Nat.le_of_eq (congrArg _ (eqL enc_bool.len))) (Seg.refl.sub (S_a.seg1 (S_a.w0 (({ S_a.zero with f_Facts:=({ S_c.zero with f_First:=x0 }:S_c) }:S_a)) (S_c.w3 ((({ S_a.zero with f_Facts:=({ S_c.zero with f_First:=x0 }:S_c) }:S_a)).f_Facts) (strOf (some ([v63.1]:List Int))))))).2) (by rw [Nat.zero_add,S_a.wr1 (S_a.w0 (({ S_a.zero with f_Facts:=({ S_c.zero with f_First:=x0 }:S_c) }:S_a)) (S_c.w3 ((({ S_a.zero with f_Facts:=({ S_c.zero with f_First:=x0 }:S_c) }:S_a)).f_Facts) (strOf (some ([v63.1]:List Int))))) true])
   have i91:=i84.up u90 r28
   have f92:=(u90.get _ (ne_len f14 q27)).trans f85
   have f93:=f86.up u90 (fun _=>(ne_len f37 q72).symm)
   simp only [C.f86r4,R,Nat.reduceEqDiff,a70,cv_b2s (M:=Mt) (t:=128) (u:=9) f71.h Tryz.underlying128 Tryz.underlying9 Tryz.underlying5,fa107_0,fa54_3,a81,fa107_1,a88]
   refine hJ _ ?_
   refine n59 _ ?_
   exact ⟨S_a.zero,S_a.w1 (S_a.w0 (({ S_a.zero with f_Facts:=({ S_c.zero with f_First:=x0 }:S_c) }:S_a)) (S_c.w3 ((({ S_a.zero with f_Facts:=({ S_c.zero with f_First:=x0 }:S_c) }:S_a)).f_Facts) (strOf (some ([v63.1]:List Int))))) true,hm,rfl,rfl,f92,f89,i91⟩
  ·replace hm:=cond_f hm g67
   refine tk_skip okM ?_
   refine n59 _ ?_
   exact ⟨S_a.zero,({ S_a.zero with f_Facts:=({ S_c.zero with f_First:=x0 }:S_c) }:S_a),hm,rfl,rfl,f41,f37,i39⟩
def b_da (n:Nat):Option (S_a):=some (({ S_a.zero with f_Facts:=({ S_c.zero with f_Open:=true }:S_c),f_whole:=true,f_none:=true }:S_a))
theorem w_fO {call:CallF} (hok:CallOk Mt call) {n:Nat} {H0:Hp} {r:S_a} {ro:Nat} (hro:ro ≤ H0.length) (hm:b_da n = some r) :
  Pt Mt ro 87 [] H0 (vAgg (S_a.c (r))) H0 []:=by
 refine pt_new0 okM F87d (by exact Nat.le_of_ble_eq_true rfl) ?_ hro
 intro c hnt hnb hcr
 have hcn:c.ro ≤ c.nb:=by omega
 have iv:Iv c.nb [] H0 H0:=by rw [hnb]; exact iv_refl
 rw [show args0 [] = [] from rfl]
 rw [b_da] at hm
 simp only [C.f87]
 refine tk_os okM hok fun J hJ=>?_
 obtain ⟨b1,H2,a3,f4,q5,r6,x7,i8⟩:=al_ok H0 107 (S_a.c S_a.zero) iv.le
 have i9:=i8 _ _ iv
 simp only [C.f87r0,R,Nat.reduceEqDiff,zs107,a3]
 refine hJ _ ?_
 refine tk_os okM hok fun J hJ=>?_
 obtain ⟨H11,a12,f13,u14⟩:=st_ok (M:=Mt) (t:=107) (v:=(vAgg (S_a.c (({ S_a.zero with f_Facts:=({ S_c.zero with f_Open:=true }:S_c),f_whole:=true,f_none:=true }:S_a))))) (c:=S_a.c (({ S_a.zero with f_Facts:=({ S_c.zero with f_Open:=true }:S_c),f_whole:=true,f_none:=true }:S_a))) (cs':=S_a.c (({ S_a.zero with f_Facts:=({ S_c.zero with f_Open:=true }:S_c),f_whole:=true,f_none:=true }:S_a))) f4 (by rw [S_a.enc.len]; exact T.sz107) vAgg_cells (S_a.enc.one _) (Nat.le_trans hcn r6) (le0 S_a.enc.len) (wrs_all (eqL S_a.enc.len))
 have i15:=i9.up u14 r6
 simp only [C.f87r1,R,Nat.reduceEqDiff,bd54_1,bd107_0_1_2,a12]
 refine hJ _ ?_
 refine tk_ret okM ?_
 obtain rfl:=Option.some.inj hm
 exact end_flat (.inl rfl) (vs:=[(vAgg (S_a.c (({ S_a.zero with f_Facts:=({ S_c.zero with f_Open:=true }:S_c),f_whole:=true,f_none:=true }:S_a))))]) (resC' (v:=(vAgg (S_a.c (({ S_a.zero with f_Facts:=({ S_c.zero with f_Open:=true }:S_c),f_whole:=true,f_none:=true }:S_a))))) rfl (ldv_of (ld_agg (M:=Mt) (t:=107) f13 T.ag107 (by rw [S_a.enc.len]; exact T.sz107) Seg.refl)) resN) (fm_cons (flat_agg S_a.enc _) fm_nil)
end Go.Proofs.YtaadjlpfdajggaaGreatDoor
