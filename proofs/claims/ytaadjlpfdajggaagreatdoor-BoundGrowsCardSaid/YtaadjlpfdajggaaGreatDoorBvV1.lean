import Derived.Test.YtaadjlpfdajggaaGreatDoorBvBase
set_option maxRecDepth 100000
set_option linter.unusedVariables false
set_option linter.unusedSimpArgs false
namespace Go.Proofs.YtaadjlpfdajggaaGreatDoor
open Go Go.AM
attribute [local congr] bind_first map_first
def b_by (c_8:T_c2) (n:Nat) (x0_1:Nat):Option (Bool):=some (fcmp .gtr x0_1 ((9218868437227405311:Nat)))
def b_dd (c_8:T_c2) (n:Nat) (x0:Nat) (x1:Int):Option (Bool):=bif decide (x1 = 0) then ((c_8 x0).bind fun v11=>b_by c_8 n v11) else (bif decide (x1 < 0) then (b_by c_8 n (fneg x0)) else (b_by c_8 n x0))
theorem w_fx {call:CallF} (hok:CallOk Mt call) {n:Nat} {c_8:T_c2} (z_fN:A_eS call c_8) {H0:Hp} {x0:Nat} {x1:Int} {r:Bool} {ro:Nat} (hro:ro ≤ H0.length) (hm:b_dd c_8 n x0 x1 = some r) :
  Pt Mt ro 55 [(.float .f64 x0),(.int .i64 x1)] H0 (.bool (r)) H0 []:=by
 refine pt_new0 okM F55d (by exact Nat.le_of_ble_eq_true rfl) ?_ hro
 intro c hnt hnb hcr
 have hcn:c.ro ≤ c.nb:=by omega
 have iv:Iv c.nb [] H0 H0:=by rw [hnb]; exact iv_refl
 rw [aI2]
 rw [b_dd] at hm
 simp only [C.f55]
 refine tS hok fun J hJ=>?_
 simp only [C.f55r0,R,Nat.reduceEqDiff]
 refine hJ _ ?_
 refine tk_seq_j (fun ⟨σ,H,_⟩=>∃ x0_1,b_by c_8 n x0_1 = some r ∧ Lk σ 0 (.float .f64 x0_1) ∧ Iv c.nb [] H0 H) ?_ ?_
 ·skip
  rintro ⟨σ5,H2,d6⟩ ⟨x0_1,hm,h3,i4⟩
  rw [b_by] at hm
  refine tS hok fun J hJ=>?_
  simp only [C.f55r5,R,Nat.reduceEqDiff,h3,bin_fgtr]
  refine hJ _ ?_
  refine tR ?_
  obtain rfl:=Option.some.inj hm
  exact ef1 rfl rfl
 ·refine fun K n7 x8=>?_
  refine tS hok fun J hJ=>?_
  simp only [C.f55r1,R,Nat.reduceEqDiff]
  refine hJ _ ?_
  refine tC rfl hm (fun g9 hm=>?_) (fun g9 hm=>?_)
  ·skip
   refine tE hok fun J hJ=>?_
   obtain ⟨v11,ev11,hm⟩:=bind_s hm
   have a10:=z_fN c.ro H0 x0 v11 ev11
   simp only [C.f55r2,R,Nat.reduceEqDiff,c_fn F84,a10]
   refine hJ _ ?_
   refine n7 _ ?_
   exact ⟨v11,hm,rfl,iv⟩
  ·skip
   refine tS hok fun J hJ=>?_
   simp only [C.f55r3,R,Nat.reduceEqDiff]
   refine hJ _ ?_
   refine tC rfl hm (fun g12 hm=>?_) (fun g12 hm=>?_)
   ·skip
    refine tE hok fun J hJ=>?_
    simp only [C.f55r4,R,Nat.reduceEqDiff,un_fneg]
    refine hJ _ ?_
    refine n7 _ ?_
    exact ⟨fneg x0,hm,rfl,iv⟩
   ·skip
    refine tK ?_
    refine n7 _ ?_
    exact ⟨x0,hm,rfl,iv⟩
def b_cm (n:Nat) (x3_1:Int):Option (Nat):=some (fBits x3_1)
def b_dL (n:Nat) (x0:Int):Option (Nat):=bif decide (0 ≤ x0) then (b_cm n 9218868437227405312) else (b_cm n 18442240474082181120)
theorem w_fV {call:CallF} (hok:CallOk Mt call) {n:Nat} {H0:Hp} {x0:Int} {r:Nat} {ro:Nat} (hro:ro ≤ H0.length) (hm:b_dL n x0 = some r) :
  Pt Mt ro 56 [(.int .i64 x0)] H0 (.float .f64 (r)) H0 []:=by
 refine pt_new0 okM F56d (by exact Nat.le_of_ble_eq_true rfl) ?_ hro
 intro c hnt hnb hcr
 have hcn:c.ro ≤ c.nb:=by omega
 have iv:Iv c.nb [] H0 H0:=by rw [hnb]; exact iv_refl
 rw [aI1]
 rw [b_dL] at hm
 simp only [C.f56]
 refine tS hok fun J hJ=>?_
 simp only [C.f56r0,R,Nat.reduceEqDiff]
 refine hJ _ ?_
 refine tS hok fun J hJ=>?_
 simp only [C.f56r1,R,Nat.reduceEqDiff]
 refine hJ _ ?_
 refine tk_seq_j (fun ⟨σ,H,_⟩=>∃ x3_1,b_cm n x3_1 = some r ∧ Lk σ 3 (.int .u64 x3_1) ∧ Iv c.nb [] H0 H) ?_ ?_
 ·skip
  rintro ⟨σ5,H2,d6⟩ ⟨x3_1,hm,h3,i4⟩
  rw [b_cm] at hm
  refine tS hok fun J hJ=>?_
  simp only [C.f56r5,R,Nat.reduceEqDiff,h3,c_x (show Mt.F 85 = none from rfl),x85]
  refine hJ _ ?_
  refine tR ?_
  obtain rfl:=Option.some.inj hm
  exact ef1 rfl rfl
 ·refine fun K n7 x8=>?_
  refine tS hok fun J hJ=>?_
  simp only [C.f56r2,R,Nat.reduceEqDiff]
  refine hJ _ ?_
  refine tC rfl hm (fun g9 hm=>?_) (fun g9 hm=>?_)
  ·skip
   refine tE hok fun J hJ=>?_
   simp only [C.f56r3,R,Nat.reduceEqDiff]
   refine hJ _ ?_
   refine n7 _ ?_
   exact ⟨9218868437227405312,hm,rfl,iv⟩
  ·skip
   refine tE hok fun J hJ=>?_
   simp only [C.f56r4,R,Nat.reduceEqDiff]
   refine hJ _ ?_
   refine n7 _ ?_
   exact ⟨18442240474082181120,hm,rfl,iv⟩
def b_7 (c_c:T_F) (c_m:T_bv) (n:Nat) (q1:Sl Int → Int → Int → Option ((Sl Int) × Bool)) (x0:(Sl S_a)) (l81:Sl Int) (x5_83:Int) (x84:S_a) (x7_85:Int) (x8_86:Int) (x9_87:Int) (x17_88:Int) (x18_89:Int):Option ((Sl Int) × Bool):=(c_m x84).bind fun v114=>bif ((!v114) || (!decide (x84.f_A = x7_85))) || (!decide (x84.f_B = x8_86)) then (some (none,false)) else ((ck (Sl.l l81).length x5_83).bind fun j153=>q1 (Sl.put l81 j153 x9_87) x17_88 (IntKind.i64.wrap (x18_89 + 1)))
def b_I (c_c:T_F) (c_m:T_bv) (n:Nat) (x0:(Sl S_a)):Nat → Sl Int → Int → Int → Option ((Sl Int) × Bool)
 | 0,_,_,_=>none
 | k + 1,l31,x17_33,x18_34=>bif decide (x18_34 < x17_33) then ((ck (Sl.l x0).length x18_34).bind fun j58=>(c_c ((Sl.nth x0 j58).f_Kind)).bind fun v165=>bif decide (v165 = 1) then (bif decide ((IntKind.i64.wrap (x18_34 - 1)) < 0) then (some (none,false)) else ((ck (Sl.l l31).length (IntKind.i64.wrap (x18_34 - 1))).bind fun j173=>b_7 c_c c_m n (b_I c_c c_m n x0 k) x0 l31 x18_34 (Sl.nth x0 j58) (IntKind.i64.wrap (x18_34 - 1)) 0 (IntKind.i64.wrap (1 + (Sl.nth l31 j173))) x17_33 x18_34)) else (bif decide (v165 = 2) then (bif decide ((IntKind.i64.wrap (x18_34 - 1)) < 0) then (some (none,false)) else ((ck (Sl.l l31).length (IntKind.i64.wrap (x18_34 - 1))).bind fun j181=>bif decide ((IntKind.i64.wrap ((IntKind.i64.wrap (x18_34 - 1)) - (Sl.nth l31 j181))) < 0) then (some (none,false)) else ((ck (Sl.l l31).length (IntKind.i64.wrap ((IntKind.i64.wrap (x18_34 - 1)) - (Sl.nth l31 j181)))).bind fun j188=>b_7 c_c c_m n (b_I c_c c_m n x0 k) x0 l31 x18_34 (Sl.nth x0 j58) (IntKind.i64.wrap ((IntKind.i64.wrap (x18_34 - 1)) - (Sl.nth l31 j181))) (IntKind.i64.wrap (x18_34 - 1)) (IntKind.i64.wrap (1 + (IntKind.i64.wrap ((Sl.nth l31 j188) + (Sl.nth l31 j181))))) x17_33 x18_34))) else (b_7 c_c c_m n (b_I c_c c_m n x0 k) x0 l31 x18_34 (Sl.nth x0 j58) 0 0 1 x17_33 x18_34))) else ((bif decide (0 ≤ (IntKind.i64.wrap ((Sl.len x0) - 1))) then ((ck (Sl.l l31).length (IntKind.i64.wrap ((Sl.len x0) - 1))).bind fun j196=>some (decide ((Sl.nth l31 j196) = (Sl.len x0)))) else some false).bind fun y201=>some (l31,y201))
def b_cF (c_c:T_F) (c_m:T_bv) (n:Nat) (x0:(Sl S_a)):Option ((Sl Int) × Bool):=(Sl.make 8 (Sl.len x0) (Sl.len x0) (0:Int)).bind fun l13=>b_I c_c c_m n x0 n l13 (Sl.len x0) 0
theorem w_fL {call:CallF} (hok:CallOk Mt call) {n:Nat} {c_c:T_F} (z_bP:A_c0 call c_c) {c_m:T_bv} (z_eD:A_dq call c_m) {H0:Hp} {x0:(Sl S_a)} {b0:Nat} {r:(Sl Int) × Bool} {ro:Nat} (hro:ro ≤ H0.length) (h0:SlH H0 S_a.c 72 x0 b0) (hm:b_cF c_c c_m n x0 = some r) :
  Pt Mt ro 62 [(vAgg [slV x0 b0])] H0 (.tuple [(slV r.1 H0.length),(.bool (r.2))].toArray) (H0 ++ slB (cInt .i64) 3 r.1) []:=by
 refine pt_new okM F62d (by exact Nat.le_of_ble_eq_true rfl) ?_ hro
 intro c hnt hnb hcr
 have hcn:c.ro ≤ c.nb:=by omega
 have l0:x0 ≠ none → b0 < c.nb:=fun h=>by rw [hnb]; exact h0.lt h
 have iv:Iv c.nb [] H0 H0:=by rw [hnb]; exact iv_refl
 rw [aI1]
 rw [b_cF] at hm
 simp only [C.f62,C.f62b0]
 refine tS hok fun J hJ=>?_
 obtain ⟨b2,H3,a4,f5,q6,r7,x8,i9⟩:=bx_ok (M:=Mt) (t:=37) (u:=(vAgg [(slV x0 b0)])) (cs:=[(slV x0 b0)]) H0 iv.le T.sz37 vAgg_cells one_sl
 have i10:=i9 _ _ iv
 simp only [C.f62r0,R,Nat.reduceEqDiff,a4]
 refine hJ _ ?_
 refine tS hok fun J hJ=>?_
 have a12:=lo (off:=0 + 0) f5 T.ag35 Seg.refl
 obtain ⟨l13,el13,hm⟩:=bind_s hm
 obtain ⟨b14,H15,a16,f17,q18,r19,x20,i21⟩:=mk_ok (M:=Mt) (t:=100) (e:=3) (k:=.i64) (k':=.i64) H3 i10.le Tryz.underlying100 T.by3 zs3 el13
 have i22:=i21 _ _ i10
 have f23:=x20 _ _ f5
 simp only [C.f62r1,R,Nat.reduceEqDiff,fa37_0,a12,ln35,o_makeSlice,a16]
 refine hJ _ ?_
 refine tk_seq_k fun K n25 x26=>?_
 refine tS hok fun J hJ=>?_
 have a27:=lo (off:=0 + 0) f23 T.ag35 Seg.refl
 simp only [C.f62r2,R,Nat.reduceEqDiff,fa37_0,a27,ln35]
 refine hJ _ ?_
 refine tk_block_k fun K n28 e29 x30=>?_
 refine tk_loop_k (n:=n) (fun k1 ⟨σ,H,_⟩=>∃ l31 x17_33 x18_34 b32,b_I c_c c_m n x0 k1 l31 x17_33 x18_34 = some r ∧ Lk σ 1 (.pointer (some ⟨b2,0,none⟩)) ∧ Lk σ 4 (slV l31 b32) ∧ Lk σ 16 (slV x0 b0) ∧ Lk σ 17 (.int .i64 x17_33) ∧ Lk σ 18 (.int .i64 x18_34) ∧ H[b2]? = some (.cells [(slV x0 b0)] 37) ∧ SlO c.nb H (cInt .i64) 3 l31 b32 ∧ (l31 ≠ none → b32 ≠ b2) ∧ Iv c.nb [] H0 H) ?_ ?_ ?_
 ·exact ⟨l13,Sl.len x0,0,b14,hm,rfl,rfl,rfl,rfl,rfl,f23,f17,(fun _=>(ne_len f5 q18).symm),i22⟩
 ·rintro ⟨σ,H,d⟩ ⟨_,_,_,_,hm,_⟩
  cases hm
 ·intro k1 K n35 x36
  rintro ⟨σ48,H37,d49⟩ ⟨l31,x17_33,x18_34,b32,hm,h39,h40,h41,h42,h43,f44,f45,n46,i47⟩
  rw [b_I.eq_2] at hm
  refine tS hok fun J hJ=>?_
  simp only [C.f62r3,R,Nat.reduceEqDiff,h43,h42]
  refine hJ _ ?_
  refine tk_seq_k fun K n50 x51=>?_
  refine tC rfl hm (fun g52 hm=>?_) (fun g52 hm=>?_)
  ·skip
   refine tK ?_
   refine n50 _ ?_
   refine tk_seq_k fun K n53 x54=>?_
   refine tk_block_k fun K n55 e56 x57=>?_
   refine tS hok fun J hJ=>?_
   obtain ⟨j58,ej58,hm⟩:=bind_s hm
   obtain ⟨mm59,k60⟩:=(h0.iv l0 (fun _=>by simp) i47).blk (ck_lt ej58).1
   have a61:=lsa k60 T.ag72 (by rw [S_a.enc.len]; exact T.sz72) (seg_sl S_a.enc.len mm59 (ck_lt ej58).1)
   obtain ⟨b62,H63,a64,f65,q66,r67,x68,i69⟩:=al_ok H37 72 (S_a.c S_a.zero) i47.le
   have i70:=i69 _ _ i47
   have f71:=x68 _ _ f44
   have f72:=f45.ex x68
   obtain ⟨H74,a75,f76,u77⟩:=st_ok (M:=Mt) (t:=72) (v:=(vAgg (S_a.c (Sl.nth x0 j58)))) (c:=S_a.c (Sl.nth x0 j58)) (cs':=S_a.c (Sl.nth x0 j58)) f65 (by rw [S_a.enc.len]; exact T.sz72) vAgg_cells (S_a.enc.one _) (Nat.le_trans hcn r67) (le0 S_a.enc.len) (wrs_all (eqL S_a.enc.len))
   have i78:=i70.up u77 r67
   have f79:=(u77.get _ (ne_len f44 q66)).trans f71
   have f80:=f72.up u77 (f45.h.ne q66)
   simp only [C.f62r4,R,Nat.reduceEqDiff,h43,ia35,ej58,h41,a61,zs72,a64,a75]
   refine hJ _ ?_
   refine tS hok fun J hJ=>?_
   simp only [C.f62r5,R,Nat.reduceEqDiff]
   refine hJ _ ?_
   refine tk_seq_j (fun ⟨σ,H,_⟩=>∃ l81 x5_83 x84 x7_85 x8_86 x9_87 x17_88 x18_89 b82,b_7 c_c c_m n (b_I c_c c_m n x0 k1) x0 l81 x5_83 x84 x7_85 x8_86 x9_87 x17_88 x18_89 = some r ∧ Lk σ 1 (.pointer (some ⟨b2,0,none⟩)) ∧ Lk σ 4 (slV l81 b82) ∧ Lk σ 5 (.int .i64 x5_83) ∧ Lk σ 6 (.pointer (some ⟨b62,0,none⟩)) ∧ Lk σ 7 (.int .i64 x7_85) ∧ Lk σ 8 (.int .i64 x8_86) ∧ Lk σ 9 (.int .i64 x9_87) ∧ Lk σ 16 (slV x0 b0) ∧ Lk σ 17 (.int .i64 x17_88) ∧ Lk σ 18 (.int .i64 x18_89) ∧ H[b2]? = some (.cells [(slV x0 b0)] 37) ∧ SlO c.nb H (cInt .i64) 3 l81 b82 ∧ H[b62]? = some (.cells (S_a.c x84) 72) ∧ (l81 ≠ none → b82 ≠ b2) ∧ (l81 ≠ none → b82 ≠ b62) ∧ Iv c.nb [] H0 H) ?_ ?_
   ·skip
    rintro ⟨σ108,H90,d109⟩ ⟨l81,x5_83,x84,x7_85,x8_86,x9_87,x17_88,x18_89,b82,hm,h92,h93,h94,h95,h96,h97,h98,h99,h100,h101,f102,f103,f104,n105,n106,i107⟩
    rw [b_7] at hm
    refine tk_seq_k fun K n110 x111=>?_
    refine tS hok fun J hJ=>?_
    rw [C.f62r20]
    have a112:=la f104 T.ag72 (by rw [S_a.enc.len]; exact T.sz72) Seg.refl
    obtain ⟨v114,ev114,hm⟩:=bind_s hm
    have a113:=z_eD c.ro H90 x84 v114 ev114
    refine rn_app_k (fun ⟨σ,H,_⟩=>Lk σ 1 (.pointer (some ⟨b2,0,none⟩)) ∧ Lk σ 4 (slV l81 b82) ∧ Lk σ 5 (.int .i64 (x5_83)) ∧ Lk σ 6 (.pointer (some ⟨b62,0,none⟩)) ∧ Lk σ 8 (.int .i64 (x8_86)) ∧ Lk σ 9 (.int .i64 (x9_87)) ∧ Lk σ 16 (slV x0 b0) ∧ Lk σ 17 (.int .i64 (x17_88)) ∧ Lk σ 18 (.int .i64 (x18_89)) ∧ Lk σ 71 (.bool ((!v114) || (!decide (x84.f_A = x7_85)))) ∧ H[b2]? = some (.cells [(slV x0 b0)] 37) ∧ SlO c.nb H (cInt .i64) 3 l81 b82 ∧ H[b62]? = some (.cells (S_a.c x84) 72) ∧ Iv c.nb [] H0 H) (fun J hJ=>?_) ?_
    ·skip
     cases g131:!v114
     ·skip
      have a132:=lo f104 T.ag3 (Seg.refl.sub (S_a.seg1 x84))
      simp only [C.f62r20p0,R,Nat.reduceEqDiff,a112,h95,c_fn F97,a113,g131,fa72_1,a132,h96]
      exact hJ _ ⟨h92,h93,h94,h95,h97,h98,h99,h100,h101,(by first | rfl | (simp only [g131]; rfl) | simp only [g131,Lk,RB,Nat.reduceEqDiff,not_false_eq_true]),f102,f103,f104,i107⟩
     ·skip
      simp only [C.f62r20p0,R,Nat.reduceEqDiff,a112,h95,c_fn F97,a113,g131]
      exact hJ _ ⟨h92,h93,h94,h95,h97,h98,h99,h100,h101,(by first | rfl | (simp only [g131]; rfl) | simp only [g131,Lk,RB,Nat.reduceEqDiff,not_false_eq_true]),f102,f103,f104,i107⟩
    rintro ⟨σ133,H116,d134⟩ ⟨h117,h118,h119,h120,h121,h122,h123,h124,h125,h126,f127,f128,f129,i130⟩
    refine rn_k (fun ⟨σ,H,_⟩=>Lk σ 1 (.pointer (some ⟨b2,0,none⟩)) ∧ Lk σ 4 (slV l81 b82) ∧ Lk σ 5 (.int .i64 (x5_83)) ∧ Lk σ 9 (.int .i64 (x9_87)) ∧ Lk σ 16 (slV x0 b0) ∧ Lk σ 17 (.int .i64 (x17_88)) ∧ Lk σ 18 (.int .i64 (x18_89)) ∧ Lk σ 77 (.bool (((!v114) || (!decide (x84.f_A = x7_85))) || (!decide (x84.f_B = x8_86)))) ∧ H[b2]? = some (.cells [(slV x0 b0)] 37) ∧ SlO c.nb H (cInt .i64) 3 l81 b82 ∧ Iv c.nb [] H0 H) (fun J hJ=>?_) ?_
    ·skip
     cases g148:(!v114) || (!decide (x84.f_A = x7_85))
     ·skip
      have a149:=lo f129 T.ag3 (Seg.refl.sub (S_a.seg2 x84))
      simp only [C.f62r20p1,R,Nat.reduceEqDiff,h126,↓g148,fa72_2,h120,a149,h121]
      exact hJ _ ⟨h117,h118,h119,h122,h123,h124,h125,(by first | rfl | (simp only [↓g148]; rfl) | simp only [↓g148,Lk,RB,Nat.reduceEqDiff,not_false_eq_true]),f127,f128,i130⟩
     ·skip
      simp only [C.f62r20p1,R,Nat.reduceEqDiff,h126,↓g148]
      exact hJ _ ⟨h117,h118,h119,h122,h123,h124,h125,(by first | rfl | (simp only [↓g148]; rfl) | simp only [↓g148,Lk,RB,Nat.reduceEqDiff,not_false_eq_true]),f127,f128,i130⟩
    rintro ⟨σ150,H136,d151⟩ ⟨h137,h138,h139,h140,h141,h142,h143,h144,f145,f146,i147⟩
    refine hJ _ ?_
    refine tC h144 hm (fun g152 hm=>?_) (fun g152 hm=>?_)
    ·skip
     refine tS hok fun J hJ=>?_
     simp only [C.f62r21,R,Nat.reduceEqDiff]
     refine hJ _ ?_
     refine tR ?_
     refine x111 _ _ (by simp) ?_
     refine x57 _ _ (by simp) (by simp) ?_
     refine x54 _ _ (by simp) ?_
     refine x36 _ _ (by simp) ?_
     refine x30 _ _ (by simp) (by simp) ?_
     refine x26 _ _ (by simp) ?_
     obtain rfl:=Option.some.inj hm
     exact end_sl1 (P:=Mt.P) (rs:=[(.tmp 2),(.tmp 3)]) (pre:=[]) (post:=[(.bool (false))]) (x:=none) (b:=0) (nb:=H0.length) (.inl rfl) (by rw [← hnb]; exact (slO_nil (c:=(cInt .i64)) (e:=3))) enc_int fm_nil (fm_cons rfl fm_nil) (resT' (v:=(.slice none 0 0)) rfl (resT' (v:=(.bool (false))) rfl resN))
    ·skip
     refine tK ?_
     refine n110 _ ?_
     refine tE hok fun J hJ=>?_
     obtain ⟨j153,ej153,hm⟩:=bind_s hm
     obtain ⟨H154,a155,f156,u157⟩:=st_sl0 (M:=Mt) (t:=3) (v:=(.int .i64 (x9_87))) (y:=x9_87) enc_int.len f146 (ck_lt ej153).1 (by rw [enc_int.len]; exact T.sz3) rfl (enc_int.one _) hcn
     have i158:=i147.up u157 (f146.some (ck_lt ej153).1).1
     have z159:l81 ≠ none:=sl_some (j:=j153) (ck_lt ej153).1
     have f160:=(u157.get _ (n105 z159).symm).trans f145
     simp only [C.f62r22,R,Nat.reduceEqDiff,h138,h139,h140,ia100,ej153,a155]
     refine hJ _ ?_
     refine n55 _ ?_
     refine n53 _ ?_
     refine tE hok fun J hJ=>?_
     simp only [C.f62r23,R,Nat.reduceEqDiff,h143]
     refine hJ _ ?_
     refine n35 _ ?_
     exact ⟨Sl.put l81 j153 x9_87,x17_88,IntKind.i64.wrap (x18_89 + 1),b82,hm,h137,(lk_eq (by simp only [slV_put,slV_copy]) h138),h141,h142,rfl,f160,f156,(fun h=>n105 (by simpa only [Sl.put_none,Sl.copy_none] using h)),i158⟩
   ·refine fun K n161 x162=>?_
    refine tS hok fun J hJ=>?_
    have a163:=lo f76 T.ag3 (Seg.refl.sub (S_a.seg0 (Sl.nth x0 j58)))
    obtain ⟨v165,ev165,hm⟩:=bind_s hm
    have a164:=z_bP c.ro H74 ((Sl.nth x0 j58).f_Kind) v165 ev165
    simp only [C.f62r6,R,Nat.reduceEqDiff,fa72_0,a163,c_fn F66,a164]
    refine hJ _ ?_
    refine tk_block_k fun K n166 e167 x168=>?_
    refine tS hok fun J hJ=>?_
    simp only [C.f62r7,R,Nat.reduceEqDiff]
    refine hJ _ ?_
    refine tC rfl hm (fun g169 hm=>?_) (fun g169 hm=>?_)
    ·skip
     refine tS hok fun J hJ=>?_
     simp only [C.f62r8,R,Nat.reduceEqDiff]
     refine hJ _ ?_
     refine tk_seq_k fun K n170 x171=>?_
     refine tS hok fun J hJ=>?_
     simp only [C.f62r9,R,Nat.reduceEqDiff]
     refine hJ _ ?_
     refine tC rfl hm (fun g172 hm=>?_) (fun g172 hm=>?_)
     ·skip
      refine tS hok fun J hJ=>?_
      simp only [C.f62r10,R,Nat.reduceEqDiff]
      refine hJ _ ?_
      refine tR ?_
      refine x171 _ _ (by simp) ?_
      refine x168 _ _ (by simp) (by simp) ?_
      refine x162 _ _ (by simp) ?_
      refine x57 _ _ (by simp) (by simp) ?_
      refine x54 _ _ (by simp) ?_
      refine x36 _ _ (by simp) ?_
      refine x30 _ _ (by simp) (by simp) ?_
      refine x26 _ _ (by simp) ?_
      obtain rfl:=Option.some.inj hm
      exact end_sl1 (P:=Mt.P) (rs:=[(.tmp 2),(.tmp 3)]) (pre:=[]) (post:=[(.bool (false))]) (x:=none) (b:=0) (nb:=H0.length) (.inl rfl) (by rw [← hnb]; exact (slO_nil (c:=(cInt .i64)) (e:=3))) enc_int fm_nil (fm_cons rfl fm_nil) (resT' (v:=(.slice none 0 0)) rfl (resT' (v:=(.bool (false))) rfl resN))
     ·skip
      refine tK ?_
      refine n170 _ ?_
      refine tE hok fun J hJ=>?_
      obtain ⟨j173,ej173,hm⟩:=bind_s hm
      obtain ⟨mm174,k175⟩:=f80.h.blk (ck_lt ej173).1
      have a176:=lso k175 T.ag3 (seg_sl enc_int.len mm174 (ck_lt ej173).1)
      simp only [C.f62r11,R,Nat.reduceEqDiff,h40,ia100,ej173,a176]
      refine hJ _ ?_
      refine n166 _ ?_
      refine n161 _ ?_
      exact ⟨l31,x18_34,Sl.nth x0 j58,IntKind.i64.wrap (x18_34 - 1),0,IntKind.i64.wrap (1 + (Sl.nth l31 j173)),x17_33,x18_34,b32,hm,h39,h40,rfl,rfl,rfl,rfl,rfl,h41,h42,h43,f79,f80,f76,n46,(f45.h.ne q66),i78⟩
    ·skip
     refine tS hok fun J hJ=>?_
     simp only [C.f62r12,R,Nat.reduceEqDiff]
     refine hJ _ ?_
     refine tC rfl hm (fun g177 hm=>?_) (fun g177 hm=>?_)
     ·skip
      refine tS hok fun J hJ=>?_
      simp only [C.f62r13,R,Nat.reduceEqDiff]
      refine hJ _ ?_
      refine tk_seq_k fun K n178 x179=>?_
      refine tS hok fun J hJ=>?_
      simp only [C.f62r14,R,Nat.reduceEqDiff]
      refine hJ _ ?_
      refine tC rfl hm (fun g180 hm=>?_) (fun g180 hm=>?_)
      ·skip
       refine tS hok fun J hJ=>?_
       simp only [C.f62r15,R,Nat.reduceEqDiff]
       refine hJ _ ?_
       refine tR ?_
       refine x179 _ _ (by simp) ?_
       refine x168 _ _ (by simp) (by simp) ?_
       refine x162 _ _ (by simp) ?_
       refine x57 _ _ (by simp) (by simp) ?_
       refine x54 _ _ (by simp) ?_
       refine x36 _ _ (by simp) ?_
       refine x30 _ _ (by simp) (by simp) ?_
       refine x26 _ _ (by simp) ?_
       obtain rfl:=Option.some.inj hm
       exact end_sl1 (P:=Mt.P) (rs:=[(.tmp 2),(.tmp 3)]) (pre:=[]) (post:=[(.bool (false))]) (x:=none) (b:=0) (nb:=H0.length) (.inl rfl) (by rw [← hnb]; exact (slO_nil (c:=(cInt .i64)) (e:=3))) enc_int fm_nil (fm_cons rfl fm_nil) (resT' (v:=(.slice none 0 0)) rfl (resT' (v:=(.bool (false))) rfl resN))
      ·skip
       refine tK ?_
       refine n178 _ ?_
       refine tS hok fun J hJ=>?_
       obtain ⟨j181,ej181,hm⟩:=bind_s hm
       obtain ⟨mm182,k183⟩:=f80.h.blk (ck_lt ej181).1
       have a184:=lso k183 T.ag3 (seg_sl enc_int.len mm182 (ck_lt ej181).1)
       simp only [C.f62r16,R,Nat.reduceEqDiff,h40,ia100,ej181,a184]
       refine hJ _ ?_
       refine tk_seq_k fun K n185 x186=>?_
       refine tS hok fun J hJ=>?_
       simp only [C.f62r17,R,Nat.reduceEqDiff]
       refine hJ _ ?_
       refine tC rfl hm (fun g187 hm=>?_) (fun g187 hm=>?_)
       ·skip
        refine tS hok fun J hJ=>?_
        simp only [C.f62r18,R,Nat.reduceEqDiff]
        refine hJ _ ?_
        refine tR ?_
        refine x186 _ _ (by simp) ?_
        refine x168 _ _ (by simp) (by simp) ?_
        refine x162 _ _ (by simp) ?_
        refine x57 _ _ (by simp) (by simp) ?_
        refine x54 _ _ (by simp) ?_
        refine x36 _ _ (by simp) ?_
        refine x30 _ _ (by simp) (by simp) ?_
        refine x26 _ _ (by simp) ?_
        obtain rfl:=Option.some.inj hm
        exact end_sl1 (P:=Mt.P) (rs:=[(.tmp 2),(.tmp 3)]) (pre:=[]) (post:=[(.bool (false))]) (x:=none) (b:=0) (nb:=H0.length) (.inl rfl) (by rw [← hnb]; exact (slO_nil (c:=(cInt .i64)) (e:=3))) enc_int fm_nil (fm_cons rfl fm_nil) (resT' (v:=(.slice none 0 0)) rfl (resT' (v:=(.bool (false))) rfl resN))
       ·skip
        refine tK ?_
        refine n185 _ ?_
        refine tE hok fun J hJ=>?_
        obtain ⟨j188,ej188,hm⟩:=bind_s hm
        obtain ⟨mm189,k190⟩:=f80.h.blk (ck_lt ej188).1
        have a191:=lso k190 T.ag3 (seg_sl enc_int.len mm189 (ck_lt ej188).1)
        obtain ⟨mm192,k193⟩:=f80.h.blk (ck_lt ej181).1
        have a194:=lso k193 T.ag3 (seg_sl enc_int.len mm192 (ck_lt ej181).1)
        simp only [C.f62r19,R,Nat.reduceEqDiff,s_pt,s_gt,isW,Bool.false_eq_true,if_false,if_true,reduceIte,h40,ia100,ej188,a191,ej181,a194]
        refine hJ _ ?_
        refine n166 _ ?_
        refine n161 _ ?_
        exact ⟨l31,x18_34,Sl.nth x0 j58,IntKind.i64.wrap ((IntKind.i64.wrap (x18_34 - 1)) - (Sl.nth l31 j181)),IntKind.i64.wrap (x18_34 - 1),IntKind.i64.wrap (1 + (IntKind.i64.wrap ((Sl.nth l31 j188) + (Sl.nth l31 j181)))),x17_33,x18_34,b32,hm,h39,h40,rfl,rfl,rfl,rfl,rfl,h41,h42,h43,f79,f80,f76,n46,(f45.h.ne q66),i78⟩
     ·skip
      refine tK ?_
      refine n166 _ ?_
      refine n161 _ ?_
      exact ⟨l31,x18_34,Sl.nth x0 j58,0,0,1,x17_33,x18_34,b32,hm,h39,h40,rfl,rfl,rfl,rfl,rfl,h41,h42,h43,f79,f80,f76,n46,(f45.h.ne q66),i78⟩
  ·skip
   refine tX ?_
   refine x51 _ _ (by simp) ?_
   refine x36 _ _ (by simp) ?_
   refine e29 _ ?_
   refine n25 _ ?_
   refine tS hok fun J hJ=>?_
   have a195:=lo (off:=0 + 0) f44 T.ag35 Seg.refl
   simp only [C.f62r24,R,Nat.reduceEqDiff,fa37_0,h39,a195,ln35]
   refine hJ _ ?_
   refine tS hok fun J hJ=>?_
   rw [C.f62r25]
   obtain ⟨y201,ey201,hm⟩:=bind_s hm
   refine rn_app_k (fun ⟨σ,H,_⟩=>Lk σ 87 (slV l31 b32) ∧ Lk σ 99 (.bool (y201)) ∧ SlO c.nb H (cInt .i64) 3 l31 b32 ∧ Iv c.nb [] H0 H) (fun J hJ=>?_) ?_
   ·skip
    cases g207:decide (0 ≤ (IntKind.i64.wrap ((Sl.len x0) - 1)))
    ·skip
     have ey201:=cond_f ey201 g207
     obtain rfl:=Option.some.inj ey201
     simp only [C.f62r25p0,R,Nat.reduceEqDiff,s_pt,s_gt,isW,Bool.false_eq_true,if_false,if_true,reduceIte,h40,g207]
     exact hJ _ ⟨rfl,(by first | rfl | (simp only [g207]; rfl) | simp only [g207,Lk,RB,Nat.reduceEqDiff,not_false_eq_true]),f45,i47⟩
    ·skip
     have ey201:=cond_t ey201 g207
     obtain ⟨j208,ej208,ey201⟩:=bind_s ey201
     obtain ⟨mm209,k210⟩:=f45.h.blk (ck_lt ej208).1
     have a211:=lso k210 T.ag3 (seg_sl enc_int.len mm209 (ck_lt ej208).1)
     have a212:=lo (off:=0 + 0) f44 T.ag35 Seg.refl
     obtain rfl:=Option.some.inj ey201
     simp only [C.f62r25p0,R,Nat.reduceEqDiff,s_pt,s_gt,isW,Bool.false_eq_true,if_false,if_true,reduceIte,h40,g207,ia100,ej208,a211,fa37_0,h39,a212,ln35]
     exact hJ _ ⟨rfl,(by first | rfl | (simp only [g207]; rfl) | simp only [g207,Lk,RB,Nat.reduceEqDiff,not_false_eq_true]),f45,i47⟩
   rintro ⟨σ213,H202,d214⟩ ⟨h203,h204,f205,i206⟩
   simp only [C.f62r25p1,R,Nat.reduceEqDiff,s_pt,s_gt,isW,Bool.false_eq_true,if_false,if_true,reduceIte,h203,h204]
   refine hJ _ ?_
   refine tR ?_
   obtain rfl:=Option.some.inj hm
   exact end_sl1 (P:=Mt.P) (rs:=[(.tmp 2),(.tmp 3)]) (pre:=[]) (post:=[(.bool (y201))]) (x:=l31) (b:=b32) (nb:=H0.length) (.inl rfl) (by rw [← hnb]; exact f205) enc_int fm_nil (fm_cons rfl fm_nil) (resT' (v:=(slV l31 b32)) rfl (resT' (v:=(.bool (y201))) rfl resN))
def b_O (c_c:T_F) (n:Nat) (q1:Sl Int → Int → Int → Option ((Sl Int))) (x0:(Sl S_a)) (l50:Sl Int) (x12_52:Int) (x13_53:Int):Option ((Sl Int)):=q1 l50 x12_52 (IntKind.i64.wrap (x13_53 + 1))
def b_D (c_c:T_F) (n:Nat) (x0:(Sl S_a)):Nat → Sl Int → Int → Int → Option ((Sl Int))
 | 0,_,_,_=>none
 | k + 1,l31,x12_33,x13_34=>bif decide (x13_34 < x12_33) then ((ck (Sl.l x0).length x13_34).bind fun j69=>(c_c ((Sl.nth x0 j69).f_Kind)).bind fun v92=>bif decide (v92 = 0) then ((ck (Sl.l l31).length x13_34).bind fun j97=>b_O c_c n (b_D c_c n x0 k) x0 (Sl.put l31 j97 1) x12_33 x13_34) else (bif decide (v92 = 1) then ((ck (Sl.l l31).length ((Sl.nth x0 j69).f_A)).bind fun j107=>(ck (Sl.l l31).length x13_34).bind fun j111=>b_O c_c n (b_D c_c n x0 k) x0 (Sl.put l31 j111 (IntKind.i64.wrap (1 + (Sl.nth l31 j107)))) x12_33 x13_34) else ((ck (Sl.l l31).length ((Sl.nth x0 j69).f_A)).bind fun j120=>(ck (Sl.l l31).length ((Sl.nth x0 j69).f_B)).bind fun j125=>(ck (Sl.l l31).length x13_34).bind fun j129=>b_O c_c n (b_D c_c n x0 k) x0 (Sl.put l31 j129 (IntKind.i64.wrap (1 + (max (Sl.nth l31 j120) (Sl.nth l31 j125))))) x12_33 x13_34))) else (some l31)
def b_cn (c_c:T_F) (n:Nat) (x0:(Sl S_a)):Option ((Sl Int)):=(Sl.make 8 (Sl.len x0) (Sl.len x0) (0:Int)).bind fun l13=>b_D c_c n x0 n l13 (Sl.len x0) 0
theorem w_fq {call:CallF} (hok:CallOk Mt call) {n:Nat} {c_c:T_F} (z_bP:A_c0 call c_c) {H0:Hp} {x0:(Sl S_a)} {b0:Nat} {r:(Sl Int)} {ro:Nat} (hro:ro ≤ H0.length) (h0:SlH H0 S_a.c 72 x0 b0) (hm:b_cn c_c n x0 = some r) :
  Pt Mt ro 63 [(vAgg [slV x0 b0])] H0 (slV r H0.length) (H0 ++ slB (cInt .i64) 3 r) []:=by
 refine pt_new okM F63d (by exact Nat.le_of_ble_eq_true rfl) ?_ hro
 intro c hnt hnb hcr
 have hcn:c.ro ≤ c.nb:=by omega
 have l0:x0 ≠ none → b0 < c.nb:=fun h=>by rw [hnb]; exact h0.lt h
 have iv:Iv c.nb [] H0 H0:=by rw [hnb]; exact iv_refl
 rw [aI1]
 rw [b_cn] at hm
 simp only [C.f63,C.f63b0]
 refine tS hok fun J hJ=>?_
 obtain ⟨b2,H3,a4,f5,q6,r7,x8,i9⟩:=bx_ok (M:=Mt) (t:=37) (u:=(vAgg [(slV x0 b0)])) (cs:=[(slV x0 b0)]) H0 iv.le T.sz37 vAgg_cells one_sl
 have i10:=i9 _ _ iv
 simp only [C.f63r0,R,Nat.reduceEqDiff,a4]
 refine hJ _ ?_
 refine tS hok fun J hJ=>?_
 have a12:=lo (off:=0 + 0) f5 T.ag35 Seg.refl
 obtain ⟨l13,el13,hm⟩:=bind_s hm
 obtain ⟨b14,H15,a16,f17,q18,r19,x20,i21⟩:=mk_ok (M:=Mt) (t:=100) (e:=3) (k:=.i64) (k':=.i64) H3 i10.le Tryz.underlying100 T.by3 zs3 el13
 have i22:=i21 _ _ i10
 have f23:=x20 _ _ f5
 simp only [C.f63r1,R,Nat.reduceEqDiff,fa37_0,a12,ln35,o_makeSlice,a16]
 refine hJ _ ?_
 refine tk_seq_k fun K n25 x26=>?_
 refine tS hok fun J hJ=>?_
 have a27:=lo (off:=0 + 0) f23 T.ag35 Seg.refl
 simp only [C.f63r2,R,Nat.reduceEqDiff,fa37_0,a27,ln35]
 refine hJ _ ?_
 refine tk_block_k fun K n28 e29 x30=>?_
 refine tk_loop_k (n:=n) (fun k1 ⟨σ,H,_⟩=>∃ l31 x12_33 x13_34 b32,b_D c_c n x0 k1 l31 x12_33 x13_34 = some r ∧ Lk σ 3 (slV l31 b32) ∧ Lk σ 11 (slV x0 b0) ∧ Lk σ 12 (.int .i64 x12_33) ∧ Lk σ 13 (.int .i64 x13_34) ∧ SlO c.nb H (cInt .i64) 3 l31 b32 ∧ Iv c.nb [] H0 H) ?_ ?_ ?_
 ·exact ⟨l13,Sl.len x0,0,b14,hm,rfl,rfl,rfl,rfl,f17,i22⟩
 ·rintro ⟨σ,H,d⟩ ⟨_,_,_,_,hm,_⟩
  cases hm
 ·intro k1 K n35 x36
  rintro ⟨σ45,H37,d46⟩ ⟨l31,x12_33,x13_34,b32,hm,h39,h40,h41,h42,f43,i44⟩
  rw [b_D.eq_2] at hm
  refine tS hok fun J hJ=>?_
  simp only [C.f63r3,R,Nat.reduceEqDiff,h42,h41]
  refine hJ _ ?_
  refine tk_seq_k fun K n47 x48=>?_
  refine tC rfl hm (fun g49 hm=>?_) (fun g49 hm=>?_)
  ·skip
   refine tK ?_
   refine n47 _ ?_
   refine tk_seq_j (fun ⟨σ,H,_⟩=>∃ l50 x12_52 x13_53 b51,b_O c_c n (b_D c_c n x0 k1) x0 l50 x12_52 x13_53 = some r ∧ Lk σ 3 (slV l50 b51) ∧ Lk σ 11 (slV x0 b0) ∧ Lk σ 12 (.int .i64 x12_52) ∧ Lk σ 13 (.int .i64 x13_53) ∧ SlO c.nb H (cInt .i64) 3 l50 b51 ∧ Iv c.nb [] H0 H) ?_ ?_
   ·skip
    rintro ⟨σ62,H54,d63⟩ ⟨l50,x12_52,x13_53,b51,hm,h56,h57,h58,h59,f60,i61⟩
    rw [b_O] at hm
    refine tE hok fun J hJ=>?_
    simp only [C.f63r11,R,Nat.reduceEqDiff,h59]
    refine hJ _ ?_
    refine n35 _ ?_
    exact ⟨l50,x12_52,IntKind.i64.wrap (x13_53 + 1),b51,hm,h56,h57,h58,rfl,f60,i61⟩
   ·refine fun K n64 x65=>?_
    refine tk_block_k fun K n66 e67 x68=>?_
    refine tS hok fun J hJ=>?_
    obtain ⟨j69,ej69,hm⟩:=bind_s hm
    obtain ⟨mm70,k71⟩:=(h0.iv l0 (fun _=>by simp) i44).blk (ck_lt ej69).1
    have a72:=lsa k71 T.ag72 (by rw [S_a.enc.len]; exact T.sz72) (seg_sl S_a.enc.len mm70 (ck_lt ej69).1)
    obtain ⟨b73,H74,a75,f76,q77,r78,x79,i80⟩:=al_ok H37 72 (S_a.c S_a.zero) i44.le
    have i81:=i80 _ _ i44
    have f82:=f43.ex x79
    obtain ⟨H84,a85,f86,u87⟩:=st_ok (M:=Mt) (t:=72) (v:=(vAgg (S_a.c (Sl.nth x0 j69)))) (c:=S_a.c (Sl.nth x0 j69)) (cs':=S_a.c (Sl.nth x0 j69)) f76 (by rw [S_a.enc.len]; exact T.sz72) vAgg_cells (S_a.enc.one _) (Nat.le_trans hcn r78) (le0 S_a.enc.len) (wrs_all (eqL S_a.enc.len))
    have i88:=i81.up u87 r78
    have f89:=f82.up u87 (f43.h.ne q77)
    simp only [C.f63r4,R,Nat.reduceEqDiff,h42,ia35,ej69,h40,a72,zs72,a75,a85]
    refine hJ _ ?_
    refine tS hok fun J hJ=>?_
    have a90:=lo f86 T.ag3 (Seg.refl.sub (S_a.seg0 (Sl.nth x0 j69)))
    obtain ⟨v92,ev92,hm⟩:=bind_s hm
    have a91:=z_bP c.ro H84 ((Sl.nth x0 j69).f_Kind) v92 ev92
    simp only [C.f63r5,R,Nat.reduceEqDiff,fa72_0,a90,c_fn F66,a91]
    refine hJ _ ?_
    refine tk_block_k fun K n93 e94 x95=>?_
    refine tS hok fun J hJ=>?_
    simp only [C.f63r7,R,Nat.reduceEqDiff]
    refine hJ _ ?_
    refine tC rfl hm (fun g96 hm=>?_) (fun g96 hm=>?_)
    ·skip
     refine tE hok fun J hJ=>?_
     obtain ⟨j97,ej97,hm⟩:=bind_s hm
     obtain ⟨H98,a99,f100,u101⟩:=st_sl0 (M:=Mt) (t:=3) (v:=(.int .i64 (1))) (y:=1) enc_int.len f89 (ck_lt ej97).1 (by rw [enc_int.len]; exact T.sz3) rfl (enc_int.one _) hcn
     have i102:=i88.up u101 (f89.some (ck_lt ej97).1).1
     have z103:l31 ≠ none:=sl_some (j:=j97) (ck_lt ej97).1
     have f104:=(u101.get _ ((f43.h.ne q77) z103).symm).trans f86
     simp only [C.f63r8,R,Nat.reduceEqDiff,h39,ia100,ej97,a99]
     refine hJ _ ?_
     refine n93 _ ?_
     refine n66 _ ?_
     refine n64 _ ?_
     exact ⟨Sl.put l31 j97 1,x12_33,x13_34,b32,hm,(lk_eq (by simp only [slV_put,slV_copy]) h39),h40,h41,h42,f100,i102⟩
    ·skip
     refine tS hok fun J hJ=>?_
     simp only [C.f63r9,R,Nat.reduceEqDiff]
     refine hJ _ ?_
     refine tC rfl hm (fun g105 hm=>?_) (fun g105 hm=>?_)
     ·skip
      refine tE hok fun J hJ=>?_
      have a106:=lo f86 T.ag3 (Seg.refl.sub (S_a.seg1 (Sl.nth x0 j69)))
      obtain ⟨j107,ej107,hm⟩:=bind_s hm
      obtain ⟨mm108,k109⟩:=f89.h.blk (ck_lt ej107).1
      have a110:=lso k109 T.ag3 (seg_sl enc_int.len mm108 (ck_lt ej107).1)
      obtain ⟨j111,ej111,hm⟩:=bind_s hm
      obtain ⟨H112,a113,f114,u115⟩:=st_sl0 (M:=Mt) (t:=3) (v:=(.int .i64 (IntKind.i64.wrap (1 + (Sl.nth l31 j107))))) (y:=(IntKind.i64.wrap (1 + (Sl.nth l31 j107)))) enc_int.len f89 (ck_lt ej111).1 (by rw [enc_int.len]; exact T.sz3) rfl (enc_int.one _) hcn
      have i116:=i88.up u115 (f89.some (ck_lt ej111).1).1
      have z117:l31 ≠ none:=sl_some (j:=j111) (ck_lt ej111).1
      have f118:=(u115.get _ ((f43.h.ne q77) z117).symm).trans f86
      simp only [C.f63r10,R,Nat.reduceEqDiff,h39,fa72_1,a106,ia100,ej107,a110,ej111,a113]
      refine hJ _ ?_
      refine n93 _ ?_
      refine n66 _ ?_
      refine n64 _ ?_
      exact ⟨Sl.put l31 j111 (IntKind.i64.wrap (1 + (Sl.nth l31 j107))),x12_33,x13_34,b32,hm,(lk_eq (by simp only [slV_put,slV_copy]) h39),h40,h41,h42,f114,i116⟩
     ·skip
      refine tE hok fun J hJ=>?_
      have a119:=lo f86 T.ag3 (Seg.refl.sub (S_a.seg1 (Sl.nth x0 j69)))
      obtain ⟨j120,ej120,hm⟩:=bind_s hm
      obtain ⟨mm121,k122⟩:=f89.h.blk (ck_lt ej120).1
      have a123:=lso k122 T.ag3 (seg_sl enc_int.len mm121 (ck_lt ej120).1)
      have a124:=lo f86 T.ag3 (Seg.refl.sub (S_a.seg2 (Sl.nth x0 j69)))
      obtain ⟨j125,ej125,hm⟩:=bind_s hm
      obtain ⟨mm126,k127⟩:=f89.h.blk (ck_lt ej125).1
      have a128:=lso k127 T.ag3 (seg_sl enc_int.len mm126 (ck_lt ej125).1)
      obtain ⟨j129,ej129,hm⟩:=bind_s hm
      obtain ⟨H130,a131,f132,u133⟩:=st_sl0 (M:=Mt) (t:=3) (v:=(.int .i64 (IntKind.i64.wrap (1 + (max (Sl.nth l31 j120) (Sl.nth l31 j125)))))) (y:=(IntKind.i64.wrap (1 + (max (Sl.nth l31 j120) (Sl.nth l31 j125))))) enc_int.len f89 (ck_lt ej129).1 (by rw [enc_int.len]; exact T.sz3) rfl (enc_int.one _) hcn
      have i134:=i88.up u133 (f89.some (ck_lt ej129).1).1
      have z135:l31 ≠ none:=sl_some (j:=j129) (ck_lt ej129).1
      have f136:=(u133.get _ ((f43.h.ne q77) z135).symm).trans f86
      simp only [C.f63r6,R,Nat.reduceEqDiff,s_pt,s_gt,isW,Bool.false_eq_true,if_false,if_true,reduceIte,h39,fa72_1,a119,ia100,ej120,a123,fa72_2,a124,ej125,a128,ej129,a131]
      refine hJ _ ?_
      refine n93 _ ?_
      refine n66 _ ?_
      refine n64 _ ?_
      exact ⟨Sl.put l31 j129 (IntKind.i64.wrap (1 + (max (Sl.nth l31 j120) (Sl.nth l31 j125)))),x12_33,x13_34,b32,hm,(lk_eq (by simp only [slV_put,slV_copy]) h39),h40,h41,h42,f132,i134⟩
  ·skip
   refine tX ?_
   refine x48 _ _ (by simp) ?_
   refine x36 _ _ (by simp) ?_
   refine e29 _ ?_
   refine n25 _ ?_
   refine tS hok fun J hJ=>?_
   simp only [C.f63r12,R,Nat.reduceEqDiff,h39]
   refine hJ _ ?_
   refine tR ?_
   obtain rfl:=Option.some.inj hm
   exact end_sl1 (P:=Mt.P) (rs:=[(.tmp 2)]) (pre:=[]) (post:=[]) (x:=l31) (b:=b32) (nb:=H0.length) (.inl rfl) (by rw [← hnb]; exact f43) enc_int fm_nil fm_nil (resT' (v:=(slV l31 b32)) rfl resN)
def b_cw (c_k:T_Q) (c_W:T_b0) (c_ba:T_bG) (n:Nat) (x0:(Sl S_a)):Option (Int):=bif decide (500 < (Sl.len x0)) then (some 4) else ((c_k x0).bind fun v20=>bif !v20.2 then (some 3) else ((c_W x0).bind fun v36=>(c_ba v36).bind fun v48=>bif decide (40 < v48) then (some 4) else (some 0)))
theorem w_fo {call:CallF} (hok:CallOk Mt call) {n:Nat} {c_k:T_Q} (z_bZ:A_cB call c_k) {c_W:T_b0} (z_cR:A_c8 call c_W) {c_ba:T_bG} (z_dG:A_cr call c_ba) {H0:Hp} {x0:(Sl S_a)} {b0:Nat} {r:Int} {ro:Nat} (hro:ro ≤ H0.length) (h0:SlH H0 S_a.c 72 x0 b0) (hm:b_cw c_k c_W c_ba n x0 = some r) :
  Pt Mt ro 64 [(vAgg [slV x0 b0])] H0 (.int .i64 (r)) H0 []:=by
 refine pt_new0 okM F64d (by exact Nat.le_of_ble_eq_true rfl) ?_ hro
 intro c hnt hnb hcr
 have hcn:c.ro ≤ c.nb:=by omega
 have l0:x0 ≠ none → b0 < c.nb:=fun h=>by rw [hnb]; exact h0.lt h
 have iv:Iv c.nb [] H0 H0:=by rw [hnb]; exact iv_refl
 rw [aI1]
 rw [b_cw] at hm
 simp only [C.f64]
 refine tS hok fun J hJ=>?_
 obtain ⟨b2,H3,a4,f5,q6,r7,x8,i9⟩:=bx_ok (M:=Mt) (t:=37) (u:=(vAgg [(slV x0 b0)])) (cs:=[(slV x0 b0)]) H0 iv.le T.sz37 vAgg_cells one_sl
 have i10:=i9 _ _ iv
 simp only [C.f64r0,R,Nat.reduceEqDiff,a4]
 refine hJ _ ?_
 refine tk_seq_k fun K n12 x13=>?_
 refine tS hok fun J hJ=>?_
 have a14:=lo (off:=0 + 0) f5 T.ag35 Seg.refl
 simp only [C.f64r1,R,Nat.reduceEqDiff,fa37_0,a14,ln35]
 refine hJ _ ?_
 refine tC rfl hm (fun g15 hm=>?_) (fun g15 hm=>?_)
 ·skip
  refine tS hok fun J hJ=>?_
  simp only [C.f64r2,R,Nat.reduceEqDiff]
  refine hJ _ ?_
  refine tR ?_
  refine x13 _ _ (by simp) ?_
  obtain rfl:=Option.some.inj hm
  exact ef1 rfl rfl
 ·skip
  refine tK ?_
  refine n12 _ ?_
  refine tk_seq_k fun K n16 x17=>?_
  refine tS hok fun J hJ=>?_
  have a18:=ld_agg (M:=Mt) (t:=37) (off:=0) (c:=[(slV x0 b0)]) f5 T.ag37 T.sz37 Seg.refl
  obtain ⟨v20,ev20,hm⟩:=bind_s hm
  have a19:=z_bZ c.ro H3 x0 b0 v20 (h0.iv l0 (fun _=>by simp) i10) ev20
  obtain ⟨H21,q22⟩:∃ x,x = H3 ++ slB (cInt .i64) 3 v20.1:=⟨_,rfl⟩
  obtain ⟨b23,q24⟩:∃ b,b = H3.length:=⟨_,rfl⟩
  rw [← q22,← q24] at a19
  have x28:Ex H3 H21:=by rw [q22]; exact ex_app
  have i26:Iv c.nb [] H0 H21:=by rw [q22]; exact i10.app
  have f25:SlO c.nb H21 (cInt .i64) 3 v20.1 b23:=by rw [q22,q24]; exact slB_own i10.le
  have r27:c.nb ≤ b23:=by rw [q24]; exact i10.le
  have f29:=x28 _ _ f5
  simp only [C.f64r3,R,Nat.reduceEqDiff,a18,c_fn F62,a19]
  refine hJ _ ?_
  refine tS hok fun J hJ=>?_
  simp only [C.f64r4,R,Nat.reduceEqDiff]
  refine hJ _ ?_
  refine tC rfl hm (fun g31 hm=>?_) (fun g31 hm=>?_)
  ·skip
   refine tS hok fun J hJ=>?_
   simp only [C.f64r5,R,Nat.reduceEqDiff]
   refine hJ _ ?_
   refine tR ?_
   refine x17 _ _ (by simp) ?_
   obtain rfl:=Option.some.inj hm
   exact ef1 rfl rfl
  ·skip
   refine tK ?_
   refine n16 _ ?_
   refine tk_seq_k fun K n32 x33=>?_
   refine tS hok fun J hJ=>?_
   have a34:=ld_agg (M:=Mt) (t:=37) (off:=0) (c:=[(slV x0 b0)]) f29 T.ag37 T.sz37 Seg.refl
   obtain ⟨v36,ev36,hm⟩:=bind_s hm
   have a35:=z_cR c.ro H21 x0 b0 v36 (h0.iv l0 (fun _=>by simp) i26) ev36
   obtain ⟨H37,q38⟩:∃ x,x = H21 ++ slB (cInt .i64) 3 v36:=⟨_,rfl⟩
   obtain ⟨b39,q40⟩:∃ b,b = H21.length:=⟨_,rfl⟩
   rw [← q38,← q40] at a35
   have x44:Ex H21 H37:=by rw [q38]; exact ex_app
   have i42:Iv c.nb [] H0 H37:=by rw [q38]; exact i26.app
   have f41:SlO c.nb H37 (cInt .i64) 3 v36 b39:=by rw [q38,q40]; exact slB_own i26.le
   have r43:c.nb ≤ b39:=by rw [q40]; exact i26.le
   have f45:=x44 _ _ f29
   obtain ⟨v48,ev48,hm⟩:=bind_s hm
   have a47:=z_dG c.ro H37 v36 b39 v48 f41.h ev48
   simp only [C.f64r6,R,Nat.reduceEqDiff,a34,c_fn F63,a35,c_fn F98,a47]
   refine hJ _ ?_
   refine tC rfl hm (fun g49 hm=>?_) (fun g49 hm=>?_)
   ·skip
    refine tS hok fun J hJ=>?_
    simp only [C.f64r7,R,Nat.reduceEqDiff]
    refine hJ _ ?_
    refine tR ?_
    refine x33 _ _ (by simp) ?_
    obtain rfl:=Option.some.inj hm
    exact ef1 rfl rfl
   ·skip
    refine tK ?_
    refine n32 _ ?_
    refine tS hok fun J hJ=>?_
    simp only [C.f64r8,R,Nat.reduceEqDiff]
    refine hJ _ ?_
    refine tR ?_
    obtain rfl:=Option.some.inj hm
    exact ef1 rfl rfl
def b_o (c_j:T_b6) (c_i:T_bQ) (n:Nat) (q1:Sl Int → Sl Int → Int → Int → Option ((Sl Int) × (Sl Int))) (x0:(Sl S_a)) (l69:Sl Int) (l71:Sl Int) (x18_73:Int) (x19_74:Int):Option ((Sl Int) × (Sl Int)):=q1 l69 l71 x18_73 (IntKind.i64.wrap (x19_74 + 1))
def b_bg (c_j:T_b6) (c_i:T_bQ) (n:Nat) (q1:Sl Int → Sl Int → Int → Int → Option ((Sl Int) × (Sl Int))) (x0:(Sl S_a)) (l283:Sl Int) (l285:Sl Int) (x6_287:Int) (x288:S_a) (x18_289:Int) (x19_290:Int) (x138_291:Bool):Option ((Sl Int) × (Sl Int)):=bif x138_291 then ((ck (Sl.l l283).length x288.f_A).bind fun j314=>(ck (Sl.l l285).length x288.f_A).bind fun j319=>(ck (Sl.l l283).length x6_287).bind fun j323=>(ck (Sl.l l285).length x6_287).bind fun j332=>b_o c_j c_i n q1 x0 (Sl.put l283 j323 (Sl.nth l283 j314)) (Sl.put l285 j332 (Sl.nth l285 j319)) x18_289 x19_290) else (b_o c_j c_i n q1 x0 l283 l285 x18_289 x19_290)
def b_p (c_j:T_b6) (c_i:T_bQ) (n:Nat) (x0:(Sl S_a)):Nat → Sl Int → Sl Int → Int → Int → Option ((Sl Int) × (Sl Int))
 | 0,_,_,_,_=>none
 | k + 1,l44,l46,x18_48,x19_49=>bif decide (x19_49 < x18_48) then ((ck (Sl.l x0).length x19_49).bind fun j94=>bif decide (((Sl.nth x0 j94).f_Kind) = 1) then ((ck (Sl.l l44).length x19_49).bind fun j122=>(ck (Sl.l l46).length x19_49).bind fun j131=>b_o c_j c_i n (b_p c_j c_i n x0 k) x0 (Sl.put l44 j122 1) (Sl.put l46 j131 1) x18_48 x19_49) else (bif decide (((Sl.nth x0 j94).f_Kind) = 12) then ((ck (Sl.l l46).length x19_49).bind fun j141=>b_o c_j c_i n (b_p c_j c_i n x0 k) x0 l44 (Sl.put l46 j141 ((-1))) x18_48 x19_49) else (bif decide (((Sl.nth x0 j94).f_Kind) = 8) then ((ck (Sl.l l44).length ((Sl.nth x0 j94).f_A)).bind fun j152=>(ck (Sl.l l44).length ((Sl.nth x0 j94).f_B)).bind fun j157=>(c_j (Sl.nth l44 j152) (Sl.nth l44 j157)).bind fun v162=>(ck (Sl.l l46).length ((Sl.nth x0 j94).f_A)).bind fun j164=>(ck (Sl.l l46).length ((Sl.nth x0 j94).f_B)).bind fun j169=>(c_j (Sl.nth l46 j164) (Sl.nth l46 j169)).bind fun v174=>(ck (Sl.l l44).length x19_49).bind fun j175=>(ck (Sl.l l46).length x19_49).bind fun j184=>b_o c_j c_i n (b_p c_j c_i n x0 k) x0 (Sl.put l44 j175 v162) (Sl.put l46 j184 v174) x18_48 x19_49) else (bif decide (((Sl.nth x0 j94).f_Kind) = 9) then ((ck (Sl.l l44).length ((Sl.nth x0 j94).f_A)).bind fun j195=>(ck (Sl.l l44).length ((Sl.nth x0 j94).f_B)).bind fun j200=>(ck (Sl.l l46).length ((Sl.nth x0 j94).f_A)).bind fun j205=>(ck (Sl.l l46).length ((Sl.nth x0 j94).f_B)).bind fun j210=>(ck (Sl.l l44).length x19_49).bind fun j214=>(ck (Sl.l l46).length x19_49).bind fun j223=>bif decide ((min (Sl.nth (Sl.put l46 j223 (max (Sl.nth l46 j205) (Sl.nth l46 j210))) j205) (Sl.nth (Sl.put l46 j223 (max (Sl.nth l46 j205) (Sl.nth l46 j210))) j210)) = ((-1))) then (b_o c_j c_i n (b_p c_j c_i n x0 k) x0 (Sl.put l44 j214 (min (Sl.nth l44 j195) (Sl.nth l44 j200))) (Sl.put (Sl.put l46 j223 (max (Sl.nth l46 j205) (Sl.nth l46 j210))) j223 ((-1))) x18_48 x19_49) else (b_o c_j c_i n (b_p c_j c_i n x0 k) x0 (Sl.put l44 j214 (min (Sl.nth l44 j195) (Sl.nth l44 j200))) (Sl.put l46 j223 (max (Sl.nth l46 j205) (Sl.nth l46 j210))) x18_48 x19_49)) else (bif decide (((Sl.nth x0 j94).f_Kind) = 10) then ((ck (Sl.l l44).length ((Sl.nth x0 j94).f_A)).bind fun j250=>(c_i (Sl.nth l44 j250) ((Sl.nth x0 j94).f_Min)).bind fun v256=>(ck (Sl.l l46).length ((Sl.nth x0 j94).f_A)).bind fun j258=>(c_i (Sl.nth l46 j258) ((Sl.nth x0 j94).f_Max)).bind fun v264=>(ck (Sl.l l44).length x19_49).bind fun j265=>(ck (Sl.l l46).length x19_49).bind fun j274=>b_o c_j c_i n (b_p c_j c_i n x0 k) x0 (Sl.put l44 j265 v256) (Sl.put l46 j274 v264) x18_48 x19_49) else (bif decide (((Sl.nth x0 j94).f_Kind) = 11) then (b_bg c_j c_i n (b_p c_j c_i n x0 k) x0 l44 l46 x19_49 (Sl.nth x0 j94) x18_48 x19_49 (decide (((Sl.nth x0 j94).f_Kind) = 11))) else (b_bg c_j c_i n (b_p c_j c_i n x0 k) x0 l44 l46 x19_49 (Sl.nth x0 j94) x18_48 x19_49 (decide (((Sl.nth x0 j94).f_Kind) = 17))))))))) else (some (l44,l46))
def b_c3 (c_j:T_b6) (c_i:T_bQ) (n:Nat) (x0:(Sl S_a)):Option ((Sl Int) × (Sl Int)):=(Sl.make 8 (Sl.len x0) (Sl.len x0) (0:Int)).bind fun l13=>b_p c_j c_i n x0 n l13 l13 (Sl.len x0) 0
theorem w_f1 {call:CallF} (hok:CallOk Mt call) {n:Nat} {c_j:T_b6} (z_eo:A_eL call c_j) {c_i:T_bQ} (z_d9:A_ep call c_i) {H0:Hp} {x0:(Sl S_a)} {b0:Nat} {r:(Sl Int) × (Sl Int)} {ro:Nat} (hro:ro ≤ H0.length) (h0:SlH H0 S_a.c 72 x0 b0) (hm:b_c3 c_j c_i n x0 = some r) :
  Pt Mt ro 65 [(vAgg [slV x0 b0])] H0 (.tuple [(slV r.1 H0.length),(slV r.2 (H0.length + (slB (cInt .i64) 3 r.1).length))].toArray) (H0 ++ (slB (cInt .i64) 3 r.1 ++ slB (cInt .i64) 3 r.2)) []:=by
 refine pt_new okM F65d (by exact Nat.le_of_ble_eq_true rfl) ?_ hro
 intro c hnt hnb hcr
 have hcn:c.ro ≤ c.nb:=by omega
 have l0:x0 ≠ none → b0 < c.nb:=fun h=>by rw [hnb]; exact h0.lt h
 have iv:Iv c.nb [] H0 H0:=by rw [hnb]; exact iv_refl
 rw [aI1]
 rw [b_c3] at hm
 simp only [C.f65,C.f65b0]
 refine tS hok fun J hJ=>?_
 obtain ⟨b2,H3,a4,f5,q6,r7,x8,i9⟩:=bx_ok (M:=Mt) (t:=37) (u:=(vAgg [(slV x0 b0)])) (cs:=[(slV x0 b0)]) H0 iv.le T.sz37 vAgg_cells one_sl
 have i10:=i9 _ _ iv
 simp only [C.f65r0,R,Nat.reduceEqDiff,a4]
 refine hJ _ ?_
 refine tS hok fun J hJ=>?_
 have a12:=lo (off:=0 + 0) f5 T.ag35 Seg.refl
 obtain ⟨l13,el13,hm⟩:=bind_s hm
 obtain ⟨b14,H15,a16,f17,q18,r19,x20,i21⟩:=mk_ok (M:=Mt) (t:=100) (e:=3) (k:=.i64) (k':=.i64) H3 i10.le Tryz.underlying100 T.by3 zs3 el13
 have i22:=i21 _ _ i10
 have f23:=x20 _ _ f5
 have a25:=lo (off:=0 + 0) f23 T.ag35 Seg.refl
 obtain ⟨b26,H27,a28,f29,q30,r31,x32,i33⟩:=mk_ok (M:=Mt) (t:=100) (e:=3) (k:=.i64) (k':=.i64) H15 i22.le Tryz.underlying100 T.by3 zs3 el13
 have i34:=i33 _ _ i22
 have f35:=x32 _ _ f23
 have f36:=f17.ex x32
 simp only [C.f65r1,R,Nat.reduceEqDiff,s_pt,s_gt,isW,Bool.false_eq_true,if_false,if_true,reduceIte,fa37_0,a12,ln35,o_makeSlice,a16,a25,a28]
 refine hJ _ ?_
 refine tk_seq_k fun K n38 x39=>?_
 refine tS hok fun J hJ=>?_
 have a40:=lo (off:=0 + 0) f35 T.ag35 Seg.refl
 simp only [C.f65r2,R,Nat.reduceEqDiff,fa37_0,a40,ln35]
 refine hJ _ ?_
 refine tk_block_k fun K n41 e42 x43=>?_
 refine tk_loop_k (n:=n) (fun k1 ⟨σ,H,_⟩=>∃ l44 l46 x18_48 x19_49 b45 b47,b_p c_j c_i n x0 k1 l44 l46 x18_48 x19_49 = some r ∧ Lk σ 4 (slV l44 b45) ∧ Lk σ 5 (slV l46 b47) ∧ Lk σ 17 (slV x0 b0) ∧ Lk σ 18 (.int .i64 x18_48) ∧ Lk σ 19 (.int .i64 x19_49) ∧ SlO c.nb H (cInt .i64) 3 l44 b45 ∧ SlO c.nb H (cInt .i64) 3 l46 b47 ∧ (l44 ≠ none → l46 ≠ none → b45 ≠ b47) ∧ Iv c.nb [] H0 H) ?_ ?_ ?_
 ·exact ⟨l13,l13,Sl.len x0,0,b14,b26,hm,rfl,rfl,rfl,rfl,rfl,f36,f29,(fun h _=>(f17.h.ne q30) h),i34⟩
 ·rintro ⟨σ,H,d⟩ ⟨_,_,_,_,_,_,hm,_⟩
  cases hm
 ·intro k1 K n50 x51
  rintro ⟨σ64,H52,d65⟩ ⟨l44,l46,x18_48,x19_49,b45,b47,hm,h55,h56,h57,h58,h59,f60,f61,n62,i63⟩
  rw [b_p.eq_2] at hm
  refine tS hok fun J hJ=>?_
  simp only [C.f65r3,R,Nat.reduceEqDiff,h59,h58]
  refine hJ _ ?_
  refine tk_seq_k fun K n66 x67=>?_
  refine tC rfl hm (fun g68 hm=>?_) (fun g68 hm=>?_)
  ·skip
   refine tK ?_
   refine n66 _ ?_
   refine tk_seq_j (fun ⟨σ,H,_⟩=>∃ l69 l71 x18_73 x19_74 b70 b72,b_o c_j c_i n (b_p c_j c_i n x0 k1) x0 l69 l71 x18_73 x19_74 = some r ∧ Lk σ 4 (slV l69 b70) ∧ Lk σ 5 (slV l71 b72) ∧ Lk σ 17 (slV x0 b0) ∧ Lk σ 18 (.int .i64 x18_73) ∧ Lk σ 19 (.int .i64 x19_74) ∧ SlO c.nb H (cInt .i64) 3 l69 b70 ∧ SlO c.nb H (cInt .i64) 3 l71 b72 ∧ (l69 ≠ none → l71 ≠ none → b70 ≠ b72) ∧ Iv c.nb [] H0 H) ?_ ?_
   ·skip
    rintro ⟨σ87,H75,d88⟩ ⟨l69,l71,x18_73,x19_74,b70,b72,hm,h78,h79,h80,h81,h82,f83,f84,n85,i86⟩
    rw [b_o] at hm
    refine tE hok fun J hJ=>?_
    simp only [C.f65r21,R,Nat.reduceEqDiff,h82]
    refine hJ _ ?_
    refine n50 _ ?_
    exact ⟨l69,l71,x18_73,IntKind.i64.wrap (x19_74 + 1),b70,b72,hm,h78,h79,h80,h81,rfl,f83,f84,n85,i86⟩
   ·refine fun K n89 x90=>?_
    refine tk_block_k fun K n91 e92 x93=>?_
    refine tS hok fun J hJ=>?_
    obtain ⟨j94,ej94,hm⟩:=bind_s hm
    obtain ⟨mm95,k96⟩:=(h0.iv l0 (fun _=>by simp) i63).blk (ck_lt ej94).1
    have a97:=lsa k96 T.ag72 (by rw [S_a.enc.len]; exact T.sz72) (seg_sl S_a.enc.len mm95 (ck_lt ej94).1)
    obtain ⟨b98,H99,a100,f101,q102,r103,x104,i105⟩:=al_ok H52 72 (S_a.c S_a.zero) i63.le
    have i106:=i105 _ _ i63
    have f107:=f60.ex x104
    have f108:=f61.ex x104
    obtain ⟨H110,a111,f112,u113⟩:=st_ok (M:=Mt) (t:=72) (v:=(vAgg (S_a.c (Sl.nth x0 j94)))) (c:=S_a.c (Sl.nth x0 j94)) (cs':=S_a.c (Sl.nth x0 j94)) f101 (by rw [S_a.enc.len]; exact T.sz72) vAgg_cells (S_a.enc.one _) (Nat.le_trans hcn r103) (le0 S_a.enc.len) (wrs_all (eqL S_a.enc.len))
    have i114:=i106.up u113 r103
    have f115:=f107.up u113 (f60.h.ne q102)
    have f116:=f108.up u113 (f61.h.ne q102)
    simp only [C.f65r4,R,Nat.reduceEqDiff,h59,ia35,ej94,h57,a97,zs72,a100,a111]
    refine hJ _ ?_
    refine tS hok fun J hJ=>?_
    have a117:=lo f112 T.ag3 (Seg.refl.sub (S_a.seg0 (Sl.nth x0 j94)))
    simp only [C.f65r5,R,Nat.reduceEqDiff,fa72_0,a117]
    refine hJ _ ?_
    refine tk_block_k fun K n118 e119 x120=>?_
    refine tS hok fun J hJ=>?_
    simp only [C.f65r6,R,Nat.reduceEqDiff]
    refine hJ _ ?_
    refine tC rfl hm (fun g121 hm=>?_) (fun g121 hm=>?_)
    ·skip
     refine tE hok fun J hJ=>?_
     obtain ⟨j122,ej122,hm⟩:=bind_s hm
     obtain ⟨H123,a124,f125,u126⟩:=st_sl0 (M:=Mt) (t:=3) (v:=(.int .i64 (1))) (y:=1) enc_int.len f115 (ck_lt ej122).1 (by rw [enc_int.len]; exact T.sz3) rfl (enc_int.one _) hcn
     have i127:=i114.up u126 (f115.some (ck_lt ej122).1).1
     have z128:l44 ≠ none:=sl_some (j:=j122) (ck_lt ej122).1
     have f129:=f116.up u126 (fun h=>(fun h h'=>(n62 h' h).symm) h z128)
     have f130:=(u126.get _ ((f60.h.ne q102) z128).symm).trans f112
     obtain ⟨j131,ej131,hm⟩:=bind_s hm
     obtain ⟨H132,a133,f134,u135⟩:=st_sl0 (M:=Mt) (t:=3) (v:=(.int .i64 (1))) (y:=1) enc_int.len f129 (ck_lt ej131).1 (by rw [enc_int.len]; exact T.sz3) rfl (enc_int.one _) hcn
     have i136:=i127.up u135 (f129.some (ck_lt ej131).1).1
     have z137:l46 ≠ none:=sl_some (j:=j131) (ck_lt ej131).1
     have f138:=f125.up u135 (fun h=>(fun h=>(fun h h'=>n62 (by simpa only [Sl.put_none,Sl.copy_none] using h) (by simpa only [Sl.put_none,Sl.copy_none] using h')) h z137) (by simpa only [Sl.put_none,Sl.copy_none] using h))
     have f139:=(u135.get _ ((f61.h.ne q102) z137).symm).trans f130
     simp only [C.f65r7,R,Nat.reduceEqDiff,h55,h56,ia100,ej122,a124,ej131,a133]
     refine hJ _ ?_
     refine n118 _ ?_
     refine n91 _ ?_
     refine n89 _ ?_
     exact ⟨Sl.put l44 j122 1,Sl.put l46 j131 1,x18_48,x19_49,b45,b47,hm,(lk_eq (by simp only [slV_put,slV_copy]) h55),(lk_eq (by simp only [slV_put,slV_copy]) h56),h57,h58,h59,f138,f134,(fun h h'=>n62 (by simpa only [Sl.put_none,Sl.copy_none] using h) (by simpa only [Sl.put_none,Sl.copy_none] using h')),i136⟩
    ·skip
     refine tS hok fun J hJ=>?_
     simp only [C.f65r8,R,Nat.reduceEqDiff]
     refine hJ _ ?_
     refine tC rfl hm (fun g140 hm=>?_) (fun g140 hm=>?_)
     ·skip
      refine tE hok fun J hJ=>?_
      obtain ⟨j141,ej141,hm⟩:=bind_s hm
      obtain ⟨H142,a143,f144,u145⟩:=st_sl0 (M:=Mt) (t:=3) (v:=(.int .i64 ((-1)))) (y:=((-1))) enc_int.len f116 (ck_lt ej141).1 (by rw [enc_int.len]; exact T.sz3) rfl (enc_int.one _) hcn
      have i146:=i114.up u145 (f116.some (ck_lt ej141).1).1
      have z147:l46 ≠ none:=sl_some (j:=j141) (ck_lt ej141).1
      have f148:=f115.up u145 (fun h=>n62 h z147)
      have f149:=(u145.get _ ((f61.h.ne q102) z147).symm).trans f112
      simp only [C.f65r9,R,Nat.reduceEqDiff,h56,ia100,ej141,a143]
      refine hJ _ ?_
      refine n118 _ ?_
      refine n91 _ ?_
      refine n89 _ ?_
      exact ⟨l44,Sl.put l46 j141 ((-1)),x18_48,x19_49,b45,b47,hm,h55,(lk_eq (by simp only [slV_put,slV_copy]) h56),h57,h58,h59,f148,f144,(fun h h'=>n62 (by simpa only [Sl.put_none,Sl.copy_none] using h) (by simpa only [Sl.put_none,Sl.copy_none] using h')),i146⟩
     ·skip
      refine tS hok fun J hJ=>?_
      simp only [C.f65r10,R,Nat.reduceEqDiff]
      refine hJ _ ?_
      refine tC rfl hm (fun g150 hm=>?_) (fun g150 hm=>?_)
      ·skip
       refine tE hok fun J hJ=>?_
       have a151:=lo f112 T.ag3 (Seg.refl.sub (S_a.seg1 (Sl.nth x0 j94)))
       obtain ⟨j152,ej152,hm⟩:=bind_s hm
       obtain ⟨mm153,k154⟩:=f115.h.blk (ck_lt ej152).1
       have a155:=lso k154 T.ag3 (seg_sl enc_int.len mm153 (ck_lt ej152).1)
       have a156:=lo f112 T.ag3 (Seg.refl.sub (S_a.seg2 (Sl.nth x0 j94)))
       obtain ⟨j157,ej157,hm⟩:=bind_s hm
       obtain ⟨mm158,k159⟩:=f115.h.blk (ck_lt ej157).1
       have a160:=lso k159 T.ag3 (seg_sl enc_int.len mm158 (ck_lt ej157).1)
       obtain ⟨v162,ev162,hm⟩:=bind_s hm
       have a161:=z_eo H110.length H110 (Sl.nth l44 j152) (Sl.nth l44 j157) v162 ev162
       have a163:=lo f112 T.ag3 (Seg.refl.sub (S_a.seg1 (Sl.nth x0 j94)))
       obtain ⟨j164,ej164,hm⟩:=bind_s hm
       obtain ⟨mm165,k166⟩:=f116.h.blk (ck_lt ej164).1
       have a167:=lso k166 T.ag3 (seg_sl enc_int.len mm165 (ck_lt ej164).1)
       have a168:=lo f112 T.ag3 (Seg.refl.sub (S_a.seg2 (Sl.nth x0 j94)))
       obtain ⟨j169,ej169,hm⟩:=bind_s hm
       obtain ⟨mm170,k171⟩:=f116.h.blk (ck_lt ej169).1
       have a172:=lso k171 T.ag3 (seg_sl enc_int.len mm170 (ck_lt ej169).1)
       obtain ⟨v174,ev174,hm⟩:=bind_s hm
       have a173:=z_eo H110.length H110 (Sl.nth l46 j164) (Sl.nth l46 j169) v174 ev174
       obtain ⟨j175,ej175,hm⟩:=bind_s hm
       obtain ⟨H176,a177,f178,u179⟩:=st_sl0 (M:=Mt) (t:=3) (v:=(.int .i64 (v162))) (y:=v162) enc_int.len f115 (ck_lt ej175).1 (by rw [enc_int.len]; exact T.sz3) rfl (enc_int.one _) hcn
       have i180:=i114.up u179 (f115.some (ck_lt ej175).1).1
       have z181:l44 ≠ none:=sl_some (j:=j175) (ck_lt ej175).1
       have f182:=f116.up u179 (fun h=>(fun h h'=>(n62 h' h).symm) h z181)
       have f183:=(u179.get _ ((f60.h.ne q102) z181).symm).trans f112
       obtain ⟨j184,ej184,hm⟩:=bind_s hm
       obtain ⟨H185,a186,f187,u188⟩:=st_sl0 (M:=Mt) (t:=3) (v:=(.int .i64 (v174))) (y:=v174) enc_int.len f182 (ck_lt ej184).1 (by rw [enc_int.len]; exact T.sz3) rfl (enc_int.one _) hcn
       have i189:=i180.up u188 (f182.some (ck_lt ej184).1).1
       have z190:l46 ≠ none:=sl_some (j:=j184) (ck_lt ej184).1
       have f191:=f178.up u188 (fun h=>(fun h=>(fun h h'=>n62 (by simpa only [Sl.put_none,Sl.copy_none] using h) (by simpa only [Sl.put_none,Sl.copy_none] using h')) h z190) (by simpa only [Sl.put_none,Sl.copy_none] using h))
       have f192:=(u188.get _ ((f61.h.ne q102) z190).symm).trans f183
       simp only [C.f65r11,R,Nat.reduceEqDiff,s_pt,s_gt,isW,Bool.false_eq_true,if_false,if_true,reduceIte,h55,h56,fa72_1,a151,ia100,ej152,a155,fa72_2,a156,ej157,a160,c_fn F99,a161,a163,ej164,a167,a168,ej169,a172,a173,ej175,a177,ej184,a186]
       refine hJ _ ?_
       refine n118 _ ?_
       refine n91 _ ?_
       refine n89 _ ?_
       exact ⟨Sl.put l44 j175 v162,Sl.put l46 j184 v174,x18_48,x19_49,b45,b47,hm,(lk_eq (by simp only [slV_put,slV_copy]) h55),(lk_eq (by simp only [slV_put,slV_copy]) h56),h57,h58,h59,f191,f187,(fun h h'=>n62 (by simpa only [Sl.put_none,Sl.copy_none] using h) (by simpa only [Sl.put_none,Sl.copy_none] using h')),i189⟩
      ·skip
       refine tS hok fun J hJ=>?_
       simp only [C.f65r12,R,Nat.reduceEqDiff]
       refine hJ _ ?_
       refine tC rfl hm (fun g193 hm=>?_) (fun g193 hm=>?_)
       ·skip
        refine tS hok fun J hJ=>?_
        have a194:=lo f112 T.ag3 (Seg.refl.sub (S_a.seg1 (Sl.nth x0 j94)))
        obtain ⟨j195,ej195,hm⟩:=bind_s hm
        obtain ⟨mm196,k197⟩:=f115.h.blk (ck_lt ej195).1
        have a198:=lso k197 T.ag3 (seg_sl enc_int.len mm196 (ck_lt ej195).1)
        have a199:=lo f112 T.ag3 (Seg.refl.sub (S_a.seg2 (Sl.nth x0 j94)))
        obtain ⟨j200,ej200,hm⟩:=bind_s hm
        obtain ⟨mm201,k202⟩:=f115.h.blk (ck_lt ej200).1
        have a203:=lso k202 T.ag3 (seg_sl enc_int.len mm201 (ck_lt ej200).1)
        have a204:=lo f112 T.ag3 (Seg.refl.sub (S_a.seg1 (Sl.nth x0 j94)))
        obtain ⟨j205,ej205,hm⟩:=bind_s hm
        obtain ⟨mm206,k207⟩:=f116.h.blk (ck_lt ej205).1
        have a208:=lso k207 T.ag3 (seg_sl enc_int.len mm206 (ck_lt ej205).1)
        have a209:=lo f112 T.ag3 (Seg.refl.sub (S_a.seg2 (Sl.nth x0 j94)))
        obtain ⟨j210,ej210,hm⟩:=bind_s hm
        obtain ⟨mm211,k212⟩:=f116.h.blk (ck_lt ej210).1
        have a213:=lso k212 T.ag3 (seg_sl enc_int.len mm211 (ck_lt ej210).1)
        obtain ⟨j214,ej214,hm⟩:=bind_s hm
        obtain ⟨H215,a216,f217,u218⟩:=st_sl0 (M:=Mt) (t:=3) (v:=(.int .i64 (min (Sl.nth l44 j195) (Sl.nth l44 j200)))) (y:=(min (Sl.nth l44 j195) (Sl.nth l44 j200))) enc_int.len f115 (ck_lt ej214).1 (by rw [enc_int.len]; exact T.sz3) rfl (enc_int.one _) hcn
        have i219:=i114.up u218 (f115.some (ck_lt ej214).1).1
        have z220:l44 ≠ none:=sl_some (j:=j214) (ck_lt ej214).1
        have f221:=f116.up u218 (fun h=>(fun h h'=>(n62 h' h).symm) h z220)
        have f222:=(u218.get _ ((f60.h.ne q102) z220).symm).trans f112
        obtain ⟨j223,ej223,hm⟩:=bind_s hm
        obtain ⟨H224,a225,f226,u227⟩:=st_sl0 (M:=Mt) (t:=3) (v:=(.int .i64 (max (Sl.nth l46 j205) (Sl.nth l46 j210)))) (y:=(max (Sl.nth l46 j205) (Sl.nth l46 j210))) enc_int.len f221 (ck_lt ej223).1 (by rw [enc_int.len]; exact T.sz3) rfl (enc_int.one _) hcn
        have i228:=i219.up u227 (f221.some (ck_lt ej223).1).1
        have z229:l46 ≠ none:=sl_some (j:=j223) (ck_lt ej223).1
        have f230:=f217.up u227 (fun h=>(fun h=>(fun h h'=>n62 (by simpa only [Sl.put_none,Sl.copy_none] using h) (by simpa only [Sl.put_none,Sl.copy_none] using h')) h z229) (by simpa only [Sl.put_none,Sl.copy_none] using h))
        have f231:=(u227.get _ ((f61.h.ne q102) z229).symm).trans f222
        simp only [C.f65r13,R,Nat.reduceEqDiff,s_pt,s_gt,isW,Bool.false_eq_true,if_false,if_true,reduceIte,h55,h56,fa72_1,a194,ia100,ej195,a198,fa72_2,a199,ej200,a203,a204,ej205,a208,a209,ej210,a213,ej214,a216,ej223,a225]
        refine hJ _ ?_
        refine tS hok fun J hJ=>?_
        have a232:=lo f231 T.ag3 (Seg.refl.sub (S_a.seg1 (Sl.nth x0 j94)))
        obtain ⟨mm233,k234⟩:=f226.h.blk (by simp only [Sl.put_len,Sl.copy_len]; exact (ck_lt ej205).1)
        have a235:=lso k234 T.ag3 (seg_sl enc_int.len mm233 (by simp only [Sl.put_len,Sl.copy_len]; exact (ck_lt ej205).1))
        have a236:=lo f231 T.ag3 (Seg.refl.sub (S_a.seg2 (Sl.nth x0 j94)))
        obtain ⟨mm237,k238⟩:=f226.h.blk (by simp only [Sl.put_len,Sl.copy_len]; exact (ck_lt ej210).1)
        have a239:=lso k238 T.ag3 (seg_sl enc_int.len mm237 (by simp only [Sl.put_len,Sl.copy_len]; exact (ck_lt ej210).1))
        simp only [C.f65r14,R,Nat.reduceEqDiff,s_pt,s_gt,isW,Bool.false_eq_true,if_false,if_true,reduceIte,h56,fa72_1,a232,ia100,ej205,a235,fa72_2,a236,ej210,a239]
        refine hJ _ ?_
        refine tC rfl hm (fun g240 hm=>?_) (fun g240 hm=>?_)
        ·skip
         refine tE hok fun J hJ=>?_
         obtain ⟨H241,a242,f243,u244⟩:=st_sl0 (M:=Mt) (t:=3) (v:=(.int .i64 ((-1)))) (y:=((-1))) enc_int.len f226 (by simp only [Sl.put_len,Sl.copy_len]; exact (ck_lt ej223).1) (by rw [enc_int.len]; exact T.sz3) rfl (enc_int.one _) hcn
         have i245:=i228.up u244 (f226.some (by simp only [Sl.put_len,Sl.copy_len]; exact (ck_lt ej223).1)).1
         have z246:(Sl.put l46 j223 (max (Sl.nth l46 j205) (Sl.nth l46 j210))) ≠ none:=sl_some (j:=j223) (by simp only [Sl.put_len,Sl.copy_len]; exact (ck_lt ej223).1)
         have f247:=f230.up u244 (fun h=>(fun h=>(fun h h'=>n62 (by simpa only [Sl.put_none,Sl.copy_none] using h) (by simpa only [Sl.put_none,Sl.copy_none] using h')) h z246) (by simpa only [Sl.put_none,Sl.copy_none] using h))
         simp only [C.f65r15,R,Nat.reduceEqDiff,h56,ia100,ej223,a242]
         refine hJ _ ?_
         refine n118 _ ?_
         refine n91 _ ?_
         refine n89 _ ?_
         exact ⟨Sl.put l44 j214 (min (Sl.nth l44 j195) (Sl.nth l44 j200)),Sl.put (Sl.put l46 j223 (max (Sl.nth l46 j205) (Sl.nth l46 j210))) j223 ((-1)),x18_48,x19_49,b45,b47,hm,(lk_eq (by simp only [slV_put,slV_copy]) h55),(lk_eq (by simp only [slV_put,slV_copy]) h56),h57,h58,h59,f247,f243,(fun h h'=>n62 (by simpa only [Sl.put_none,Sl.copy_none] using h) (by simpa only [Sl.put_none,Sl.copy_none] using h')),i245⟩
        ·skip
         refine tK ?_
         refine n118 _ ?_
         refine n91 _ ?_
         refine n89 _ ?_
         exact ⟨Sl.put l44 j214 (min (Sl.nth l44 j195) (Sl.nth l44 j200)),Sl.put l46 j223 (max (Sl.nth l46 j205) (Sl.nth l46 j210)),x18_48,x19_49,b45,b47,hm,(lk_eq (by simp only [slV_put,slV_copy]) h55),(lk_eq (by simp only [slV_put,slV_copy]) h56),h57,h58,h59,f230,f226,(fun h h'=>n62 (by simpa only [Sl.put_none,Sl.copy_none] using h) (by simpa only [Sl.put_none,Sl.copy_none] using h')),i228⟩
       ·skip
        refine tS hok fun J hJ=>?_
        simp only [C.f65r16,R,Nat.reduceEqDiff]
        refine hJ _ ?_
        refine tC rfl hm (fun g248 hm=>?_) (fun g248 hm=>?_)
        ·skip
         refine tE hok fun J hJ=>?_
         have a249:=lo f112 T.ag3 (Seg.refl.sub (S_a.seg1 (Sl.nth x0 j94)))
         obtain ⟨j250,ej250,hm⟩:=bind_s hm
         obtain ⟨mm251,k252⟩:=f115.h.blk (ck_lt ej250).1
         have a253:=lso k252 T.ag3 (seg_sl enc_int.len mm251 (ck_lt ej250).1)
         have a254:=lo f112 T.ag3 (Seg.refl.sub (S_a.seg4 (Sl.nth x0 j94)))
         obtain ⟨v256,ev256,hm⟩:=bind_s hm
         have a255:=z_d9 H110.length H110 (Sl.nth l44 j250) ((Sl.nth x0 j94).f_Min) v256 ev256
         have a257:=lo f112 T.ag3 (Seg.refl.sub (S_a.seg1 (Sl.nth x0 j94)))
         obtain ⟨j258,ej258,hm⟩:=bind_s hm
         obtain ⟨mm259,k260⟩:=f116.h.blk (ck_lt ej258).1
         have a261:=lso k260 T.ag3 (seg_sl enc_int.len mm259 (ck_lt ej258).1)
         have a262:=lo f112 T.ag3 (Seg.refl.sub (S_a.seg5 (Sl.nth x0 j94)))
         obtain ⟨v264,ev264,hm⟩:=bind_s hm
         have a263:=z_d9 H110.length H110 (Sl.nth l46 j258) ((Sl.nth x0 j94).f_Max) v264 ev264
         obtain ⟨j265,ej265,hm⟩:=bind_s hm
         obtain ⟨H266,a267,f268,u269⟩:=st_sl0 (M:=Mt) (t:=3) (v:=(.int .i64 (v256))) (y:=v256) enc_int.len f115 (ck_lt ej265).1 (by rw [enc_int.len]; exact T.sz3) rfl (enc_int.one _) hcn
         have i270:=i114.up u269 (f115.some (ck_lt ej265).1).1
         have z271:l44 ≠ none:=sl_some (j:=j265) (ck_lt ej265).1
         have f272:=f116.up u269 (fun h=>(fun h h'=>(n62 h' h).symm) h z271)
         have f273:=(u269.get _ ((f60.h.ne q102) z271).symm).trans f112
         obtain ⟨j274,ej274,hm⟩:=bind_s hm
         obtain ⟨H275,a276,f277,u278⟩:=st_sl0 (M:=Mt) (t:=3) (v:=(.int .i64 (v264))) (y:=v264) enc_int.len f272 (ck_lt ej274).1 (by rw [enc_int.len]; exact T.sz3) rfl (enc_int.one _) hcn
         have i279:=i270.up u278 (f272.some (ck_lt ej274).1).1
         have z280:l46 ≠ none:=sl_some (j:=j274) (ck_lt ej274).1
         have f281:=f268.up u278 (fun h=>(fun h=>(fun h h'=>n62 (by simpa only [Sl.put_none,Sl.copy_none] using h) (by simpa only [Sl.put_none,Sl.copy_none] using h')) h z280) (by simpa only [Sl.put_none,Sl.copy_none] using h))
         have f282:=(u278.get _ ((f61.h.ne q102) z280).symm).trans f273
         simp only [C.f65r17,R,Nat.reduceEqDiff,s_pt,s_gt,isW,Bool.false_eq_true,if_false,if_true,reduceIte,h55,h56,fa72_1,a249,ia100,ej250,a253,fa72_4,a254,c_fn F100,a255,a257,ej258,a261,fa72_5,a262,a263,ej265,a267,ej274,a276]
         refine hJ _ ?_
         refine n118 _ ?_
         refine n91 _ ?_
         refine n89 _ ?_
         exact ⟨Sl.put l44 j265 v256,Sl.put l46 j274 v264,x18_48,x19_49,b45,b47,hm,(lk_eq (by simp only [slV_put,slV_copy]) h55),(lk_eq (by simp only [slV_put,slV_copy]) h56),h57,h58,h59,f281,f277,(fun h h'=>n62 (by simpa only [Sl.put_none,Sl.copy_none] using h) (by simpa only [Sl.put_none,Sl.copy_none] using h')),i279⟩
        ·skip
         refine tk_seq_j (fun ⟨σ,H,_⟩=>∃ l283 l285 x6_287 x288 x18_289 x19_290 x138_291 b284 b286,b_bg c_j c_i n (b_p c_j c_i n x0 k1) x0 l283 l285 x6_287 x288 x18_289 x19_290 x138_291 = some r ∧ Lk σ 4 (slV l283 b284) ∧ Lk σ 5 (slV l285 b286) ∧ Lk σ 6 (.int .i64 x6_287) ∧ Lk σ 7 (.pointer (some ⟨b98,0,none⟩)) ∧ Lk σ 17 (slV x0 b0) ∧ Lk σ 18 (.int .i64 x18_289) ∧ Lk σ 19 (.int .i64 x19_290) ∧ Lk σ 138 (.bool x138_291) ∧ SlO c.nb H (cInt .i64) 3 l283 b284 ∧ SlO c.nb H (cInt .i64) 3 l285 b286 ∧ H[b98]? = some (.cells (S_a.c x288) 72) ∧ (l283 ≠ none → b284 ≠ b98) ∧ (l285 ≠ none → b286 ≠ b98) ∧ (l283 ≠ none → l285 ≠ none → b284 ≠ b286) ∧ Iv c.nb [] H0 H) ?_ ?_
         ·skip
          rintro ⟨σ310,H292,d311⟩ ⟨l283,l285,x6_287,x288,x18_289,x19_290,x138_291,b284,b286,hm,h295,h296,h297,h298,h299,h300,h301,h302,f303,f304,f305,n306,n307,n308,i309⟩
          rw [b_bg] at hm
          refine tC h302 hm (fun g312 hm=>?_) (fun g312 hm=>?_)
          ·skip
           refine tE hok fun J hJ=>?_
           have a313:=lo f305 T.ag3 (Seg.refl.sub (S_a.seg1 x288))
           obtain ⟨j314,ej314,hm⟩:=bind_s hm
           obtain ⟨mm315,k316⟩:=f303.h.blk (ck_lt ej314).1
           have a317:=lso k316 T.ag3 (seg_sl enc_int.len mm315 (ck_lt ej314).1)
           have a318:=lo f305 T.ag3 (Seg.refl.sub (S_a.seg1 x288))
           obtain ⟨j319,ej319,hm⟩:=bind_s hm
           obtain ⟨mm320,k321⟩:=f304.h.blk (ck_lt ej319).1
           have a322:=lso k321 T.ag3 (seg_sl enc_int.len mm320 (ck_lt ej319).1)
           obtain ⟨j323,ej323,hm⟩:=bind_s hm
           obtain ⟨H324,a325,f326,u327⟩:=st_sl0 (M:=Mt) (t:=3) (v:=(.int .i64 (Sl.nth l283 j314))) (y:=(Sl.nth l283 j314)) enc_int.len f303 (ck_lt ej323).1 (by rw [enc_int.len]; exact T.sz3) rfl (enc_int.one _) hcn
           have i328:=i309.up u327 (f303.some (ck_lt ej323).1).1
           have z329:l283 ≠ none:=sl_some (j:=j323) (ck_lt ej323).1
           have f330:=f304.up u327 (fun h=>(fun h h'=>(n308 h' h).symm) h z329)
           have f331:=(u327.get _ (n306 z329).symm).trans f305
           obtain ⟨j332,ej332,hm⟩:=bind_s hm
           obtain ⟨H333,a334,f335,u336⟩:=st_sl0 (M:=Mt) (t:=3) (v:=(.int .i64 (Sl.nth l285 j319))) (y:=(Sl.nth l285 j319)) enc_int.len f330 (ck_lt ej332).1 (by rw [enc_int.len]; exact T.sz3) rfl (enc_int.one _) hcn
           have i337:=i328.up u336 (f330.some (ck_lt ej332).1).1
           have z338:l285 ≠ none:=sl_some (j:=j332) (ck_lt ej332).1
           have f339:=f326.up u336 (fun h=>(fun h=>(fun h h'=>n308 (by simpa only [Sl.put_none,Sl.copy_none] using h) (by simpa only [Sl.put_none,Sl.copy_none] using h')) h z338) (by simpa only [Sl.put_none,Sl.copy_none] using h))
           have f340:=(u336.get _ (n307 z338).symm).trans f331
           simp only [C.f65r20,R,Nat.reduceEqDiff,s_pt,s_gt,isW,Bool.false_eq_true,if_false,if_true,reduceIte,h295,h297,h296,fa72_1,h298,a313,ia100,ej314,a317,a318,ej319,a322,ej323,a325,ej332,a334]
           refine hJ _ ?_
           refine n118 _ ?_
           refine n91 _ ?_
           refine n89 _ ?_
           exact ⟨Sl.put l283 j323 (Sl.nth l283 j314),Sl.put l285 j332 (Sl.nth l285 j319),x18_289,x19_290,b284,b286,hm,(lk_eq (by simp only [slV_put,slV_copy]) h295),(lk_eq (by simp only [slV_put,slV_copy]) h296),h299,h300,h301,f339,f335,(fun h h'=>n308 (by simpa only [Sl.put_none,Sl.copy_none] using h) (by simpa only [Sl.put_none,Sl.copy_none] using h')),i337⟩
          ·skip
           refine tK ?_
           refine n118 _ ?_
           refine n91 _ ?_
           refine n89 _ ?_
           exact ⟨l283,l285,x18_289,x19_290,b284,b286,hm,h295,h296,h299,h300,h301,f303,f304,n308,i309⟩
         ·refine fun K n341 x342=>?_
          refine tS hok fun J hJ=>?_
          simp only [C.f65r18,R,Nat.reduceEqDiff]
          refine hJ _ ?_
          refine tC rfl hm (fun g343 hm=>?_) (fun g343 hm=>?_)
          ·skip
           refine tK ?_
           refine n341 _ ?_
           exact ⟨l44,l46,x19_49,Sl.nth x0 j94,x18_48,x19_49,decide (((Sl.nth x0 j94).f_Kind) = 11),b45,b47,hm,h55,h56,rfl,rfl,h57,h58,h59,rfl,f115,f116,f112,(f60.h.ne q102),(f61.h.ne q102),n62,i114⟩
          ·skip
           refine tE hok fun J hJ=>?_
           simp only [C.f65r19,R,Nat.reduceEqDiff]
           refine hJ _ ?_
           refine n341 _ ?_
           exact ⟨l44,l46,x19_49,Sl.nth x0 j94,x18_48,x19_49,decide (((Sl.nth x0 j94).f_Kind) = 17),b45,b47,hm,h55,h56,rfl,rfl,h57,h58,h59,rfl,f115,f116,f112,(f60.h.ne q102),(f61.h.ne q102),n62,i114⟩
  ·skip
   refine tX ?_
   refine x67 _ _ (by simp) ?_
   refine x51 _ _ (by simp) ?_
   refine e42 _ ?_
   refine n38 _ ?_
   refine tS hok fun J hJ=>?_
   simp only [C.f65r22,R,Nat.reduceEqDiff,h55,h56]
   refine hJ _ ?_
   refine tR ?_
   obtain rfl:=Option.some.inj hm
   exact end_sl2 (nb:=H0.length) (.inl rfl) (by rw [← hnb]; exact f60) enc_int (by rw [← hnb]; exact f61) enc_int n62 (resT' (v:=(slV l44 b45)) rfl (resT' (v:=(slV l46 b47)) rfl resN))
def b_L (n:Nat) (x7_15:Bool):Option (Int):=bif x7_15 then (some 1) else (some 0)
def b_bV (n:Nat) (x3_6:Int) (x4_7:Bool):Option (Int):=bif x4_7 then (some 2) else (bif decide (x3_6 = 10) then (b_L n (decide (x3_6 = 10))) else (bif decide (x3_6 = 11) then (b_L n (decide (x3_6 = 11))) else (bif decide (x3_6 = 13) then (b_L n (decide (x3_6 = 13))) else (bif decide (x3_6 = 14) then (b_L n (decide (x3_6 = 14))) else (bif decide (x3_6 = 15) then (b_L n (decide (x3_6 = 15))) else (bif decide (x3_6 = 16) then (b_L n (decide (x3_6 = 16))) else (b_L n (decide (x3_6 = 17)))))))))
def b_c1 (n:Nat) (x0:Int):Option (Int):=bif decide (x0 = 8) then (b_bV n x0 (decide (x0 = 8))) else (b_bV n x0 (decide (x0 = 9)))
theorem w_fZ {call:CallF} (hok:CallOk Mt call) {n:Nat} {H0:Hp} {x0:Int} {r:Int} {ro:Nat} (hro:ro ≤ H0.length) (hm:b_c1 n x0 = some r) :
  Pt Mt ro 66 [(.int .i64 x0)] H0 (.int .i64 (r)) H0 []:=by
 refine pt_new0 okM F66d (by exact Nat.le_of_ble_eq_true rfl) ?_ hro
 intro c hnt hnb hcr
 have hcn:c.ro ≤ c.nb:=by omega
 have iv:Iv c.nb [] H0 H0:=by rw [hnb]; exact iv_refl
 rw [aI1]
 rw [b_c1] at hm
 simp only [C.f66]
 refine tS hok fun J hJ=>?_
 simp only [C.f66r0,R,Nat.reduceEqDiff]
 refine hJ _ ?_
 refine tk_seq_k fun K n1 x2=>?_
 refine tS hok fun J hJ=>?_
 simp only [C.f66r1,R,Nat.reduceEqDiff]
 refine hJ _ ?_
 refine tk_block_k fun K n3 e4 x5=>?_
 refine tk_seq_j (fun ⟨σ,H,_⟩=>∃ x3_6 x4_7,b_bV n x3_6 x4_7 = some r ∧ Lk σ 3 (.int .i64 x3_6) ∧ Lk σ 4 (.bool x4_7) ∧ Iv c.nb [] H0 H) ?_ ?_
 ·skip
  rintro ⟨σ12,H8,d13⟩ ⟨x3_6,x4_7,hm,h9,h10,i11⟩
  rw [b_bV] at hm
  refine tC h10 hm (fun g14 hm=>?_) (fun g14 hm=>?_)
  ·skip
   refine tS hok fun J hJ=>?_
   simp only [C.f66r4,R,Nat.reduceEqDiff]
   refine hJ _ ?_
   refine tR ?_
   refine x5 _ _ (by simp) (by simp) ?_
   refine x2 _ _ (by simp) ?_
   obtain rfl:=Option.some.inj hm
   exact ef1 rfl rfl
  ·skip
   refine tk_seq_j (fun ⟨σ,H,_⟩=>∃ x7_15,b_L n x7_15 = some r ∧ Lk σ 7 (.bool x7_15) ∧ Iv c.nb [] H0 H) ?_ ?_
   ·skip
    rintro ⟨σ19,H16,d20⟩ ⟨x7_15,hm,h17,i18⟩
    rw [b_L] at hm
    refine tC h17 hm (fun g21 hm=>?_) (fun g21 hm=>?_)
    ·skip
     refine tS hok fun J hJ=>?_
     simp only [C.f66r12,R,Nat.reduceEqDiff]
     refine hJ _ ?_
     refine tR ?_
     refine x5 _ _ (by simp) (by simp) ?_
     refine x2 _ _ (by simp) ?_
     obtain rfl:=Option.some.inj hm
     exact ef1 rfl rfl
    ·skip
     refine tK ?_
     refine n3 _ ?_
     refine n1 _ ?_
     refine tS hok fun J hJ=>?_
     simp only [C.f66r13,R,Nat.reduceEqDiff]
     refine hJ _ ?_
     refine tR ?_
     obtain rfl:=Option.some.inj hm
     exact ef1 rfl rfl
   ·refine fun K n22 x23=>?_
    refine tS hok fun J hJ=>?_
    simp only [C.f66r5,R,Nat.reduceEqDiff,h9]
    refine hJ _ ?_
    refine tC rfl hm (fun g24 hm=>?_) (fun g24 hm=>?_)
    ·skip
     refine tK ?_
     refine n22 _ ?_
     exact ⟨decide (x3_6 = 10),hm,rfl,i11⟩
    ·skip
     refine tS hok fun J hJ=>?_
     simp only [C.f66r6,R,Nat.reduceEqDiff,h9]
     refine hJ _ ?_
     refine tC rfl hm (fun g25 hm=>?_) (fun g25 hm=>?_)
     ·skip
      refine tK ?_
      refine n22 _ ?_
      exact ⟨decide (x3_6 = 11),hm,rfl,i11⟩
     ·skip
      refine tS hok fun J hJ=>?_
      simp only [C.f66r7,R,Nat.reduceEqDiff,h9]
      refine hJ _ ?_
      refine tC rfl hm (fun g26 hm=>?_) (fun g26 hm=>?_)
      ·skip
       refine tK ?_
       refine n22 _ ?_
       exact ⟨decide (x3_6 = 13),hm,rfl,i11⟩
      ·skip
       refine tS hok fun J hJ=>?_
       simp only [C.f66r8,R,Nat.reduceEqDiff,h9]
       refine hJ _ ?_
       refine tC rfl hm (fun g27 hm=>?_) (fun g27 hm=>?_)
       ·skip
        refine tK ?_
        refine n22 _ ?_
        exact ⟨decide (x3_6 = 14),hm,rfl,i11⟩
       ·skip
        refine tS hok fun J hJ=>?_
        simp only [C.f66r9,R,Nat.reduceEqDiff,h9]
        refine hJ _ ?_
        refine tC rfl hm (fun g28 hm=>?_) (fun g28 hm=>?_)
        ·skip
         refine tK ?_
         refine n22 _ ?_
         exact ⟨decide (x3_6 = 15),hm,rfl,i11⟩
        ·skip
         refine tS hok fun J hJ=>?_
         simp only [C.f66r10,R,Nat.reduceEqDiff,h9]
         refine hJ _ ?_
         refine tC rfl hm (fun g29 hm=>?_) (fun g29 hm=>?_)
         ·skip
          refine tK ?_
          refine n22 _ ?_
          exact ⟨decide (x3_6 = 16),hm,rfl,i11⟩
         ·skip
          refine tE hok fun J hJ=>?_
          simp only [C.f66r11,R,Nat.reduceEqDiff,h9]
          refine hJ _ ?_
          refine n22 _ ?_
          exact ⟨decide (x3_6 = 17),hm,rfl,i11⟩
 ·refine fun K n30 x31=>?_
  refine tS hok fun J hJ=>?_
  simp only [C.f66r2,R,Nat.reduceEqDiff]
  refine hJ _ ?_
  refine tC rfl hm (fun g32 hm=>?_) (fun g32 hm=>?_)
  ·skip
   refine tK ?_
   refine n30 _ ?_
   exact ⟨x0,decide (x0 = 8),hm,rfl,rfl,iv⟩
  ·skip
   refine tE hok fun J hJ=>?_
   simp only [C.f66r3,R,Nat.reduceEqDiff]
   refine hJ _ ?_
   refine n30 _ ?_
   exact ⟨x0,decide (x0 = 9),hm,rfl,rfl,iv⟩
def b_5 (c_k:T_Q) (c_d:T_A) (c_f:T_C) (n:Nat) (q1:Sl Int → Sl Int → Int → Int → Option (Bool)) (x0:(Sl S_a)) (l98:Sl Int) (l100:Sl Int) (x19_102:Int) (x20_103:Int):Option (Bool):=q1 l98 l100 x19_102 (IntKind.i64.wrap (x20_103 + 1))
def b_U (c_k:T_Q) (c_d:T_A) (c_f:T_C) (n:Nat) (x0:(Sl S_a)):Nat → Sl Int → Int → Int → Option (Bool)
 | 0,_,_,_=>none
 | k + 1,l253,x38_255,x39_256=>bif decide (x39_256 < x38_255) then ((ck (Sl.l l253).length x39_256).bind fun j282=>(ck (Sl.l x0).length (Sl.nth l253 j282)).bind fun j287=>bif !decide (((Sl.nth x0 j287).f_N) = (IntKind.i64.wrap (x39_256 + 1))) then (some false) else (b_U c_k c_d c_f n x0 k l253 x38_255 (IntKind.i64.wrap (x39_256 + 1)))) else ((bif decide ((Sl.len l253) ≤ 9) then ((c_f x0 l253).bind fun v295=>some (!v295)) else some false).bind fun y296=>some y296)
def b_E (c_k:T_Q) (c_d:T_A) (c_f:T_C) (n:Nat) (x0:(Sl S_a)):Nat → Sl Int → Sl Int → Int → Int → Option (Bool)
 | 0,_,_,_,_=>none
 | k + 1,l63,l65,x19_67,x20_68=>bif decide (x20_68 < x19_67) then ((ck (Sl.l x0).length x20_68).bind fun j133=>bif decide (((Sl.nth x0 j133).f_Kind) = 11) then ((Sl.app 8 l65 (some ([x20_68]:List Int))).bind fun v180=>b_5 c_k c_d c_f n (b_E c_k c_d c_f n x0 k) x0 l63 v180 x19_67 x20_68) else (b_5 c_k c_d c_f n (b_E c_k c_d c_f n x0 k) x0 l63 l65 x19_67 x20_68)) else ((c_d l65 l63).bind fun l241=>b_U c_k c_d c_f n x0 n l241 (Sl.len l65) 0)
def b_cg (c_k:T_Q) (c_d:T_A) (c_f:T_C) (n:Nat) (x0:(Sl S_a)):Option (Bool):=(c_k x0).bind fun v14=>b_E c_k c_d c_f n x0 n v14.1 none (Sl.len x0) 0
theorem w_fb {call:CallF} (hok:CallOk Mt call) {n:Nat} {c_k:T_Q} (z_bZ:A_cB call c_k) {c_d:T_A} (z_cI:A_bS call c_d) {c_f:T_C} (z_di:A_cb call c_f) {H0:Hp} {x0:(Sl S_a)} {b0:Nat} {r:Bool} {ro:Nat} (hro:ro ≤ H0.length) (h0:SlH H0 S_a.c 72 x0 b0) (hm:b_cg c_k c_d c_f n x0 = some r) :
  Pt Mt ro 68 [(vAgg [slV x0 b0])] H0 (.bool (r)) H0 []:=by
 refine pt_new0 okM F68d (by exact Nat.le_of_ble_eq_true rfl) ?_ hro
 intro c hnt hnb hcr
 have hcn:c.ro ≤ c.nb:=by omega
 have l0:x0 ≠ none → b0 < c.nb:=fun h=>by rw [hnb]; exact h0.lt h
 have iv:Iv c.nb [] H0 H0:=by rw [hnb]; exact iv_refl
 rw [aI1]
 rw [b_cg] at hm
 simp only [C.f68,C.f68b0,C.f68b1]
 refine tS hok fun J hJ=>?_
 obtain ⟨b2,H3,a4,f5,q6,r7,x8,i9⟩:=bx_ok (M:=Mt) (t:=37) (u:=(vAgg [(slV x0 b0)])) (cs:=[(slV x0 b0)]) H0 iv.le T.sz37 vAgg_cells one_sl
 have i10:=i9 _ _ iv
 simp only [C.f68r0,R,Nat.reduceEqDiff,a4]
 refine hJ _ ?_
 refine tS hok fun J hJ=>?_
 have a12:=ld_agg (M:=Mt) (t:=37) (off:=0) (c:=[(slV x0 b0)]) f5 T.ag37 T.sz37 Seg.refl
 obtain ⟨v14,ev14,hm⟩:=bind_s hm
 have a13:=z_bZ c.ro H3 x0 b0 v14 (h0.iv l0 (fun _=>by simp) i10) ev14
 obtain ⟨H15,q16⟩:∃ x,x = H3 ++ slB (cInt .i64) 3 v14.1:=⟨_,rfl⟩
 obtain ⟨b17,q18⟩:∃ b,b = H3.length:=⟨_,rfl⟩
 rw [← q16,← q18] at a13
 have x22:Ex H3 H15:=by rw [q16]; exact ex_app
 have i20:Iv c.nb [] H0 H15:=by rw [q16]; exact i10.app
 have f19:SlO c.nb H15 (cInt .i64) 3 v14.1 b17:=by rw [q16,q18]; exact slB_own i10.le
 have r21:c.nb ≤ b17:=by rw [q18]; exact i10.le
 have f23:=x22 _ _ f5
 obtain ⟨b25,H26,a27,f28,q29,r30,x31,i32⟩:=al_ok H15 100 [.slice none 0 0] i20.le
 have i33:=i32 _ _ i20
 have f34:=x31 _ _ f23
 have f35:=f19.ex x31
 obtain ⟨H37,a38,f39,u40⟩:=st_ok (M:=Mt) (t:=100) (off:=0) (ro:=c.ro) (v:=(slV v14.1 b17)) (c:=[(slV v14.1 b17)]) (cs':=[(slV v14.1 b17)]) f28 T.sz100 cells_sl one_sl (Nat.le_trans hcn r30) (Nat.le_refl _) rfl
 have i41:=i33.up u40 r30
 have f42:=(u40.get _ (ne_len f23 q29)).trans f34
 have f43:=f35.up u40 (f19.h.ne q29)
 simp only [C.f68r1,R,Nat.reduceEqDiff,a12,c_fn F62,a13,(show zc Mt.P 100 = _ from T.zc100),a27,a38]
 refine hJ _ ?_
 refine tS hok fun J hJ=>?_
 obtain ⟨b44,H45,a46,f47,q48,r49,x50,i51⟩:=al_ok H37 100 [.slice none 0 0] i41.le
 have i52:=i51 _ _ i41
 have f53:=x50 _ _ f42
 have f54:=f43.ex x50
 have f55:=x50 _ _ f39
 simp only [C.f68r2,R,Nat.reduceEqDiff,(show zc Mt.P 100 = _ from T.zc100),a46]
 refine hJ _ ?_
 refine tk_seq_k fun K n57 x58=>?_
 refine tS hok fun J hJ=>?_
 have a59:=lo (off:=0 + 0) f53 T.ag35 Seg.refl
 simp only [C.f68r3,R,Nat.reduceEqDiff,fa37_0,a59,ln35]
 refine hJ _ ?_
 refine tk_block_k fun K n60 e61 x62=>?_
 refine tk_loop_k (n:=n) (fun k1 ⟨σ,H,_⟩=>∃ l63 l65 x19_67 x20_68 b64 b66,b_E c_k c_d c_f n x0 k1 l63 l65 x19_67 x20_68 = some r ∧ Lk σ 1 (.pointer (some ⟨b2,0,none⟩)) ∧ Lk σ 3 (.pointer (some ⟨b25,0,none⟩)) ∧ Lk σ 5 (.pointer (some ⟨b44,0,none⟩)) ∧ Lk σ 18 (slV x0 b0) ∧ Lk σ 19 (.int .i64 x19_67) ∧ Lk σ 20 (.int .i64 x20_68) ∧ H[b2]? = some (.cells [(slV x0 b0)] 37) ∧ SlO c.nb H (cInt .i64) 3 l63 b64 ∧ H[b25]? = some (.cells [(slV l63 b64)] 100) ∧ SlO c.nb H (cInt .i64) 3 l65 b66 ∧ H[b44]? = some (.cells [(slV l65 b66)] 100) ∧ (l63 ≠ none → b64 ≠ b2) ∧ (l63 ≠ none → b64 ≠ b25) ∧ (l63 ≠ none → b64 ≠ b44) ∧ (l65 ≠ none → b66 ≠ b2) ∧ (l65 ≠ none → b66 ≠ b25) ∧ (l65 ≠ none → b66 ≠ b44) ∧ (l63 ≠ none → l65 ≠ none → b64 ≠ b66) ∧ Iv c.nb [] H0 H) ?_ ?_ ?_
 ·exact ⟨v14.1,none,Sl.len x0,0,b17,0,hm,rfl,rfl,rfl,rfl,rfl,rfl,f53,f54,f55,slO_nil,f47,(fun _=>(ne_len f5 q18).symm),(f19.h.ne q29),(f43.h.ne q48),(fun h=>absurd rfl h),(fun h=>absurd rfl h),(fun h=>absurd rfl h),(fun _ h=>absurd rfl h),i52⟩
 ·rintro ⟨σ,H,d⟩ ⟨_,_,_,_,_,_,hm,_⟩
  cases hm
 ·intro k1 K n69 x70
  rintro ⟨σ93,H71,d94⟩ ⟨l63,l65,x19_67,x20_68,b64,b66,hm,h74,h75,h76,h77,h78,h79,f80,f81,f82,f83,f84,n85,n86,n87,n88,n89,n90,n91,i92⟩
  rw [b_E.eq_2] at hm
  refine tS hok fun J hJ=>?_
  simp only [C.f68r4,R,Nat.reduceEqDiff,h79,h78]
  refine hJ _ ?_
  refine tk_seq_k fun K n95 x96=>?_
  refine tC rfl hm (fun g97 hm=>?_) (fun g97 hm=>?_)
  ·skip
   refine tK ?_
   refine n95 _ ?_
   refine tk_seq_j (fun ⟨σ,H,_⟩=>∃ l98 l100 x19_102 x20_103 b99 b101,b_5 c_k c_d c_f n (b_E c_k c_d c_f n x0 k1) x0 l98 l100 x19_102 x20_103 = some r ∧ Lk σ 1 (.pointer (some ⟨b2,0,none⟩)) ∧ Lk σ 3 (.pointer (some ⟨b25,0,none⟩)) ∧ Lk σ 5 (.pointer (some ⟨b44,0,none⟩)) ∧ Lk σ 18 (slV x0 b0) ∧ Lk σ 19 (.int .i64 x19_102) ∧ Lk σ 20 (.int .i64 x20_103) ∧ H[b2]? = some (.cells [(slV x0 b0)] 37) ∧ SlO c.nb H (cInt .i64) 3 l98 b99 ∧ H[b25]? = some (.cells [(slV l98 b99)] 100) ∧ SlO c.nb H (cInt .i64) 3 l100 b101 ∧ H[b44]? = some (.cells [(slV l100 b101)] 100) ∧ (l98 ≠ none → b99 ≠ b2) ∧ (l98 ≠ none → b99 ≠ b25) ∧ (l98 ≠ none → b99 ≠ b44) ∧ (l100 ≠ none → b101 ≠ b2) ∧ (l100 ≠ none → b101 ≠ b25) ∧ (l100 ≠ none → b101 ≠ b44) ∧ (l98 ≠ none → l100 ≠ none → b99 ≠ b101) ∧ Iv c.nb [] H0 H) ?_ ?_
   ·skip
    rintro ⟨σ126,H104,d127⟩ ⟨l98,l100,x19_102,x20_103,b99,b101,hm,h107,h108,h109,h110,h111,h112,f113,f114,f115,f116,f117,n118,n119,n120,n121,n122,n123,n124,i125⟩
    rw [b_5] at hm
    refine tE hok fun J hJ=>?_
    simp only [C.f68r8,R,Nat.reduceEqDiff,h112]
    refine hJ _ ?_
    refine n69 _ ?_
    exact ⟨l98,l100,x19_102,IntKind.i64.wrap (x20_103 + 1),b99,b101,hm,h107,h108,h109,h110,h111,rfl,f113,f114,f115,f116,f117,n118,n119,n120,n121,n122,n123,n124,i125⟩
   ·refine fun K n128 x129=>?_
    refine tk_block_k fun K n130 e131 x132=>?_
    refine tS hok fun J hJ=>?_
    obtain ⟨j133,ej133,hm⟩:=bind_s hm
    obtain ⟨mm134,k135⟩:=(h0.iv l0 (fun _=>by simp) i92).blk (ck_lt ej133).1
    have a136:=lsa k135 T.ag72 (by rw [S_a.enc.len]; exact T.sz72) (seg_sl S_a.enc.len mm134 (ck_lt ej133).1)
    obtain ⟨b137,H138,a139,f140,q141,r142,x143,i144⟩:=al_ok H71 72 (S_a.c S_a.zero) i92.le
    have i145:=i144 _ _ i92
    have f146:=x143 _ _ f80
    have f147:=f81.ex x143
    have f148:=x143 _ _ f82
    have f149:=f83.ex x143
    have f150:=x143 _ _ f84
    obtain ⟨H152,a153,f154,u155⟩:=st_ok (M:=Mt) (t:=72) (v:=(vAgg (S_a.c (Sl.nth x0 j133)))) (c:=S_a.c (Sl.nth x0 j133)) (cs':=S_a.c (Sl.nth x0 j133)) f140 (by rw [S_a.enc.len]; exact T.sz72) vAgg_cells (S_a.enc.one _) (Nat.le_trans hcn r142) (le0 S_a.enc.len) (wrs_all (eqL S_a.enc.len))
    have i156:=i145.up u155 r142
    have f157:=(u155.get _ (ne_len f80 q141)).trans f146
    have f158:=f147.up u155 (f81.h.ne q141)
    have f159:=(u155.get _ (ne_len f82 q141)).trans f148
    have f160:=f149.up u155 (f83.h.ne q141)
    have f161:=(u155.get _ (ne_len f84 q141)).trans f150
    simp only [C.f68r5,R,Nat.reduceEqDiff,h79,ia35,ej133,h77,a136,zs72,a139,a153]
    refine hJ _ ?_
    refine tS hok fun J hJ=>?_
    have a162:=lo f154 T.ag3 (Seg.refl.sub (S_a.seg0 (Sl.nth x0 j133)))
    simp only [C.f68r6,R,Nat.reduceEqDiff,fa72_0,a162]
    refine hJ _ ?_
    refine tC rfl hm (fun g163 hm=>?_) (fun g163 hm=>?_)
    ·skip
     refine tE hok fun J hJ=>?_
     have a164:=lo f161 T.ag100 Seg.refl
     obtain ⟨b165,H166,a167,f168,q169,r170,x171,i172⟩:=bs_ok (M:=Mt) (t:=100) (e:=3) (c:=(cInt .i64)) (l:=([x20_68]:List Int)) (ps:=[(0,(.int .i64 (x20_68)))]) (n:=1) H152 i156.le Tryz.underlying100 (zs3) rfl (by simp only [List.length_cons,List.length_nil]; decide) (fun _=>rfl) enc_int.one rfl rfl
     have i173:=i172 _ _ i156
     have f174:=x171 _ _ f157
     have f175:=f158.ex x171
     have f176:=x171 _ _ f159
     have f177:=f160.ex x171
     have f178:=x171 _ _ f161
     obtain ⟨v180,ev180,hm⟩:=bind_s hm
     obtain ⟨b181,H182,a183,f184,mv185,i186,nw187⟩:=app_ok (M:=Mt) (t:=100) (u:=100) (nb:=c.nb) (x:=l65) (y:=some ([x20_68]:List Int)) (b:=b66) (b2:=b165) Tryz.underlying100 Tryz.underlying100 T.sz3 T.by3 zs3 (by decide) (by decide) enc_int.len enc_int.one i173.le hcn f177 f168.h ev180
     have i188:=i186 _ _ i173
     have n189:=nw187 b2 (get_lt f174) n88
     have n190:=fun (h:l63 ≠ none)=>nw187 b64 (f175.h.lt h) (fun h'=>(n91 h h').symm)
     have n191:=nw187 b25 (get_lt f176) n89
     have n192:=nw187 b44 (get_lt f178) n90
     have f193:=mv185.2 _ _ (fun h=>(n88 h).symm) f174
     have f194:=f175.mv mv185 n91
     have f195:=mv185.2 _ _ (fun h=>(n89 h).symm) f176
     have f196:=mv185.2 _ _ (fun h=>(n90 h).symm) f178
     obtain ⟨H198,a199,f200,u201⟩:=st_ok (M:=Mt) (t:=100) (off:=0) (ro:=c.ro) (v:=(slV v180 b181)) (c:=[(slV v180 b181)]) (cs':=[(slV v180 b181)]) f196 T.sz100 cells_sl one_sl (Nat.le_trans hcn r49) (Nat.le_refl _) rfl
     have i202:=i188.up u201 r49
     have f203:=(u201.get _ (ne_len f42 q48)).trans f193
     have f204:=f194.up u201 n87
     have f205:=(u201.get _ (ne_len f39 q48)).trans f195
     have f206:=f184.up u201 n192
     simp only [C.f68r7,R,Nat.reduceEqDiff,a164,h76,a167,a183,a199]
     refine hJ _ ?_
     refine n130 _ ?_
     refine n128 _ ?_
     exact ⟨l63,v180,x19_67,x20_68,b64,b181,hm,h74,h75,h76,h77,h78,h79,f203,f204,f205,f206,f200,n85,n86,n87,n189,n191,n192,(fun h h'=>(n190 h h').symm),i202⟩
    ·skip
     refine tK ?_
     refine n130 _ ?_
     refine n128 _ ?_
     exact ⟨l63,l65,x19_67,x20_68,b64,b66,hm,h74,h75,h76,h77,h78,h79,f157,f158,f159,f160,f161,n85,n86,n87,n88,n89,n90,n91,i156⟩
  ·skip
   refine tX ?_
   refine x96 _ _ (by simp) ?_
   refine x70 _ _ (by simp) ?_
   refine e61 _ ?_
   refine n57 _ ?_
   refine tS hok fun J hJ=>?_
   obtain ⟨b207,H208,a209,f210,q211,r212,x213,i214⟩:=al_ok H71 99 [.nilFunc] i92.le
   have i215:=i214 _ _ i92
   have f216:=x213 _ _ f80
   have f217:=f81.ex x213
   have f218:=x213 _ _ f82
   have f219:=f83.ex x213
   have f220:=x213 _ _ f84
   obtain ⟨H222,a223,f224,u225⟩:=st_ok (M:=Mt) (t:=99) (off:=0) (ro:=c.ro) (v:=(.func (.func 102) [].toArray [(.pointer (some ⟨b25,0,none⟩))].toArray)) (c:=[(.func (.func 102) [].toArray [(.pointer (some ⟨b25,0,none⟩))].toArray)]) (cs':=[(.func (.func 102) [].toArray [(.pointer (some ⟨b25,0,none⟩))].toArray)]) f210 T.sz99 rfl (one_v rfl) (Nat.le_trans hcn r212) (Nat.le_refl _) rfl
   have i226:=i215.up u225 r212
   have f227:=(u225.get _ (ne_len f80 q211)).trans f216
   have f228:=f217.up u225 (f81.h.ne q211)
   have f229:=(u225.get _ (ne_len f82 q211)).trans f218
   have f230:=f219.up u225 (f83.h.ne q211)
   have f231:=(u225.get _ (ne_len f84 q211)).trans f220
   simp only [C.f68r9,R,Nat.reduceEqDiff,o_makeFunc,mf_ok,h75,(show zc Mt.P 99 = _ from T.zc99),a209,a223]
   refine hJ _ ?_
   refine tS hok fun J hJ=>?_
   have a232:=lo f231 T.ag100 Seg.refl
   obtain ⟨l241,el241,hm⟩:=bind_s hm
   obtain ⟨H236,a237,f238,u239,sv233,sn234,sl235⟩:=z_cI c.ro c.nb H222 l65 b66 l63 b207 b25 b64 l241 hcn f230 f224 f229 f228.h (fun h=>((f83.h.ne q211) h)) (fun h=>(n89 h)) (fun h h'=>(n91 h' h).symm) el241
   have i240:=i226.upS u239 (fun h=>(f230.own h))
   have f242:=u239.get b2 (fun h=>(n88 h)) f227
   have f243:=f228.upS u239 (fun h h'=>((fun h h'=>(n91 h' h).symm) h' h).symm)
   have f244:=u239.get b25 (fun h=>(n89 h)) f229
   have f245:=u239.get b44 (fun h=>(n90 h)) f231
   have f246:=u239.get b207 (fun h=>((f83.h.ne q211) h)) f224
   simp only [C.f68r10,R,Nat.reduceEqDiff,a232,h76,o_makeFunc,mf_ok,h75,c_fn F103,a237]
   refine hJ _ ?_
   refine tk_seq_k fun K n247 x248=>?_
   refine tS hok fun J hJ=>?_
   have a249:=lo f245 T.ag100 Seg.refl
   simp only [C.f68r11,R,Nat.reduceEqDiff,a249,h76,ln100]
   refine hJ _ ?_
   refine tk_block_k fun K n250 e251 x252=>?_
   refine tk_loop_k (n:=n) (fun k3 ⟨σ,H,_⟩=>∃ l253 x38_255 x39_256 b254,b_U c_k c_d c_f n x0 k3 l253 x38_255 x39_256 = some r ∧ Lk σ 1 (.pointer (some ⟨b2,0,none⟩)) ∧ Lk σ 5 (.pointer (some ⟨b44,0,none⟩)) ∧ Lk σ 37 (slV l253 b254) ∧ Lk σ 38 (.int .i64 x38_255) ∧ Lk σ 39 (.int .i64 x39_256) ∧ H[b2]? = some (.cells [(slV x0 b0)] 37) ∧ SlO c.nb H (cInt .i64) 3 l253 b254 ∧ H[b44]? = some (.cells [(slV l253 b254)] 100) ∧ (l253 ≠ none → b254 ≠ b2) ∧ (l253 ≠ none → b254 ≠ b44) ∧ Iv c.nb [] H0 H) ?_ ?_ ?_
   ·exact ⟨l241,Sl.len l65,0,b66,hm,h74,h76,(lk_eq (by simp only [slV_put,slV_copy,sv233]) rfl),rfl,rfl,f242,f238,(by simp only [slV_put,slV_copy,sv233]; exact f245),(fun h=>n88 (by simpa only [Sl.put_none,Sl.copy_none,sn234] using h)),(fun h=>n90 (by simpa only [Sl.put_none,Sl.copy_none,sn234] using h)),i240⟩
   ·rintro ⟨σ,H,d⟩ ⟨_,_,_,_,hm,_⟩
    cases hm
   ·intro k3 K n257 x258
    rintro ⟨σ272,H259,d273⟩ ⟨l253,x38_255,x39_256,b254,hm,h261,h262,h263,h264,h265,f266,f267,f268,n269,n270,i271⟩
    rw [b_U.eq_2] at hm
    refine tS hok fun J hJ=>?_
    simp only [C.f68r12,R,Nat.reduceEqDiff,h265,h264]
    refine hJ _ ?_
    refine tk_seq_k fun K n274 x275=>?_
    refine tC rfl hm (fun g276 hm=>?_) (fun g276 hm=>?_)
    ·skip
     refine tK ?_
     refine n274 _ ?_
     refine tk_seq_k fun K n277 x278=>?_
     refine tk_block_k fun K n279 e280 x281=>?_
     refine tS hok fun J hJ=>?_
     obtain ⟨j282,ej282,hm⟩:=bind_s hm
     obtain ⟨mm283,k284⟩:=f267.h.blk (ck_lt ej282).1
     have a285:=lso k284 T.ag3 (seg_sl enc_int.len mm283 (ck_lt ej282).1)
     simp only [C.f68r13,R,Nat.reduceEqDiff,h265,ia100,ej282,h263,a285]
     refine hJ _ ?_
     refine tS hok fun J hJ=>?_
     have a286:=lo (off:=0 + 0) f266 T.ag35 Seg.refl
     obtain ⟨j287,ej287,hm⟩:=bind_s hm
     obtain ⟨mm288,k289⟩:=(h0.iv l0 (fun _=>by simp) i271).blk (ck_lt ej287).1
     have a290:=lso k289 T.ag3 ((seg_sl S_a.enc.len mm288 (ck_lt ej287).1).sub (S_a.seg7 (Sl.nth x0 j287)))
     simp only [C.f68r14,R,Nat.reduceEqDiff,fa37_0,h261,a286,ia35,ej287,fa72_7,a290]
     refine hJ _ ?_
     refine tC rfl hm (fun g291 hm=>?_) (fun g291 hm=>?_)
     ·skip
      refine tS hok fun J hJ=>?_
      simp only [C.f68r15,R,Nat.reduceEqDiff]
      refine hJ _ ?_
      refine tR ?_
      refine x281 _ _ (by simp) (by simp) ?_
      refine x278 _ _ (by simp) ?_
      refine x258 _ _ (by simp) ?_
      refine x252 _ _ (by simp) (by simp) ?_
      refine x248 _ _ (by simp) ?_
      obtain rfl:=Option.some.inj hm
      exact ef1 rfl rfl
     ·skip
      refine tK ?_
      refine n279 _ ?_
      refine n277 _ ?_
      refine tE hok fun J hJ=>?_
      simp only [C.f68r16,R,Nat.reduceEqDiff,h265]
      refine hJ _ ?_
      refine n257 _ ?_
      exact ⟨l253,x38_255,IntKind.i64.wrap (x39_256 + 1),b254,hm,h261,h262,h263,h264,rfl,f266,f267,f268,n269,n270,i271⟩
    ·skip
     refine tX ?_
     refine x275 _ _ (by simp) ?_
     refine x258 _ _ (by simp) ?_
     refine e251 _ ?_
     refine n247 _ ?_
     refine tS hok fun J hJ=>?_
     simp only [C.f68r17,R,Nat.reduceEqDiff,o_makeFunc,mf_ok,h262]
     refine hJ _ ?_
     refine tS hok fun J hJ=>?_
     rw [C.f68r18]
     have a292:=lo f268 T.ag100 Seg.refl
     obtain ⟨y296,ey296,hm⟩:=bind_s hm
     refine rn_app_k (fun ⟨σ,H,_⟩=>Lk σ 64 (.bool (y296)) ∧ Iv c.nb [] H0 H) (fun J hJ=>?_) ?_
     ·skip
      cases g300:decide ((Sl.len l253) ≤ 9)
      ·skip
       have ey296:=cond_f ey296 g300
       obtain rfl:=Option.some.inj ey296
       simp only [C.f68r18p0,R,Nat.reduceEqDiff,a292,h262,ln100,g300]
       exact hJ _ ⟨(by first | rfl | (simp only [g300]; rfl) | simp only [g300,Lk,RB,Nat.reduceEqDiff,not_false_eq_true]),i271⟩
      ·skip
       have ey296:=cond_t ey296 g300
       have a301:=lo (off:=0 + 0) f266 T.ag35 Seg.refl
       obtain ⟨v303,ev303,ey296⟩:=bind_s ey296
       have a302:=z_di c.ro H259 x0 b0 l253 b44 b254 v303 (h0.iv l0 (fun _=>by simp) i271) f268 f267.h ev303
       obtain rfl:=Option.some.inj ey296
       simp only [C.f68r18p0,R,Nat.reduceEqDiff,a292,h262,ln100,g300,fa37_0,h261,a301,c_fn F106,a302]
       exact hJ _ ⟨(by first | rfl | (simp only [g300]; rfl) | simp only [g300,Lk,RB,Nat.reduceEqDiff,not_false_eq_true]),i271⟩
     rintro ⟨σ304,H297,d305⟩ ⟨h298,i299⟩
     simp only [C.f68r18p1,R,Nat.reduceEqDiff,h298]
     refine hJ _ ?_
     refine tR ?_
     obtain rfl:=Option.some.inj hm
     exact ef1 rfl rfl
def b_br (n:Nat) (x5_12:Int):Option (Int):=some (IntKind.i64.wrap (x5_12 + 1))
def b_ch (n:Nat) (x0:S_a) (x1:Int):Option (Int):=bif !decide (x0.f_Max = ((-1))) then (b_br n (min (IntKind.i64.wrap (x0.f_Min + x1)) x0.f_Max)) else (b_br n (IntKind.i64.wrap (x0.f_Min + x1)))
theorem w_fk {call:CallF} (hok:CallOk Mt call) {n:Nat} {H0:Hp} {x0:S_a} {x1:Int} {r:Int} {ro:Nat} (hro:ro ≤ H0.length) (hm:b_ch n x0 x1 = some r) :
  Pt Mt ro 79 [(vAgg (S_a.c x0)),(.int .i64 x1)] H0 (.int .i64 (r)) H0 []:=by
 refine pt_new0 okM F79d (by exact Nat.le_of_ble_eq_true rfl) ?_ hro
 intro c hnt hnb hcr
 have hcn:c.ro ≤ c.nb:=by omega
 have iv:Iv c.nb [] H0 H0:=by rw [hnb]; exact iv_refl
 rw [aI2]
 rw [b_ch] at hm
 simp only [C.f79]
 refine tS hok fun J hJ=>?_
 obtain ⟨b1,H2,a3,f4,q5,r6,x7,i8⟩:=bx_ok (M:=Mt) (t:=72) (u:=(vAgg (S_a.c (x0)))) (cs:=S_a.c x0) H0 iv.le (by rw [S_a.enc.len]; exact T.sz72) vAgg_cells (S_a.enc.one _)
 have i9:=i8 _ _ iv
 simp only [C.f79r0,R,Nat.reduceEqDiff,a3]
 refine hJ _ ?_
 refine tS hok fun J hJ=>?_
 have a11:=lo f4 T.ag3 (Seg.refl.sub (S_a.seg4 x0))
 simp only [C.f79r1,R,Nat.reduceEqDiff,fa72_4,a11]
 refine hJ _ ?_
 refine tk_seq_j (fun ⟨σ,H,_⟩=>∃ x5_12,b_br n x5_12 = some r ∧ Lk σ 5 (.int .i64 x5_12) ∧ Iv c.nb [] H0 H) ?_ ?_
 ·skip
  rintro ⟨σ16,H13,d17⟩ ⟨x5_12,hm,h14,i15⟩
  rw [b_br] at hm
  refine tS hok fun J hJ=>?_
  simp only [C.f79r4,R,Nat.reduceEqDiff,h14]
  refine hJ _ ?_
  refine tR ?_
  obtain rfl:=Option.some.inj hm
  exact ef1 rfl rfl
 ·refine fun K n18 x19=>?_
  refine tS hok fun J hJ=>?_
  have a20:=lo f4 T.ag3 (Seg.refl.sub (S_a.seg5 x0))
  simp only [C.f79r2,R,Nat.reduceEqDiff,fa72_5,a20]
  refine hJ _ ?_
  refine tC rfl hm (fun g21 hm=>?_) (fun g21 hm=>?_)
  ·skip
   refine tE hok fun J hJ=>?_
   have a22:=lo f4 T.ag3 (Seg.refl.sub (S_a.seg5 x0))
   simp only [C.f79r3,R,Nat.reduceEqDiff,fa72_5,a22]
   refine hJ _ ?_
   refine n18 _ ?_
   exact ⟨min (IntKind.i64.wrap (x0.f_Min + x1)) x0.f_Max,hm,rfl,i9⟩
  ·skip
   refine tK ?_
   refine n18 _ ?_
   exact ⟨IntKind.i64.wrap (x0.f_Min + x1),hm,rfl,i9⟩
def b_dO (n:Nat) (x0:Nat):Option (Nat):=some (fBits (andNI .u64 (bitsF x0) 9223372036854775808))
theorem w_f0 {call:CallF} (hok:CallOk Mt call) {n:Nat} {H0:Hp} {x0:Nat} {r:Nat} {ro:Nat} (hro:ro ≤ H0.length) (hm:b_dO n x0 = some r) :
  Pt Mt ro 84 [(.float .f64 x0)] H0 (.float .f64 (r)) H0 []:=by
 refine pt_new0 okM F84d (by exact Nat.le_of_ble_eq_true rfl) ?_ hro
 intro c hnt hnb hcr
 have hcn:c.ro ≤ c.nb:=by omega
 have iv:Iv c.nb [] H0 H0:=by rw [hnb]; exact iv_refl
 rw [aI1]
 rw [b_dO] at hm
 simp only [C.f84]
 refine tS hok fun J hJ=>?_
 simp only [C.f84r0,R,Nat.reduceEqDiff]
 refine hJ _ ?_
 refine tS hok fun J hJ=>?_
 simp only [C.f84r1,R,Nat.reduceEqDiff,c_x (show Mt.F 119 = none from rfl),x119,bin_andn,c_x (show Mt.F 85 = none from rfl),x85]
 refine hJ _ ?_
 refine tR ?_
 obtain rfl:=Option.some.inj hm
 exact ef1 rfl rfl
def b_bR (c_bu:T_ct) (c_b9:T_cA) (n:Nat) (x0:S_a):Option (Bool):=(bif (decide (x0.f_Kind < 0)) || (decide (18 ≤ x0.f_Kind)) then some true else ((c_bu x0).bind fun v26=>(c_b9 x0).bind fun v29=>(c_bu v29).bind fun v31=>some (!decide (v26 = v31)))).bind fun y32=>bif y32 then (some false) else (bif !decide (x0.f_Kind = 10) then (some true) else (some (((((decide (0 ≤ x0.f_Min)) && (decide (x0.f_Min ≤ 100))) && ((decide (x0.f_Max = ((-1)))) || ((decide (x0.f_Min ≤ x0.f_Max)) && (decide (x0.f_Max ≤ 100))))) && (decide (0 ≤ x0.f_Mode))) && (decide (x0.f_Mode ≤ 2)))))
theorem w_eE {call:CallF} (hok:CallOk Mt call) {n:Nat} {c_bu:T_ct} (z_dc:A_dp call c_bu) {c_b9:T_cA} (z_eH:A_dE call c_b9) {H0:Hp} {x0:S_a} {r:Bool} {ro:Nat} (hro:ro ≤ H0.length) (hm:b_bR c_bu c_b9 n x0 = some r) :
  Pt Mt ro 97 [(vAgg (S_a.c x0))] H0 (.bool (r)) H0 []:=by
 refine pt_new0 okM F97d (by exact Nat.le_of_ble_eq_true rfl) ?_ hro
 intro c hnt hnb hcr
 have hcn:c.ro ≤ c.nb:=by omega
 have iv:Iv c.nb [] H0 H0:=by rw [hnb]; exact iv_refl
 rw [aI1]
 rw [b_bR] at hm
 simp only [C.f97]
 refine tS hok fun J hJ=>?_
 obtain ⟨b1,H2,a3,f4,q5,r6,x7,i8⟩:=bx_ok (M:=Mt) (t:=72) (u:=(vAgg (S_a.c (x0)))) (cs:=S_a.c x0) H0 iv.le (by rw [S_a.enc.len]; exact T.sz72) vAgg_cells (S_a.enc.one _)
 have i9:=i8 _ _ iv
 simp only [C.f97r0,R,Nat.reduceEqDiff,a3]
 refine hJ _ ?_
 refine tk_seq_k fun K n11 x12=>?_
 refine tS hok fun J hJ=>?_
 rw [C.f97r1]
 have a13:=lo f4 T.ag3 (Seg.refl.sub (S_a.seg0 x0))
 refine rn_app_k (fun ⟨σ,H,_⟩=>Lk σ 1 (.pointer (some ⟨b1,0,none⟩)) ∧ Lk σ 10 (.bool ((decide (x0.f_Kind < 0)) || (decide (18 ≤ x0.f_Kind)))) ∧ H[b1]? = some (.cells (S_a.c x0) 72) ∧ Iv c.nb [] H0 H) (fun J hJ=>?_) ?_
 ·skip
  cases g20:decide (x0.f_Kind < 0)
  ·skip
   have a21:=lo f4 T.ag3 (Seg.refl.sub (S_a.seg0 x0))
   simp only [C.f97r1p0,R,Nat.reduceEqDiff,s_pt,s_gt,isW,Bool.false_eq_true,if_false,if_true,reduceIte,fa72_0,a13,g20,a21]
   exact hJ _ ⟨rfl,(by first | rfl | (simp only [g20]; rfl) | simp only [g20,Lk,RB,Nat.reduceEqDiff,not_false_eq_true]),f4,i9⟩
  ·skip
   simp only [C.f97r1p0,R,Nat.reduceEqDiff,s_pt,s_gt,isW,Bool.false_eq_true,if_false,if_true,reduceIte,fa72_0,a13,g20]
   exact hJ _ ⟨rfl,(by first | rfl | (simp only [g20]; rfl) | simp only [g20,Lk,RB,Nat.reduceEqDiff,not_false_eq_true]),f4,i9⟩
 rintro ⟨σ22,H15,d23⟩ ⟨h16,h17,f18,i19⟩
 obtain ⟨y32,ey32,hm⟩:=bind_s hm
 refine rn_k (fun ⟨σ,H,_⟩=>Lk σ 1 (.pointer (some ⟨b1,0,none⟩)) ∧ Lk σ 18 (.bool (y32)) ∧ H[b1]? = some (.cells (S_a.c x0) 72) ∧ Iv c.nb [] H0 H) (fun J hJ=>?_) ?_
 ·skip
  cases g38:(decide (x0.f_Kind < 0)) || (decide (18 ≤ x0.f_Kind))
  ·skip
   have ey32:=cond_f ey32 g38
   have a39:=la f18 T.ag72 (by rw [S_a.enc.len]; exact T.sz72) Seg.refl
   obtain ⟨v41,ev41,ey32⟩:=bind_s ey32
   have a40:=z_dc H15.length H15 x0 v41 ev41
   have a42:=la f18 T.ag72 (by rw [S_a.enc.len]; exact T.sz72) Seg.refl
   obtain ⟨v44,ev44,ey32⟩:=bind_s ey32
   have a43:=z_eH H15.length H15 x0 v44 ev44
   obtain ⟨v46,ev46,ey32⟩:=bind_s ey32
   have a45:=z_dc H15.length H15 v44 v46 ev46
   obtain rfl:=Option.some.inj ey32
   simp only [C.f97r1p1,R,Nat.reduceEqDiff,s_pt,s_gt,isW,Bool.false_eq_true,if_false,if_true,reduceIte,h17,↓g38,a39,h16,c_fn F124,a40,a42,c_fn F125,a43,a45,neq72]
   exact hJ _ ⟨h16,(by first | rfl | (simp only [↓g38]; rfl) | simp only [↓g38,Lk,RB,Nat.reduceEqDiff,not_false_eq_true]),f18,i19⟩
  ·skip
   have ey32:=cond_t ey32 g38
   obtain rfl:=Option.some.inj ey32
   simp only [C.f97r1p1,R,Nat.reduceEqDiff,s_pt,s_gt,isW,Bool.false_eq_true,if_false,if_true,reduceIte,h17,↓g38]
   exact hJ _ ⟨h16,(by first | rfl | (simp only [↓g38]; rfl) | simp only [↓g38,Lk,RB,Nat.reduceEqDiff,not_false_eq_true]),f18,i19⟩
 rintro ⟨σ47,H33,d48⟩ ⟨h34,h35,f36,i37⟩
 refine hJ _ ?_
 refine tC h35 hm (fun g49 hm=>?_) (fun g49 hm=>?_)
 ·skip
  refine tS hok fun J hJ=>?_
  simp only [C.f97r2,R,Nat.reduceEqDiff]
  refine hJ _ ?_
  refine tR ?_
  refine x12 _ _ (by simp) ?_
  obtain rfl:=Option.some.inj hm
  exact ef1 rfl rfl
 ·skip
  refine tK ?_
  refine n11 _ ?_
  refine tk_seq_k fun K n50 x51=>?_
  refine tS hok fun J hJ=>?_
  have a52:=lo f36 T.ag3 (Seg.refl.sub (S_a.seg0 x0))
  simp only [C.f97r3,R,Nat.reduceEqDiff,fa72_0,h34,a52]
  refine hJ _ ?_
  refine tC rfl hm (fun g53 hm=>?_) (fun g53 hm=>?_)
  ·skip
   refine tS hok fun J hJ=>?_
   simp only [C.f97r4,R,Nat.reduceEqDiff]
   refine hJ _ ?_
   refine tR ?_
   refine x51 _ _ (by simp) ?_
   obtain rfl:=Option.some.inj hm
   exact ef1 rfl rfl
  ·skip
   refine tK ?_
   refine n50 _ ?_
   refine tS hok fun J hJ=>?_
   rw [C.f97r5]
   have a54:=lo f36 T.ag3 (Seg.refl.sub (S_a.seg4 x0))
   refine rn_app_k (fun ⟨σ,H,_⟩=>Lk σ 1 (.pointer (some ⟨b1,0,none⟩)) ∧ Lk σ 29 (.bool ((decide (0 ≤ x0.f_Min)) && (decide (x0.f_Min ≤ 100)))) ∧ H[b1]? = some (.cells (S_a.c x0) 72) ∧ Iv c.nb [] H0 H) (fun J hJ=>?_) ?_
   ·skip
    cases g61:decide (0 ≤ x0.f_Min)
    ·skip
     simp only [C.f97r5p0,R,Nat.reduceEqDiff,fa72_4,h34,a54,g61]
     exact hJ _ ⟨h34,(by first | rfl | (simp only [g61]; rfl) | simp only [g61,Lk,RB,Nat.reduceEqDiff,not_false_eq_true]),f36,i37⟩
    ·skip
     have a62:=lo f36 T.ag3 (Seg.refl.sub (S_a.seg4 x0))
     simp only [C.f97r5p0,R,Nat.reduceEqDiff,fa72_4,h34,a54,g61,a62]
     exact hJ _ ⟨h34,(by first | rfl | (simp only [g61]; rfl) | simp only [g61,Lk,RB,Nat.reduceEqDiff,not_false_eq_true]),f36,i37⟩
   rintro ⟨σ63,H56,d64⟩ ⟨h57,h58,f59,i60⟩
   refine rn_app_k (fun ⟨σ,H,_⟩=>Lk σ 1 (.pointer (some ⟨b1,0,none⟩)) ∧ Lk σ 46 (.bool (((decide (0 ≤ x0.f_Min)) && (decide (x0.f_Min ≤ 100))) && ((decide (x0.f_Max = ((-1)))) || ((decide (x0.f_Min ≤ x0.f_Max)) && (decide (x0.f_Max ≤ 100)))))) ∧ H[b1]? = some (.cells (S_a.c x0) 72) ∧ Iv c.nb [] H0 H) (fun J hJ=>?_) ?_
   ·skip
    cases g74:(decide (0 ≤ x0.f_Min)) && (decide (x0.f_Min ≤ 100))
    ·skip
     simp only [C.f97r5p1,R,Nat.reduceEqDiff,h58,↓g74]
     exact hJ _ ⟨h57,(by first | rfl | (simp only [↓g74]; rfl) | simp only [↓g74,Lk,RB,Nat.reduceEqDiff,not_false_eq_true]),f59,i60⟩
    ·skip
     have a75:=lo f59 T.ag3 (Seg.refl.sub (S_a.seg5 x0))
     cases g79:decide (x0.f_Max = ((-1)))
     ·skip
      have a80:=lo f59 T.ag3 (Seg.refl.sub (S_a.seg5 x0))
      have a81:=lo f59 T.ag3 (Seg.refl.sub (S_a.seg4 x0))
      cases g83:decide (x0.f_Min ≤ x0.f_Max)
      ·skip
       simp only [C.f97r5p1,R,Nat.reduceEqDiff,h58,↓g74,fa72_5,h57,a75,g79,a80,fa72_4,a81,g83]
       exact hJ _ ⟨h57,(by first | rfl | (simp only [↓g74,g79,g83]; rfl) | simp only [↓g74,g79,g83,Lk,RB,Nat.reduceEqDiff,not_false_eq_true]),f59,i60⟩
      ·skip
       have a84:=lo f59 T.ag3 (Seg.refl.sub (S_a.seg5 x0))
       simp only [C.f97r5p1,R,Nat.reduceEqDiff,h58,↓g74,fa72_5,h57,a75,g79,a80,fa72_4,a81,g83,a84]
       exact hJ _ ⟨h57,(by first | rfl | (simp only [↓g74,g79,g83]; rfl) | simp only [↓g74,g79,g83,Lk,RB,Nat.reduceEqDiff,not_false_eq_true]),f59,i60⟩
     ·skip
      simp only [C.f97r5p1,R,Nat.reduceEqDiff,h58,↓g74,fa72_5,h57,a75,g79]
      exact hJ _ ⟨h57,(by first | rfl | (simp only [↓g74,g79]; rfl) | simp only [↓g74,g79,Lk,RB,Nat.reduceEqDiff,not_false_eq_true]),f59,i60⟩
   rintro ⟨σ85,H69,d86⟩ ⟨h70,h71,f72,i73⟩
   refine rn_app_k (fun ⟨σ,H,_⟩=>Lk σ 1 (.pointer (some ⟨b1,0,none⟩)) ∧ Lk σ 51 (.bool ((((decide (0 ≤ x0.f_Min)) && (decide (x0.f_Min ≤ 100))) && ((decide (x0.f_Max = ((-1)))) || ((decide (x0.f_Min ≤ x0.f_Max)) && (decide (x0.f_Max ≤ 100))))) && (decide (0 ≤ x0.f_Mode)))) ∧ H[b1]? = some (.cells (S_a.c x0) 72) ∧ Iv c.nb [] H0 H) (fun J hJ=>?_) ?_
   ·skip
    cases g93:((decide (0 ≤ x0.f_Min)) && (decide (x0.f_Min ≤ 100))) && ((decide (x0.f_Max = ((-1)))) || ((decide (x0.f_Min ≤ x0.f_Max)) && (decide (x0.f_Max ≤ 100))))
    ·skip
     simp only [C.f97r5p2,R,Nat.reduceEqDiff,h71,↓g93]
     exact hJ _ ⟨h70,(by first | rfl | (simp only [↓g93]; rfl) | simp only [↓g93,Lk,RB,Nat.reduceEqDiff,not_false_eq_true]),f72,i73⟩
    ·skip
     have a94:=lo f72 T.ag3 (Seg.refl.sub (S_a.seg6 x0))
     simp only [C.f97r5p2,R,Nat.reduceEqDiff,h71,↓g93,fa72_6,h70,a94]
     exact hJ _ ⟨h70,(by first | rfl | (simp only [↓g93]; rfl) | simp only [↓g93,Lk,RB,Nat.reduceEqDiff,not_false_eq_true]),f72,i73⟩
   rintro ⟨σ95,H88,d96⟩ ⟨h89,h90,f91,i92⟩
   refine rn_app_k (fun ⟨σ,H,_⟩=>Lk σ 56 (.bool (((((decide (0 ≤ x0.f_Min)) && (decide (x0.f_Min ≤ 100))) && ((decide (x0.f_Max = ((-1)))) || ((decide (x0.f_Min ≤ x0.f_Max)) && (decide (x0.f_Max ≤ 100))))) && (decide (0 ≤ x0.f_Mode))) && (decide (x0.f_Mode ≤ 2)))) ∧ Iv c.nb [] H0 H) (fun J hJ=>?_) ?_
   ·skip
    cases g101:(((decide (0 ≤ x0.f_Min)) && (decide (x0.f_Min ≤ 100))) && ((decide (x0.f_Max = ((-1)))) || ((decide (x0.f_Min ≤ x0.f_Max)) && (decide (x0.f_Max ≤ 100))))) && (decide (0 ≤ x0.f_Mode))
    ·skip
     simp only [C.f97r5p3,R,Nat.reduceEqDiff,h90,↓g101]
     exact hJ _ ⟨(by first | rfl | (simp only [↓g101]; rfl) | simp only [↓g101,Lk,RB,Nat.reduceEqDiff,not_false_eq_true]),i92⟩
    ·skip
     have a102:=lo f91 T.ag3 (Seg.refl.sub (S_a.seg6 x0))
     simp only [C.f97r5p3,R,Nat.reduceEqDiff,h90,↓g101,fa72_6,h89,a102]
     exact hJ _ ⟨(by first | rfl | (simp only [↓g101]; rfl) | simp only [↓g101,Lk,RB,Nat.reduceEqDiff,not_false_eq_true]),i92⟩
   rintro ⟨σ103,H98,d104⟩ ⟨h99,i100⟩
   simp only [C.f97r5p4,R,Nat.reduceEqDiff,h99]
   refine hJ _ ?_
   refine tR ?_
   obtain rfl:=Option.some.inj hm
   exact ef1 rfl rfl
def b_z (n:Nat) (x0:(Sl Int)):Nat → Int → Int → Option (Int)
 | 0,_,_=>none
 | k + 1,x3_16,x4_17=>bif decide (x4_17 < (Sl.len x0)) then ((ck (Sl.l x0).length x4_17).bind fun j35=>b_z n x0 k (max x3_16 (Sl.nth x0 j35)) (IntKind.i64.wrap (x4_17 + 1))) else (some x3_16)
def b_3 (n:Nat) (x0:(Sl Int)):Option (Int):=(ck (Sl.l x0).length 0).bind fun j7=>b_z n x0 n (Sl.nth x0 j7) 1
def b_9 (n:Nat) (x0:(Sl Int)):Option (Int):=bif decide ((Sl.len x0) < 1) then (none) else (b_3 n x0)
theorem w_dW {call:CallF} (hok:CallOk Mt call) {n:Nat} {H0:Hp} {x0:(Sl Int)} {b0:Nat} {r:Int} {ro:Nat} (hro:ro ≤ H0.length) (h0:SlH H0 (cInt .i64) 3 x0 b0) (hm:b_9 n x0 = some r) :
  Pt Mt ro 98 [(slV x0 b0)] H0 (.int .i64 (r)) H0 []:=by
 refine pt_new0 okM F98d (by exact Nat.le_of_ble_eq_true rfl) ?_ hro
 intro c hnt hnb hcr
 have hcn:c.ro ≤ c.nb:=by omega
 have l0:x0 ≠ none → b0 < c.nb:=fun h=>by rw [hnb]; exact h0.lt h
 have iv:Iv c.nb [] H0 H0:=by rw [hnb]; exact iv_refl
 rw [aI1]
 rw [b_9] at hm
 simp only [C.f98,C.f98b0]
 refine tS hok fun J hJ=>?_
 simp only [C.f98r0,R,Nat.reduceEqDiff]
 refine hJ _ ?_
 refine tk_seq_j (fun ⟨σ,H,_⟩=>b_3 n x0 = some r ∧ Lk σ 0 (slV x0 b0) ∧ Iv c.nb [] H0 H) ?_ ?_
 ·skip
  rintro ⟨σ5,H2,d6⟩ ⟨hm,h3,i4⟩
  rw [b_3] at hm
  refine tS hok fun J hJ=>?_
  obtain ⟨j7,ej7,hm⟩:=bind_s hm
  obtain ⟨mm8,k9⟩:=(h0.iv l0 (fun _=>by simp) i4).blk (ck_lt ej7).1
  have a10:=lso k9 T.ag3 (seg_sl enc_int.len mm8 (ck_lt ej7).1)
  simp only [C.f98r3,R,Nat.reduceEqDiff,h3,ia100,ej7,a10]
  refine hJ _ ?_
  refine tk_seq_k fun K n11 x12=>?_
  refine tS hok fun J hJ=>?_
  simp only [C.f98r4,R,Nat.reduceEqDiff]
  refine hJ _ ?_
  refine tk_block_k fun K n13 e14 x15=>?_
  refine tk_loop_k (n:=n) (fun k2 ⟨σ,H,_⟩=>∃ x3_16 x4_17,b_z n x0 k2 x3_16 x4_17 = some r ∧ Lk σ 0 (slV x0 b0) ∧ Lk σ 3 (.int .i64 x3_16) ∧ Lk σ 4 (.int .i64 x4_17) ∧ Iv c.nb [] H0 H) ?_ ?_ ?_
  ·exact ⟨Sl.nth x0 j7,1,hm,h3,rfl,rfl,i4⟩
  ·rintro ⟨σ,H,d⟩ ⟨_,_,hm,_⟩
   cases hm
  ·intro k2 K n18 x19
   rintro ⟨σ25,H20,d26⟩ ⟨x3_16,x4_17,hm,h21,h22,h23,i24⟩
   rw [b_z.eq_2] at hm
   refine tk_seq_k fun K n27 x28=>?_
   refine tS hok fun J hJ=>?_
   simp only [C.f98r5,R,Nat.reduceEqDiff,h23,h21,ln100]
   refine hJ _ ?_
   refine tC rfl hm (fun g29 hm=>?_) (fun g29 hm=>?_)
   ·skip
    refine tK ?_
    refine n27 _ ?_
    refine tk_seq_k fun K n30 x31=>?_
    refine tk_block_k fun K n32 e33 x34=>?_
    refine tE hok fun J hJ=>?_
    obtain ⟨j35,ej35,hm⟩:=bind_s hm
    obtain ⟨mm36,k37⟩:=(h0.iv l0 (fun _=>by simp) i24).blk (ck_lt ej35).1
    have a38:=lso k37 T.ag3 (seg_sl enc_int.len mm36 (ck_lt ej35).1)
    simp only [C.f98r7,R,Nat.reduceEqDiff,h22,h21,h23,ia100,ej35,a38]
    refine hJ _ ?_
    refine n32 _ ?_
    refine n30 _ ?_
    refine tE hok fun J hJ=>?_
    simp only [C.f98r6,R,Nat.reduceEqDiff,h23]
    refine hJ _ ?_
    refine n18 _ ?_
    exact ⟨max x3_16 (Sl.nth x0 j35),IntKind.i64.wrap (x4_17 + 1),hm,h21,rfl,rfl,i24⟩
   ·skip
    refine tX ?_
    refine x28 _ _ (by simp) ?_
    refine x19 _ _ (by simp) ?_
    refine e14 _ ?_
    refine n11 _ ?_
    refine tS hok fun J hJ=>?_
    simp only [C.f98r8,R,Nat.reduceEqDiff,h22]
    refine hJ _ ?_
    refine tR ?_
    obtain rfl:=Option.some.inj hm
    exact ef1 rfl rfl
 ·refine fun K n39 x40=>?_
  refine tS hok fun J hJ=>?_
  simp only [C.f98r1,R,Nat.reduceEqDiff,ln100]
  refine hJ _ ?_
  refine tC rfl hm (fun g41 hm=>?_) (fun g41 hm=>?_)
  ·skip
   cases hm
  ·skip
   refine tK ?_
   refine n39 _ ?_
   exact ⟨hm,rfl,iv⟩
end Go.Proofs.YtaadjlpfdajggaaGreatDoor
