import Derived.Test.YtaadjlpfdajggaaGreatDoorBtBase
set_option maxRecDepth 100000
set_option linter.unusedVariables false
set_option linter.unusedSimpArgs false
namespace Go.Proofs.YtaadjlpfdajggaaGreatDoor
open Go Go.AM
attribute [local congr] bind_first map_first
def b_bV (c_J:T_ch) (c_n:T_Q) (n:Nat) (x0:(Sl S_b)) (x9_53:Int) (x10_54:Int):Option (Int):=some (min (IntKind.i64.wrap (4 + (IntKind.i64.wrap ((IntKind.i64.wrap (x10_54 + 1)) * (IntKind.i64.wrap (1 + x9_53)))))) 1099511627776)
def b_cj (c_J:T_ch) (c_n:T_Q) (n:Nat) (x0:(Sl S_b)) (x1:Int) (x2:Int):Option (Int):=(ck (Sl.l x0).length x1).bind fun j2=>(c_n ((Sl.nth x0 j2).f_Kind)).bind fun v23=>bif decide (v23 = 0) then (some 1) else ((c_J x0 ((Sl.nth x0 j2).f_A) x2).bind fun v29=>bif decide (((Sl.nth x0 j2).f_Kind) = 8) then ((c_J x0 ((Sl.nth x0 j2).f_B) x2).bind fun v36=>some (min (IntKind.i64.wrap ((IntKind.i64.wrap (1 + v29)) + v36)) 1099511627776)) else (bif decide (((Sl.nth x0 j2).f_Kind) = 9) then ((c_J x0 ((Sl.nth x0 j2).f_B) x2).bind fun v43=>some (min (IntKind.i64.wrap (1 + (max v29 v43))) 1099511627776)) else (bif decide (((Sl.nth x0 j2).f_Kind) = 11) then (some (min (IntKind.i64.wrap (2 + v29)) 1099511627776)) else (bif !decide (((Sl.nth x0 j2).f_Kind) = 10) then (some (min (IntKind.i64.wrap (3 + v29)) 1099511627776)) else (bif (decide (0 ≤ ((Sl.nth x0 j2).f_Max))) && (decide (((Sl.nth x0 j2).f_Max) < (IntKind.i64.wrap (((Sl.nth x0 j2).f_Min) + x2)))) then (b_bV c_J c_n n x0 v29 ((Sl.nth x0 j2).f_Max)) else (b_bV c_J c_n n x0 v29 (IntKind.i64.wrap (((Sl.nth x0 j2).f_Min) + x2))))))))
theorem w_hF {call:CallF} (hok:CallOk Mt call) {n:Nat} {c_J:T_ch} (z_cC:A_ep call c_J) {c_n:T_Q} (z_bH:A_cX call c_n) {H0:Hp} {x0:(Sl S_b)} {b0:Nat} {x1:Int} {x2:Int} {r:Int} {ro:Nat} (hro:ro ≤ H0.length) (h0:SlH H0 S_b.c 97 x0 b0) (hm:b_cj c_J c_n n x0 x1 x2 = some r) :
  Pt Mt ro 54 [(slV x0 b0),(.int .i64 x1),(.int .i64 x2)] H0 (.int .i64 (r)) H0 []:=by
 refine pt_new0 okM F54d (by exact Nat.le_of_ble_eq_true rfl) ?_ hro
 intro c hnt hnb hcr
 have hcn:c.ro ≤ c.nb:=by omega
 have l0:x0 ≠ none → b0 < c.nb:=fun h=>by rw [hnb]; exact h0.lt h
 have iv:Iv c.nb [] H0 H0:=by rw [hnb]; exact iv_refl
 rw [show args0 [(slV x0 b0),(.int .i64 x1),(.int .i64 x2)] = [(0,(slV x0 b0)),(1,(.int .i64 x1)),(2,(.int .i64 x2))] from rfl]
 rw [b_cj] at hm
 simp only [C.f54]
 refine tk_os okM hok fun J hJ=>?_
 simp only [C.f54r0,R,Nat.reduceEqDiff]
 refine hJ _ ?_
 refine tk_os okM hok fun J hJ=>?_
 obtain ⟨j2,ej2,hm⟩:=bind_s hm
 obtain ⟨mm3,k4⟩:=(h0.iv l0 (fun _=>by simp) iv).blk (ck_lt ej2).1
 have a5:=lds_agg (M:=Mt) (t:=97) k4 T.ag97 (by rw [S_b.enc.len]; exact T.sz97) (seg_sl S_b.enc.len mm3 (ck_lt ej2).1)
 obtain ⟨b6,H7,a8,f9,q10,r11,x12,i13⟩:=al_ok H0 97 (S_b.c S_b.zero) iv.le
 have i14:=i13 _ _ iv
 obtain ⟨H16,a17,f18,u19⟩:=st_ok (M:=Mt) (t:=97) (v:=(vAgg (S_b.c (Sl.nth x0 j2)))) (c:=S_b.c (Sl.nth x0 j2)) (cs':=S_b.c (Sl.nth x0 j2)) f9 (by rw [S_b.enc.len]; exact T.sz97) vAgg_cells (S_b.enc.one _) (Nat.le_trans hcn r11) (le0 S_b.enc.len) (wrs_all (eqL S_b.enc.len))
 have i20:=i14.up u19 r11
 simp only [C.f54r1,R,Nat.reduceEqDiff,ia39,ej2,a5,zs97,a8,a17]
 refine hJ _ ?_
 refine tk_os okM hok fun J hJ=>?_
 have a21:=ld_one (M:=Mt) (t:=3) f18 T.ag3 (Seg.refl.sub (S_b.seg0 (Sl.nth x0 j2)))
 obtain ⟨v23,ev23,hm⟩:=bind_s hm
 have a22:=z_bH c.ro H16 ((Sl.nth x0 j2).f_Kind) v23 ev23
 simp only [C.f54r2,R,Nat.reduceEqDiff,fa97_0,a21,c_fn F83,a22]
 refine hJ _ ?_
 refine tk_seq_k fun K n24 x25=>?_
 refine tk_os okM hok fun J hJ=>?_
 simp only [C.f54r3,R,Nat.reduceEqDiff]
 refine hJ _ ?_
 refine tk_cond (t:=decide (v23 = 0)) rfl (fun g26=>?_) (fun g26=>?_)
 ·replace hm:=cond_t hm g26
  refine tk_os okM hok fun J hJ=>?_
  simp only [C.f54r4,R,Nat.reduceEqDiff]
  refine hJ _ ?_
  refine tk_ret okM ?_
  refine x25 _ _ (by simp) ?_
  obtain rfl:=Option.some.inj hm
  exact end_flat (.inl rfl) (vs:=[(.int .i64 (1))]) (resT' (v:=(.int .i64 (1))) rfl resN) (fm_cons rfl fm_nil)
 ·replace hm:=cond_f hm g26
  refine tk_skip okM ?_
  refine n24 _ ?_
  refine tk_os okM hok fun J hJ=>?_
  have a27:=ld_one (M:=Mt) (t:=3) f18 T.ag3 (Seg.refl.sub (S_b.seg1 (Sl.nth x0 j2)))
  obtain ⟨v29,ev29,hm⟩:=bind_s hm
  have a28:=z_cC c.ro H16 x0 b0 ((Sl.nth x0 j2).f_A) x2 v29 (h0.iv l0 (fun _=>by simp) i20) ev29
  simp only [C.f54r5,R,Nat.reduceEqDiff,fa97_1,a27,c_fn F54,a28]
  refine hJ _ ?_
  refine tk_seq_k fun K n30 x31=>?_
  refine tk_os okM hok fun J hJ=>?_
  have a32:=ld_one (M:=Mt) (t:=3) f18 T.ag3 (Seg.refl.sub (S_b.seg0 (Sl.nth x0 j2)))
  simp only [C.f54r6,R,Nat.reduceEqDiff,fa97_0,a32]
  refine hJ _ ?_
  refine tk_cond (t:=decide (((Sl.nth x0 j2).f_Kind) = 8)) rfl (fun g33=>?_) (fun g33=>?_)
  ·replace hm:=cond_t hm g33
   refine tk_os okM hok fun J hJ=>?_
   have a34:=ld_one (M:=Mt) (t:=3) f18 T.ag3 (Seg.refl.sub (S_b.seg2 (Sl.nth x0 j2)))
   obtain ⟨v36,ev36,hm⟩:=bind_s hm
   have a35:=z_cC c.ro H16 x0 b0 ((Sl.nth x0 j2).f_B) x2 v36 (h0.iv l0 (fun _=>by simp) i20) ev36
   simp only [C.f54r7,R,Nat.reduceEqDiff,fa97_2,a34,c_fn F54,a35]
   refine hJ _ ?_
   refine tk_ret okM ?_
   refine x31 _ _ (by simp) ?_
   obtain rfl:=Option.some.inj hm
   exact end_flat (.inl rfl) (vs:=[(.int .i64 (min (IntKind.i64.wrap ((IntKind.i64.wrap (1 + v29)) + v36)) 1099511627776))]) (resT' (v:=(.int .i64 (min (IntKind.i64.wrap ((IntKind.i64.wrap (1 + v29)) + v36)) 1099511627776))) rfl resN) (fm_cons rfl fm_nil)
  ·replace hm:=cond_f hm g33
   refine tk_skip okM ?_
   refine n30 _ ?_
   refine tk_seq_k fun K n37 x38=>?_
   refine tk_os okM hok fun J hJ=>?_
   have a39:=ld_one (M:=Mt) (t:=3) f18 T.ag3 (Seg.refl.sub (S_b.seg0 (Sl.nth x0 j2)))
   simp only [C.f54r8,R,Nat.reduceEqDiff,fa97_0,a39]
   refine hJ _ ?_
   refine tk_cond (t:=decide (((Sl.nth x0 j2).f_Kind) = 9)) rfl (fun g40=>?_) (fun g40=>?_)
   ·replace hm:=cond_t hm g40
    refine tk_os okM hok fun J hJ=>?_
    have a41:=ld_one (M:=Mt) (t:=3) f18 T.ag3 (Seg.refl.sub (S_b.seg2 (Sl.nth x0 j2)))
    obtain ⟨v43,ev43,hm⟩:=bind_s hm
    have a42:=z_cC c.ro H16 x0 b0 ((Sl.nth x0 j2).f_B) x2 v43 (h0.iv l0 (fun _=>by simp) i20) ev43
    simp only [C.f54r9,R,Nat.reduceEqDiff,fa97_2,a41,c_fn F54,a42]
    refine hJ _ ?_
    refine tk_ret okM ?_
    refine x38 _ _ (by simp) ?_
    obtain rfl:=Option.some.inj hm
    exact end_flat (.inl rfl) (vs:=[(.int .i64 (min (IntKind.i64.wrap (1 + (max v29 v43))) 1099511627776))]) (resT' (v:=(.int .i64 (min (IntKind.i64.wrap (1 + (max v29 v43))) 1099511627776))) rfl resN) (fm_cons rfl fm_nil)
   ·replace hm:=cond_f hm g40
    refine tk_skip okM ?_
    refine n37 _ ?_
    refine tk_seq_k fun K n44 x45=>?_
    refine tk_os okM hok fun J hJ=>?_
    have a46:=ld_one (M:=Mt) (t:=3) f18 T.ag3 (Seg.refl.sub (S_b.seg0 (Sl.nth x0 j2)))
    simp only [C.f54r10,R,Nat.reduceEqDiff,fa97_0,a46]
    refine hJ _ ?_
    refine tk_cond (t:=decide (((Sl.nth x0 j2).f_Kind) = 11)) rfl (fun g47=>?_) (fun g47=>?_)
    ·replace hm:=cond_t hm g47
     refine tk_os okM hok fun J hJ=>?_
     simp only [C.f54r11,R,Nat.reduceEqDiff]
     refine hJ _ ?_
     refine tk_ret okM ?_
     refine x45 _ _ (by simp) ?_
     obtain rfl:=Option.some.inj hm
     exact end_flat (.inl rfl) (vs:=[(.int .i64 (min (IntKind.i64.wrap (2 + v29)) 1099511627776))]) (resT' (v:=(.int .i64 (min (IntKind.i64.wrap (2 + v29)) 1099511627776))) rfl resN) (fm_cons rfl fm_nil)
    ·replace hm:=cond_f hm g47
     refine tk_skip okM ?_
     refine n44 _ ?_
     refine tk_seq_k fun K n48 x49=>?_
     refine tk_os okM hok fun J hJ=>?_
     have a50:=ld_one (M:=Mt) (t:=3) f18 T.ag3 (Seg.refl.sub (S_b.seg0 (Sl.nth x0 j2)))
     simp only [C.f54r12,R,Nat.reduceEqDiff,fa97_0,a50]
     refine hJ _ ?_
     refine tk_cond (t:=!decide (((Sl.nth x0 j2).f_Kind) = 10)) rfl (fun g51=>?_) (fun g51=>?_)
     ·replace hm:=cond_t hm g51
      refine tk_os okM hok fun J hJ=>?_
      simp only [C.f54r13,R,Nat.reduceEqDiff]
      refine hJ _ ?_
      refine tk_ret okM ?_
      refine x49 _ _ (by simp) ?_
      obtain rfl:=Option.some.inj hm
      exact end_flat (.inl rfl) (vs:=[(.int .i64 (min (IntKind.i64.wrap (3 + v29)) 1099511627776))]) (resT' (v:=(.int .i64 (min (IntKind.i64.wrap (3 + v29)) 1099511627776))) rfl resN) (fm_cons rfl fm_nil)
     ·replace hm:=cond_f hm g51
      refine tk_skip okM ?_
      refine n48 _ ?_
      refine tk_os okM hok fun J hJ=>?_
      have a52:=ld_one (M:=Mt) (t:=3) f18 T.ag3 (Seg.refl.sub (S_b.seg4 (Sl.nth x0 j2)))
      simp only [C.f54r14,R,Nat.reduceEqDiff,fa97_4,a52]
      refine hJ _ ?_
      refine tk_seq_j (fun ⟨σ,H,_⟩=>∃ x9_53 x10_54,b_bV c_J c_n n x0 x9_53 x10_54 = some r ∧ Lk σ 9 (.int .i64 x9_53) ∧ Lk σ 10 (.int .i64 x10_54) ∧ Iv c.nb [] H0 H) ?_ ?_
      ·skip
       rintro ⟨σ59,H55,d60⟩ ⟨x9_53,x10_54,hm,h56,h57,i58⟩
       rw [b_bV] at hm
       refine tk_os okM hok fun J hJ=>?_
       simp only [C.f54r17,R,Nat.reduceEqDiff,h57,h56]
       refine hJ _ ?_
       refine tk_ret okM ?_
       obtain rfl:=Option.some.inj hm
       exact end_flat (.inl rfl) (vs:=[(.int .i64 (min (IntKind.i64.wrap (4 + (IntKind.i64.wrap ((IntKind.i64.wrap (x10_54 + 1)) * (IntKind.i64.wrap (1 + x9_53)))))) 1099511627776))]) (resT' (v:=(.int .i64 (min (IntKind.i64.wrap (4 + (IntKind.i64.wrap ((IntKind.i64.wrap (x10_54 + 1)) * (IntKind.i64.wrap (1 + x9_53)))))) 1099511627776))) rfl resN) (fm_cons rfl fm_nil)
      ·refine fun K n61 x62=>?_
       refine tk_os okM hok fun J hJ=>?_
       have a63:=ld_one (M:=Mt) (t:=3) f18 T.ag3 (Seg.refl.sub (S_b.seg5 (Sl.nth x0 j2)))
       refine rn_k (fun ⟨σ,H,_⟩=>Lk σ 7 (.pointer (some ⟨b6,0,none⟩)) ∧ Lk σ 9 (.int .i64 (v29)) ∧ Lk σ 10 (.int .i64 (IntKind.i64.wrap (((Sl.nth x0 j2).f_Min) + x2))) ∧ Lk σ 73 (.bool ((decide (0 ≤ ((Sl.nth x0 j2).f_Max))) && (decide (((Sl.nth x0 j2).f_Max) < (IntKind.i64.wrap (((Sl.nth x0 j2).f_Min) + x2)))))) ∧ H[b6]? = some (.cells (S_b.c (Sl.nth x0 j2)) 97) ∧ Iv c.nb [] H0 H) (fun J hJ=>?_) ?_
       ·skip
        cases g72:decide (0 ≤ ((Sl.nth x0 j2).f_Max))
        ·skip
         simp only [C.f54r15,R,Nat.reduceEqDiff,fa97_5,a63,g72]
         refine hJ _ ?_
         exact ⟨rfl,(by first | rfl | (simp only [g72]; rfl) | simp only [g72,Lk,RB,Nat.reduceEqDiff,not_false_eq_true]),(by first | rfl | (simp only [g72]; rfl) | simp only [g72,Lk,RB,Nat.reduceEqDiff,not_false_eq_true]),(by first | rfl | (simp only [g72]; rfl) | simp only [g72,Lk,RB,Nat.reduceEqDiff,not_false_eq_true]),f18,i20⟩
        ·skip
         have a73:=ld_one (M:=Mt) (t:=3) f18 T.ag3 (Seg.refl.sub (S_b.seg5 (Sl.nth x0 j2)))
         simp only [C.f54r15,R,Nat.reduceEqDiff,fa97_5,a63,g72,a73]
         refine hJ _ ?_
         exact ⟨rfl,(by first | rfl | (simp only [g72]; rfl) | simp only [g72,Lk,RB,Nat.reduceEqDiff,not_false_eq_true]),(by first | rfl | (simp only [g72]; rfl) | simp only [g72,Lk,RB,Nat.reduceEqDiff,not_false_eq_true]),(by first | rfl | (simp only [g72]; rfl) | simp only [g72,Lk,RB,Nat.reduceEqDiff,not_false_eq_true]),f18,i20⟩
       rintro ⟨σ74,H65,d75⟩ ⟨h66,h67,h68,h69,f70,i71⟩
       refine hJ _ ?_
       refine tk_cond (t:=(decide (0 ≤ ((Sl.nth x0 j2).f_Max))) && (decide (((Sl.nth x0 j2).f_Max) < (IntKind.i64.wrap (((Sl.nth x0 j2).f_Min) + x2))))) h69 (fun g76=>?_) (fun g76=>?_)
       ·replace hm:=cond_t hm g76
        refine tk_oe okM hok fun J hJ=>?_
        have a77:=ld_one (M:=Mt) (t:=3) f70 T.ag3 (Seg.refl.sub (S_b.seg5 (Sl.nth x0 j2)))
        simp only [C.f54r16,R,Nat.reduceEqDiff,fa97_5,h66,a77]
        refine hJ _ ?_
        refine n61 _ ?_
        exact ⟨v29,(Sl.nth x0 j2).f_Max,hm,h67,rfl,i71⟩
       ·replace hm:=cond_f hm g76
        refine tk_skip okM ?_
        refine n61 _ ?_
        exact ⟨v29,IntKind.i64.wrap (((Sl.nth x0 j2).f_Min) + x2),hm,h67,h68,i71⟩
def b_cq (c_bK:T_eh) (n:Nat) (x0_1:Nat):Option (Bool):=some (fcmp .gtr x0_1 ((9218868437227405311:Nat)))
def b_eF (c_bK:T_eh) (n:Nat) (x0:Nat) (x1:Int):Option (Bool):=bif decide (x1 = 0) then ((c_bK x0).bind fun v11=>b_cq c_bK n v11) else (bif decide (x1 < 0) then (b_cq c_bK n (fneg x0)) else (b_cq c_bK n x0))
theorem w_hK {call:CallF} (hok:CallOk Mt call) {n:Nat} {c_bK:T_eh} (z_h7:A_gQ call c_bK) {H0:Hp} {x0:Nat} {x1:Int} {r:Bool} {ro:Nat} (hro:ro ≤ H0.length) (hm:b_eF c_bK n x0 x1 = some r) :
  Pt Mt ro 55 [(.float .f64 x0),(.int .i64 x1)] H0 (.bool (r)) H0 []:=by
 refine pt_new0 okM F55d (by exact Nat.le_of_ble_eq_true rfl) ?_ hro
 intro c hnt hnb hcr
 have hcn:c.ro ≤ c.nb:=by omega
 have iv:Iv c.nb [] H0 H0:=by rw [hnb]; exact iv_refl
 rw [show args0 [(.float .f64 x0),(.int .i64 x1)] = [(0,(.float .f64 x0)),(1,(.int .i64 x1))] from rfl]
 rw [b_eF] at hm
 simp only [C.f55]
 refine tk_os okM hok fun J hJ=>?_
 simp only [C.f55r0,R,Nat.reduceEqDiff]
 refine hJ _ ?_
 refine tk_seq_j (fun ⟨σ,H,_⟩=>∃ x0_1,b_cq c_bK n x0_1 = some r ∧ Lk σ 0 (.float .f64 x0_1) ∧ Iv c.nb [] H0 H) ?_ ?_
 ·skip
  rintro ⟨σ5,H2,d6⟩ ⟨x0_1,hm,h3,i4⟩
  rw [b_cq] at hm
  refine tk_os okM hok fun J hJ=>?_
  simp only [C.f55r5,R,Nat.reduceEqDiff,h3,bin_fgtr]
  refine hJ _ ?_
  refine tk_ret okM ?_
  obtain rfl:=Option.some.inj hm
  exact end_flat (.inl rfl) (vs:=[(.bool (fcmp .gtr x0_1 ((9218868437227405311:Nat))))]) (resT' (v:=(.bool (fcmp .gtr x0_1 ((9218868437227405311:Nat))))) rfl resN) (fm_cons rfl fm_nil)
 ·refine fun K n7 x8=>?_
  refine tk_os okM hok fun J hJ=>?_
  simp only [C.f55r1,R,Nat.reduceEqDiff]
  refine hJ _ ?_
  refine tk_cond (t:=decide (x1 = 0)) rfl (fun g9=>?_) (fun g9=>?_)
  ·replace hm:=cond_t hm g9
   refine tk_oe okM hok fun J hJ=>?_
   obtain ⟨v11,ev11,hm⟩:=bind_s hm
   have a10:=z_h7 c.ro H0 x0 v11 ev11
   simp only [C.f55r2,R,Nat.reduceEqDiff,c_fn F84,a10]
   refine hJ _ ?_
   refine n7 _ ?_
   exact ⟨v11,hm,rfl,iv⟩
  ·replace hm:=cond_f hm g9
   refine tk_os okM hok fun J hJ=>?_
   simp only [C.f55r3,R,Nat.reduceEqDiff]
   refine hJ _ ?_
   refine tk_cond (t:=decide (x1 < 0)) rfl (fun g12=>?_) (fun g12=>?_)
   ·replace hm:=cond_t hm g12
    refine tk_oe okM hok fun J hJ=>?_
    simp only [C.f55r4,R,Nat.reduceEqDiff,un_fneg]
    refine hJ _ ?_
    refine n7 _ ?_
    exact ⟨fneg x0,hm,rfl,iv⟩
   ·replace hm:=cond_f hm g12
    refine tk_skip okM ?_
    refine n7 _ ?_
    exact ⟨x0,hm,rfl,iv⟩
def b_dr (n:Nat) (x3_1:Int):Option (Nat):=some (fBits x3_1)
def b_ft (n:Nat) (x0:Int):Option (Nat):=bif decide (0 ≤ x0) then (b_dr n 9218868437227405312) else (b_dr n 18442240474082181120)
theorem w_ig {call:CallF} (hok:CallOk Mt call) {n:Nat} {H0:Hp} {x0:Int} {r:Nat} {ro:Nat} (hro:ro ≤ H0.length) (hm:b_ft n x0 = some r) :
  Pt Mt ro 56 [(.int .i64 x0)] H0 (.float .f64 (r)) H0 []:=by
 refine pt_new0 okM F56d (by exact Nat.le_of_ble_eq_true rfl) ?_ hro
 intro c hnt hnb hcr
 have hcn:c.ro ≤ c.nb:=by omega
 have iv:Iv c.nb [] H0 H0:=by rw [hnb]; exact iv_refl
 rw [show args0 [(.int .i64 x0)] = [(0,(.int .i64 x0))] from rfl]
 rw [b_ft] at hm
 simp only [C.f56]
 refine tk_os okM hok fun J hJ=>?_
 simp only [C.f56r0,R,Nat.reduceEqDiff]
 refine hJ _ ?_
 refine tk_os okM hok fun J hJ=>?_
 simp only [C.f56r1,R,Nat.reduceEqDiff]
 refine hJ _ ?_
 refine tk_seq_j (fun ⟨σ,H,_⟩=>∃ x3_1,b_dr n x3_1 = some r ∧ Lk σ 3 (.int .u64 x3_1) ∧ Iv c.nb [] H0 H) ?_ ?_
 ·skip
  rintro ⟨σ5,H2,d6⟩ ⟨x3_1,hm,h3,i4⟩
  rw [b_dr] at hm
  refine tk_os okM hok fun J hJ=>?_
  simp only [C.f56r5,R,Nat.reduceEqDiff,h3,c_x (show Mt.F 85 = none from rfl),x85]
  refine hJ _ ?_
  refine tk_ret okM ?_
  obtain rfl:=Option.some.inj hm
  exact end_flat (.inl rfl) (vs:=[(.float .f64 (fBits x3_1))]) (resT' (v:=(.float .f64 (fBits x3_1))) rfl resN) (fm_cons rfl fm_nil)
 ·refine fun K n7 x8=>?_
  refine tk_os okM hok fun J hJ=>?_
  simp only [C.f56r2,R,Nat.reduceEqDiff]
  refine hJ _ ?_
  refine tk_cond (t:=decide (0 ≤ x0)) rfl (fun g9=>?_) (fun g9=>?_)
  ·replace hm:=cond_t hm g9
   refine tk_oe okM hok fun J hJ=>?_
   simp only [C.f56r3,R,Nat.reduceEqDiff]
   refine hJ _ ?_
   refine n7 _ ?_
   exact ⟨9218868437227405312,hm,rfl,iv⟩
  ·replace hm:=cond_f hm g9
   refine tk_oe okM hok fun J hJ=>?_
   simp only [C.f56r4,R,Nat.reduceEqDiff]
   refine hJ _ ?_
   refine n7 _ ?_
   exact ⟨18442240474082181120,hm,rfl,iv⟩
def b_bJ (c_s:T_bO) (c_y:T_ce) (n:Nat) (q1:Sl Int → Int → Int → Option ((Sl Int) × Bool)) (x0:(Sl S_a)) (l81:Sl Int) (x5_83:Int) (x84:S_a) (x7_85:Int) (x8_86:Int) (x9_87:Int) (x17_88:Int) (x18_89:Int):Option ((Sl Int) × Bool):=(c_y x84).bind fun v114=>bif ((!v114) || (!decide (x84.f_A = x7_85))) || (!decide (x84.f_B = x8_86)) then (some (none,false)) else ((ck (Sl.l l81).length x5_83).bind fun j153=>q1 (Sl.put l81 j153 x9_87) x17_88 (IntKind.i64.wrap (x18_89 + 1)))
def b_5 (c_s:T_bO) (c_y:T_ce) (n:Nat) (x0:(Sl S_a)):Nat → Sl Int → Int → Int → Option ((Sl Int) × Bool)
 | 0,_,_,_=>none
 | k + 1,l31,x17_33,x18_34=>bif decide (x18_34 < x17_33) then ((ck (Sl.l x0).length x18_34).bind fun j58=>(c_s ((Sl.nth x0 j58).f_Kind)).bind fun v165=>bif decide (v165 = 1) then (bif decide ((IntKind.i64.wrap (x18_34 - 1)) < 0) then (some (none,false)) else ((ck (Sl.l l31).length (IntKind.i64.wrap (x18_34 - 1))).bind fun j173=>b_bJ c_s c_y n (b_5 c_s c_y n x0 k) x0 l31 x18_34 (Sl.nth x0 j58) (IntKind.i64.wrap (x18_34 - 1)) 0 (IntKind.i64.wrap (1 + (Sl.nth l31 j173))) x17_33 x18_34)) else (bif decide (v165 = 2) then (bif decide ((IntKind.i64.wrap (x18_34 - 1)) < 0) then (some (none,false)) else ((ck (Sl.l l31).length (IntKind.i64.wrap (x18_34 - 1))).bind fun j181=>bif decide ((IntKind.i64.wrap ((IntKind.i64.wrap (x18_34 - 1)) - (Sl.nth l31 j181))) < 0) then (some (none,false)) else ((ck (Sl.l l31).length (IntKind.i64.wrap ((IntKind.i64.wrap (x18_34 - 1)) - (Sl.nth l31 j181)))).bind fun j188=>b_bJ c_s c_y n (b_5 c_s c_y n x0 k) x0 l31 x18_34 (Sl.nth x0 j58) (IntKind.i64.wrap ((IntKind.i64.wrap (x18_34 - 1)) - (Sl.nth l31 j181))) (IntKind.i64.wrap (x18_34 - 1)) (IntKind.i64.wrap (1 + (IntKind.i64.wrap ((Sl.nth l31 j188) + (Sl.nth l31 j181))))) x17_33 x18_34))) else (b_bJ c_s c_y n (b_5 c_s c_y n x0 k) x0 l31 x18_34 (Sl.nth x0 j58) 0 0 1 x17_33 x18_34))) else ((bif decide (0 ≤ (IntKind.i64.wrap ((Sl.len x0) - 1))) then ((ck (Sl.l l31).length (IntKind.i64.wrap ((Sl.len x0) - 1))).bind fun j196=>some (decide ((Sl.nth l31 j196) = (Sl.len x0)))) else some false).bind fun y201=>some (l31,y201))
def b_dY (c_s:T_bO) (c_y:T_ce) (n:Nat) (x0:(Sl S_a)):Option ((Sl Int) × Bool):=(Sl.make 8 (Sl.len x0) (Sl.len x0) (0:Int)).bind fun l13=>b_5 c_s c_y n x0 n l13 (Sl.len x0) 0
theorem w_h9 {call:CallF} (hok:CallOk Mt call) {n:Nat} {c_s:T_bO} (z_fa:A_fo call c_s) {c_y:T_ce} (z_gm:A_eU call c_y) {H0:Hp} {x0:(Sl S_a)} {b0:Nat} {r:(Sl Int) × Bool} {ro:Nat} (hro:ro ≤ H0.length) (h0:SlH H0 S_a.c 72 x0 b0) (hm:b_dY c_s c_y n x0 = some r) :
  Pt Mt ro 62 [(vAgg [slV x0 b0])] H0 (.tuple [(slV r.1 H0.length),(.bool (r.2))].toArray) (H0 ++ slB (cInt .i64) 3 r.1) []:=by
 refine pt_new okM F62d (by exact Nat.le_of_ble_eq_true rfl) ?_ hro
 intro c hnt hnb hcr
 have hcn:c.ro ≤ c.nb:=by omega
 have l0:x0 ≠ none → b0 < c.nb:=fun h=>by rw [hnb]; exact h0.lt h
 have iv:Iv c.nb [] H0 H0:=by rw [hnb]; exact iv_refl
 rw [show args0 [(vAgg [slV x0 b0])] = [(0,(vAgg [slV x0 b0]))] from rfl]
 rw [b_dY] at hm
 simp only [C.f62,C.f62b0]
 refine tk_os okM hok fun J hJ=>?_
 obtain ⟨b2,H3,a4,f5,q6,r7,x8,i9⟩:=bx_ok (M:=Mt) (t:=37) (u:=(vAgg [(slV x0 b0)])) (cs:=[(slV x0 b0)]) H0 iv.le T.sz37 vAgg_cells one_sl
 have i10:=i9 _ _ iv
 simp only [C.f62r0,R,Nat.reduceEqDiff,a4]
 refine hJ _ ?_
 refine tk_os okM hok fun J hJ=>?_
 have a12:=ld_one (M:=Mt) (t:=35) (off:=0 + 0) f5 T.ag35 Seg.refl
 obtain ⟨l13,el13,hm⟩:=bind_s hm
 obtain ⟨b14,H15,a16,f17,q18,r19,x20,i21⟩:=mk_ok (M:=Mt) (t:=100) (e:=3) (k:=.i64) (k':=.i64) H3 i10.le Tryz.underlying100 T.by3 zs3 el13
 have i22:=i21 _ _ i10
 have f23:=x20 _ _ f5
 simp only [C.f62r1,R,Nat.reduceEqDiff,fa37_0,a12,ln35,o_makeSlice,a16]
 refine hJ _ ?_
 refine tk_seq_k fun K n25 x26=>?_
 refine tk_os okM hok fun J hJ=>?_
 have a27:=ld_one (M:=Mt) (t:=35) (off:=0 + 0) f23 T.ag35 Seg.refl
 simp only [C.f62r2,R,Nat.reduceEqDiff,fa37_0,a27,ln35]
 refine hJ _ ?_
 refine tk_block_k fun K n28 e29 x30=>?_
 refine tk_loop_k (n:=n) (fun k1 ⟨σ,H,_⟩=>∃ l31 x17_33 x18_34 b32,b_5 c_s c_y n x0 k1 l31 x17_33 x18_34 = some r ∧ Lk σ 1 (.pointer (some ⟨b2,0,none⟩)) ∧ Lk σ 4 (slV l31 b32) ∧ Lk σ 16 (slV x0 b0) ∧ Lk σ 17 (.int .i64 x17_33) ∧ Lk σ 18 (.int .i64 x18_34) ∧ H[b2]? = some (.cells [(slV x0 b0)] 37) ∧ SlO c.nb H (cInt .i64) 3 l31 b32 ∧ (l31 ≠ none → b32 ≠ b2) ∧ Iv c.nb [] H0 H) ?_ ?_ ?_
 ·exact ⟨l13,Sl.len x0,0,b14,hm,rfl,rfl,rfl,rfl,rfl,f23,f17,(fun _=>(ne_len f5 q18).symm),i22⟩
 ·rintro ⟨σ,H,d⟩ ⟨_,_,_,_,hm,_⟩
  cases hm
 ·intro k1 K n35 x36
  rintro ⟨σ48,H37,d49⟩ ⟨l31,x17_33,x18_34,b32,hm,h39,h40,h41,h42,h43,f44,f45,n46,i47⟩
  rw [b_5.eq_2] at hm
  refine tk_os okM hok fun J hJ=>?_
  simp only [C.f62r3,R,Nat.reduceEqDiff,h43,h42]
  refine hJ _ ?_
  refine tk_seq_k fun K n50 x51=>?_
  refine tk_cond (t:=decide (x18_34 < x17_33)) rfl (fun g52=>?_) (fun g52=>?_)
  ·replace hm:=cond_t hm g52
   refine tk_skip okM ?_
   refine n50 _ ?_
   refine tk_seq_k fun K n53 x54=>?_
   refine tk_block_k fun K n55 e56 x57=>?_
   refine tk_os okM hok fun J hJ=>?_
   obtain ⟨j58,ej58,hm⟩:=bind_s hm
   obtain ⟨mm59,k60⟩:=(h0.iv l0 (fun _=>by simp) i47).blk (ck_lt ej58).1
   have a61:=lds_agg (M:=Mt) (t:=72) k60 T.ag72 (by rw [S_a.enc.len]; exact T.sz72) (seg_sl S_a.enc.len mm59 (ck_lt ej58).1)
   obtain ⟨b62,H63,a64,f65,q66,r67,x68,i69⟩:=al_ok H37 72 (S_a.c S_a.zero) i47.le
   have i70:=i69 _ _ i47
   have f71:=x68 _ _ f44
   have f72:=f45.ex x68
   obtain ⟨H74,a75,f76,u77⟩:=st_ok (M:=Mt) (t:=72) (v:=(vAgg (S_a.c (Sl.nth x0 j58)))) (c:=S_a.c (Sl.nth x0 j58)) (cs':=S_a.c (Sl.nth x0 j58)) f65 (by rw [S_a.enc.len]; exact T.sz72) vAgg_cells (S_a.enc.one _) (Nat.le_trans hcn r67) (le0 S_a.enc.len) (wrs_all (eqL S_a.enc.len))
   have i78:=i70.up u77 r67
   have f79:=(u77.get _ (ne_len f44 q66)).trans f71
   have f80:=f72.up u77 (f45.h.ne q66)
   simp only [C.f62r4,R,Nat.reduceEqDiff,h43,ia35,ej58,h41,a61,zs72,a64,a75]
   refine hJ _ ?_
   refine tk_os okM hok fun J hJ=>?_
   simp only [C.f62r5,R,Nat.reduceEqDiff]
   refine hJ _ ?_
   refine tk_seq_j (fun ⟨σ,H,_⟩=>∃ l81 x5_83 x84 x7_85 x8_86 x9_87 x17_88 x18_89 b82,b_bJ c_s c_y n (b_5 c_s c_y n x0 k1) x0 l81 x5_83 x84 x7_85 x8_86 x9_87 x17_88 x18_89 = some r ∧ Lk σ 1 (.pointer (some ⟨b2,0,none⟩)) ∧ Lk σ 4 (slV l81 b82) ∧ Lk σ 5 (.int .i64 x5_83) ∧ Lk σ 6 (.pointer (some ⟨b62,0,none⟩)) ∧ Lk σ 7 (.int .i64 x7_85) ∧ Lk σ 8 (.int .i64 x8_86) ∧ Lk σ 9 (.int .i64 x9_87) ∧ Lk σ 16 (slV x0 b0) ∧ Lk σ 17 (.int .i64 x17_88) ∧ Lk σ 18 (.int .i64 x18_89) ∧ H[b2]? = some (.cells [(slV x0 b0)] 37) ∧ SlO c.nb H (cInt .i64) 3 l81 b82 ∧ H[b62]? = some (.cells (S_a.c x84) 72) ∧ (l81 ≠ none → b82 ≠ b2) ∧ (l81 ≠ none → b82 ≠ b62) ∧ Iv c.nb [] H0 H) ?_ ?_
   ·skip
    rintro ⟨σ108,H90,d109⟩ ⟨l81,x5_83,x84,x7_85,x8_86,x9_87,x17_88,x18_89,b82,hm,h92,h93,h94,h95,h96,h97,h98,h99,h100,h101,f102,f103,f104,n105,n106,i107⟩
    rw [b_bJ] at hm
    refine tk_seq_k fun K n110 x111=>?_
    refine tk_os okM hok fun J hJ=>?_
    rw [C.f62r20]
    have a112:=ld_agg (M:=Mt) (t:=72) f104 T.ag72 (by rw [S_a.enc.len]; exact T.sz72) Seg.refl
    obtain ⟨v114,ev114,hm⟩:=bind_s hm
    have a113:=z_gm c.ro H90 x84 v114 ev114
    refine rn_app_k (fun ⟨σ,H,_⟩=>Lk σ 1 (.pointer (some ⟨b2,0,none⟩)) ∧ Lk σ 4 (slV l81 b82) ∧ Lk σ 5 (.int .i64 (x5_83)) ∧ Lk σ 6 (.pointer (some ⟨b62,0,none⟩)) ∧ Lk σ 8 (.int .i64 (x8_86)) ∧ Lk σ 9 (.int .i64 (x9_87)) ∧ Lk σ 16 (slV x0 b0) ∧ Lk σ 17 (.int .i64 (x17_88)) ∧ Lk σ 18 (.int .i64 (x18_89)) ∧ Lk σ 71 (.bool ((!v114) || (!decide (x84.f_A = x7_85)))) ∧ H[b2]? = some (.cells [(slV x0 b0)] 37) ∧ SlO c.nb H (cInt .i64) 3 l81 b82 ∧ H[b62]? = some (.cells (S_a.c x84) 72) ∧ Iv c.nb [] H0 H) (fun J hJ=>?_) ?_
    ·skip
     cases g131:!v114
     ·skip
      have a132:=ld_one (M:=Mt) (t:=3) f104 T.ag3 (Seg.refl.sub (S_a.seg1 x84))
      simp only [C.f62r20p0,R,Nat.reduceEqDiff,a112,h95,c_fn F97,a113,g131,fa72_1,a132,h96]
      refine hJ _ ?_
      exact ⟨h92,h93,h94,h95,h97,h98,h99,h100,h101,(by first | rfl | (simp only [g131]; rfl) | simp only [g131,Lk,RB,Nat.reduceEqDiff,not_false_eq_true]),f102,f103,f104,i107⟩
     ·skip
      simp only [C.f62r20p0,R,Nat.reduceEqDiff,a112,h95,c_fn F97,a113,g131]
      refine hJ _ ?_
      exact ⟨h92,h93,h94,h95,h97,h98,h99,h100,h101,(by first | rfl | (simp only [g131]; rfl) | simp only [g131,Lk,RB,Nat.reduceEqDiff,not_false_eq_true]),f102,f103,f104,i107⟩
    rintro ⟨σ133,H116,d134⟩ ⟨h117,h118,h119,h120,h121,h122,h123,h124,h125,h126,f127,f128,f129,i130⟩
    refine rn_k (fun ⟨σ,H,_⟩=>Lk σ 1 (.pointer (some ⟨b2,0,none⟩)) ∧ Lk σ 4 (slV l81 b82) ∧ Lk σ 5 (.int .i64 (x5_83)) ∧ Lk σ 9 (.int .i64 (x9_87)) ∧ Lk σ 16 (slV x0 b0) ∧ Lk σ 17 (.int .i64 (x17_88)) ∧ Lk σ 18 (.int .i64 (x18_89)) ∧ Lk σ 77 (.bool (((!v114) || (!decide (x84.f_A = x7_85))) || (!decide (x84.f_B = x8_86)))) ∧ H[b2]? = some (.cells [(slV x0 b0)] 37) ∧ SlO c.nb H (cInt .i64) 3 l81 b82 ∧ Iv c.nb [] H0 H) (fun J hJ=>?_) ?_
    ·skip
     cases g148:(!v114) || (!decide (x84.f_A = x7_85))
     ·skip
      have a149:=ld_one (M:=Mt) (t:=3) f129 T.ag3 (Seg.refl.sub (S_a.seg2 x84))
      simp only [C.f62r20p1,R,Nat.reduceEqDiff,h126,↓g148,fa72_2,h120,a149,h121]
      refine hJ _ ?_
      exact ⟨h117,h118,h119,h122,h123,h124,h125,(by first | rfl | (simp only [↓g148]; rfl) | simp only [↓g148,Lk,RB,Nat.reduceEqDiff,not_false_eq_true]),f127,f128,i130⟩
     ·skip
      simp only [C.f62r20p1,R,Nat.reduceEqDiff,h126,↓g148]
      refine hJ _ ?_
      exact ⟨h117,h118,h119,h122,h123,h124,h125,(by first | rfl | (simp only [↓g148]; rfl) | simp only [↓g148,Lk,RB,Nat.reduceEqDiff,not_false_eq_true]),f127,f128,i130⟩
    rintro ⟨σ150,H136,d151⟩ ⟨h137,h138,h139,h140,h141,h142,h143,h144,f145,f146,i147⟩
    refine hJ _ ?_
    refine tk_cond (t:=((!v114) || (!decide (x84.f_A = x7_85))) || (!decide (x84.f_B = x8_86))) h144 (fun g152=>?_) (fun g152=>?_)
    ·replace hm:=cond_t hm g152
     refine tk_os okM hok fun J hJ=>?_
     simp only [C.f62r21,R,Nat.reduceEqDiff]
     refine hJ _ ?_
     refine tk_ret okM ?_
     refine x111 _ _ (by simp) ?_
     refine x57 _ _ (by simp) (by simp) ?_
     refine x54 _ _ (by simp) ?_
     refine x36 _ _ (by simp) ?_
     refine x30 _ _ (by simp) (by simp) ?_
     refine x26 _ _ (by simp) ?_
     obtain rfl:=Option.some.inj hm
     exact end_sl1 (P:=Mt.P) (rs:=[(.tmp 2),(.tmp 3)]) (pre:=[]) (post:=[(.bool (false))]) (x:=none) (b:=0) (nb:=H0.length) (.inl rfl) (by rw [← hnb]; exact (slO_nil (c:=(cInt .i64)) (e:=3))) enc_int fm_nil (fm_cons rfl fm_nil) (resT' (v:=(.slice none 0 0)) rfl (resT' (v:=(.bool (false))) rfl resN))
    ·replace hm:=cond_f hm g152
     refine tk_skip okM ?_
     refine n110 _ ?_
     refine tk_oe okM hok fun J hJ=>?_
     obtain ⟨j153,ej153,hm⟩:=bind_s hm
     obtain ⟨H154,a155,f156,u157⟩:=st_sl0 (M:=Mt) (t:=3) (v:=(.int .i64 (x9_87))) (y:=x9_87) enc_int.len f146 (ck_lt ej153).1 (by rw [enc_int.len]; exact T.sz3) rfl (enc_int.one _) hcn
     have i158:=i147.up u157 (f146.some (ck_lt ej153).1).1
     have z159:l81 ≠ none:=sl_some (j:=j153) (ck_lt ej153).1
     have f160:=(u157.get _ (n105 z159).symm).trans f145
     simp only [C.f62r22,R,Nat.reduceEqDiff,h138,h139,h140,ia100,ej153,a155]
     refine hJ _ ?_
     refine n55 _ ?_
     refine n53 _ ?_
     refine tk_oe okM hok fun J hJ=>?_
     simp only [C.f62r23,R,Nat.reduceEqDiff,h143]
     refine hJ _ ?_
     refine n35 _ ?_
     exact ⟨Sl.put l81 j153 x9_87,x17_88,IntKind.i64.wrap (x18_89 + 1),b82,hm,h137,(lk_eq (by simp only [slV_put,slV_copy]) h138),h141,h142,rfl,f160,f156,(fun h=>n105 (by simpa only [Sl.put_none,Sl.copy_none] using h)),i158⟩
   ·refine fun K n161 x162=>?_
    refine tk_os okM hok fun J hJ=>?_
    have a163:=ld_one (M:=Mt) (t:=3) f76 T.ag3 (Seg.refl.sub (S_a.seg0 (Sl.nth x0 j58)))
    obtain ⟨v165,ev165,hm⟩:=bind_s hm
    have a164:=z_fa c.ro H74 ((Sl.nth x0 j58).f_Kind) v165 ev165
    simp only [C.f62r6,R,Nat.reduceEqDiff,fa72_0,a163,c_fn F66,a164]
    refine hJ _ ?_
    refine tk_block_k fun K n166 e167 x168=>?_
    refine tk_os okM hok fun J hJ=>?_
    simp only [C.f62r7,R,Nat.reduceEqDiff]
    refine hJ _ ?_
    refine tk_cond (t:=decide (v165 = 1)) rfl (fun g169=>?_) (fun g169=>?_)
    ·replace hm:=cond_t hm g169
     refine tk_os okM hok fun J hJ=>?_
     simp only [C.f62r8,R,Nat.reduceEqDiff]
     refine hJ _ ?_
     refine tk_seq_k fun K n170 x171=>?_
     refine tk_os okM hok fun J hJ=>?_
     simp only [C.f62r9,R,Nat.reduceEqDiff]
     refine hJ _ ?_
     refine tk_cond (t:=decide ((IntKind.i64.wrap (x18_34 - 1)) < 0)) rfl (fun g172=>?_) (fun g172=>?_)
     ·replace hm:=cond_t hm g172
      refine tk_os okM hok fun J hJ=>?_
      simp only [C.f62r10,R,Nat.reduceEqDiff]
      refine hJ _ ?_
      refine tk_ret okM ?_
      refine x171 _ _ (by simp) ?_
      refine x168 _ _ (by simp) (by simp) ?_
      refine x162 _ _ (by simp) ?_
      refine x57 _ _ (by simp) (by simp) ?_
      refine x54 _ _ (by simp) ?_
      refine x36 _ _ (by simp) ?_
      refine x30 _ _ (by simp) (by simp) ?_
      refine x26 _ _ (by simp) ?_
      obtain rfl:=Option.some.inj hm
      exact end_sl1 (P:=Mt.P) (rs:=[(.tmp 2),(.tmp 3)]) (pre:=[]) (post:=[(.bool (false))]) (x:=none) (b:=0) (nb:=H0.length) (.inl rfl) (by rw [← hnb]; exact (slO_nil (c:=(cInt .i64)) (e:=3))) enc_int fm_nil (fm_cons rfl fm_nil) (resT' (v:=(.slice none 0 0)) rfl (resT' (v:=(.bool (false))) rfl resN))
     ·replace hm:=cond_f hm g172
      refine tk_skip okM ?_
      refine n170 _ ?_
      refine tk_oe okM hok fun J hJ=>?_
      obtain ⟨j173,ej173,hm⟩:=bind_s hm
      obtain ⟨mm174,k175⟩:=f80.h.blk (ck_lt ej173).1
      have a176:=lds_one (M:=Mt) (t:=3) k175 T.ag3 (seg_sl enc_int.len mm174 (ck_lt ej173).1)
      simp only [C.f62r11,R,Nat.reduceEqDiff,h40,ia100,ej173,a176]
      refine hJ _ ?_
      refine n166 _ ?_
      refine n161 _ ?_
      exact ⟨l31,x18_34,Sl.nth x0 j58,IntKind.i64.wrap (x18_34 - 1),0,IntKind.i64.wrap (1 + (Sl.nth l31 j173)),x17_33,x18_34,b32,hm,h39,h40,rfl,rfl,rfl,rfl,rfl,h41,h42,h43,f79,f80,f76,n46,(f45.h.ne q66),i78⟩
    ·replace hm:=cond_f hm g169
     refine tk_os okM hok fun J hJ=>?_
     simp only [C.f62r12,R,Nat.reduceEqDiff]
     refine hJ _ ?_
     refine tk_cond (t:=decide (v165 = 2)) rfl (fun g177=>?_) (fun g177=>?_)
     ·replace hm:=cond_t hm g177
      refine tk_os okM hok fun J hJ=>?_
      simp only [C.f62r13,R,Nat.reduceEqDiff]
      refine hJ _ ?_
      refine tk_seq_k fun K n178 x179=>?_
      refine tk_os okM hok fun J hJ=>?_
      simp only [C.f62r14,R,Nat.reduceEqDiff]
      refine hJ _ ?_
      refine tk_cond (t:=decide ((IntKind.i64.wrap (x18_34 - 1)) < 0)) rfl (fun g180=>?_) (fun g180=>?_)
      ·replace hm:=cond_t hm g180
       refine tk_os okM hok fun J hJ=>?_
       simp only [C.f62r15,R,Nat.reduceEqDiff]
       refine hJ _ ?_
       refine tk_ret okM ?_
       refine x179 _ _ (by simp) ?_
       refine x168 _ _ (by simp) (by simp) ?_
       refine x162 _ _ (by simp) ?_
       refine x57 _ _ (by simp) (by simp) ?_
       refine x54 _ _ (by simp) ?_
       refine x36 _ _ (by simp) ?_
       refine x30 _ _ (by simp) (by simp) ?_
       refine x26 _ _ (by simp) ?_
       obtain rfl:=Option.some.inj hm
       exact end_sl1 (P:=Mt.P) (rs:=[(.tmp 2),(.tmp 3)]) (pre:=[]) (post:=[(.bool (false))]) (x:=none) (b:=0) (nb:=H0.length) (.inl rfl) (by rw [← hnb]; exact (slO_nil (c:=(cInt .i64)) (e:=3))) enc_int fm_nil (fm_cons rfl fm_nil) (resT' (v:=(.slice none 0 0)) rfl (resT' (v:=(.bool (false))) rfl resN))
      ·replace hm:=cond_f hm g180
       refine tk_skip okM ?_
       refine n178 _ ?_
       refine tk_os okM hok fun J hJ=>?_
       obtain ⟨j181,ej181,hm⟩:=bind_s hm
       obtain ⟨mm182,k183⟩:=f80.h.blk (ck_lt ej181).1
       have a184:=lds_one (M:=Mt) (t:=3) k183 T.ag3 (seg_sl enc_int.len mm182 (ck_lt ej181).1)
       simp only [C.f62r16,R,Nat.reduceEqDiff,h40,ia100,ej181,a184]
       refine hJ _ ?_
       refine tk_seq_k fun K n185 x186=>?_
       refine tk_os okM hok fun J hJ=>?_
       simp only [C.f62r17,R,Nat.reduceEqDiff]
       refine hJ _ ?_
       refine tk_cond (t:=decide ((IntKind.i64.wrap ((IntKind.i64.wrap (x18_34 - 1)) - (Sl.nth l31 j181))) < 0)) rfl (fun g187=>?_) (fun g187=>?_)
       ·replace hm:=cond_t hm g187
        refine tk_os okM hok fun J hJ=>?_
        simp only [C.f62r18,R,Nat.reduceEqDiff]
        refine hJ _ ?_
        refine tk_ret okM ?_
        refine x186 _ _ (by simp) ?_
        refine x168 _ _ (by simp) (by simp) ?_
        refine x162 _ _ (by simp) ?_
        refine x57 _ _ (by simp) (by simp) ?_
        refine x54 _ _ (by simp) ?_
        refine x36 _ _ (by simp) ?_
        refine x30 _ _ (by simp) (by simp) ?_
        refine x26 _ _ (by simp) ?_
        obtain rfl:=Option.some.inj hm
        exact end_sl1 (P:=Mt.P) (rs:=[(.tmp 2),(.tmp 3)]) (pre:=[]) (post:=[(.bool (false))]) (x:=none) (b:=0) (nb:=H0.length) (.inl rfl) (by rw [← hnb]; exact (slO_nil (c:=(cInt .i64)) (e:=3))) enc_int fm_nil (fm_cons rfl fm_nil) (resT' (v:=(.slice none 0 0)) rfl (resT' (v:=(.bool (false))) rfl resN))
       ·replace hm:=cond_f hm g187
        refine tk_skip okM ?_
        refine n185 _ ?_
        refine tk_oe okM hok fun J hJ=>?_
        obtain ⟨j188,ej188,hm⟩:=bind_s hm
        obtain ⟨mm189,k190⟩:=f80.h.blk (ck_lt ej188).1
        have a191:=lds_one (M:=Mt) (t:=3) k190 T.ag3 (seg_sl enc_int.len mm189 (ck_lt ej188).1)
        obtain ⟨mm192,k193⟩:=f80.h.blk (ck_lt ej181).1
        have a194:=lds_one (M:=Mt) (t:=3) k193 T.ag3 (seg_sl enc_int.len mm192 (ck_lt ej181).1)
        simp only [C.f62r19,R,Nat.reduceEqDiff,s_pt,s_gt,isW,Bool.false_eq_true,if_false,if_true,reduceIte,h40,ia100,ej188,a191,ej181,a194]
        refine hJ _ ?_
        refine n166 _ ?_
        refine n161 _ ?_
        exact ⟨l31,x18_34,Sl.nth x0 j58,IntKind.i64.wrap ((IntKind.i64.wrap (x18_34 - 1)) - (Sl.nth l31 j181)),IntKind.i64.wrap (x18_34 - 1),IntKind.i64.wrap (1 + (IntKind.i64.wrap ((Sl.nth l31 j188) + (Sl.nth l31 j181)))),x17_33,x18_34,b32,hm,h39,h40,rfl,rfl,rfl,rfl,rfl,h41,h42,h43,f79,f80,f76,n46,(f45.h.ne q66),i78⟩
     ·replace hm:=cond_f hm g177
      refine tk_skip okM ?_
      refine n166 _ ?_
      refine n161 _ ?_
      exact ⟨l31,x18_34,Sl.nth x0 j58,0,0,1,x17_33,x18_34,b32,hm,h39,h40,rfl,rfl,rfl,rfl,rfl,h41,h42,h43,f79,f80,f76,n46,(f45.h.ne q66),i78⟩
  ·replace hm:=cond_f hm g52
   refine tk_exit okM ?_
   refine x51 _ _ (by simp) ?_
   refine x36 _ _ (by simp) ?_
   refine e29 _ ?_
   refine n25 _ ?_
   refine tk_os okM hok fun J hJ=>?_
   have a195:=ld_one (M:=Mt) (t:=35) (off:=0 + 0) f44 T.ag35 Seg.refl
   simp only [C.f62r24,R,Nat.reduceEqDiff,fa37_0,h39,a195,ln35]
   refine hJ _ ?_
   refine tk_os okM hok fun J hJ=>?_
   rw [C.f62r25]
   obtain ⟨y201,ey201,hm⟩:=bind_s hm
   refine rn_app_k (fun ⟨σ,H,_⟩=>Lk σ 87 (slV l31 b32) ∧ Lk σ 99 (.bool (y201)) ∧ SlO c.nb H (cInt .i64) 3 l31 b32 ∧ Iv c.nb [] H0 H) (fun J hJ=>?_) ?_
   ·skip
    cases g207:decide (0 ≤ (IntKind.i64.wrap ((Sl.len x0) - 1)))
    ·skip
     have ey201:=cond_f ey201 g207
     obtain rfl:=Option.some.inj ey201
     simp only [C.f62r25p0,R,Nat.reduceEqDiff,s_pt,s_gt,isW,Bool.false_eq_true,if_false,if_true,reduceIte,h40,g207]
     refine hJ _ ?_
     exact ⟨rfl,(by first | rfl | (simp only [g207]; rfl) | simp only [g207,Lk,RB,Nat.reduceEqDiff,not_false_eq_true]),f45,i47⟩
    ·skip
     have ey201:=cond_t ey201 g207
     obtain ⟨j208,ej208,ey201⟩:=bind_s ey201
     obtain ⟨mm209,k210⟩:=f45.h.blk (ck_lt ej208).1
     have a211:=lds_one (M:=Mt) (t:=3) k210 T.ag3 (seg_sl enc_int.len mm209 (ck_lt ej208).1)
     have a212:=ld_one (M:=Mt) (t:=35) (off:=0 + 0) f44 T.ag35 Seg.refl
     obtain rfl:=Option.some.inj ey201
     simp only [C.f62r25p0,R,Nat.reduceEqDiff,s_pt,s_gt,isW,Bool.false_eq_true,if_false,if_true,reduceIte,h40,g207,ia100,ej208,a211,fa37_0,h39,a212,ln35]
     refine hJ _ ?_
     exact ⟨rfl,(by first | rfl | (simp only [g207]; rfl) | simp only [g207,Lk,RB,Nat.reduceEqDiff,not_false_eq_true]),f45,i47⟩
   rintro ⟨σ213,H202,d214⟩ ⟨h203,h204,f205,i206⟩
   simp only [C.f62r25p1,R,Nat.reduceEqDiff,s_pt,s_gt,isW,Bool.false_eq_true,if_false,if_true,reduceIte,h203,h204]
   refine hJ _ ?_
   refine tk_ret okM ?_
   obtain rfl:=Option.some.inj hm
   exact end_sl1 (P:=Mt.P) (rs:=[(.tmp 2),(.tmp 3)]) (pre:=[]) (post:=[(.bool (y201))]) (x:=l31) (b:=b32) (nb:=H0.length) (.inl rfl) (by rw [← hnb]; exact f205) enc_int fm_nil (fm_cons rfl fm_nil) (resT' (v:=(slV l31 b32)) rfl (resT' (v:=(.bool (y201))) rfl resN))
def b_bi (c_s:T_bO) (n:Nat) (q1:Sl Int → Int → Int → Option ((Sl Int))) (x0:(Sl S_a)) (l50:Sl Int) (x12_52:Int) (x13_53:Int):Option ((Sl Int)):=q1 l50 x12_52 (IntKind.i64.wrap (x13_53 + 1))
def b_Z (c_s:T_bO) (n:Nat) (x0:(Sl S_a)):Nat → Sl Int → Int → Int → Option ((Sl Int))
 | 0,_,_,_=>none
 | k + 1,l31,x12_33,x13_34=>bif decide (x13_34 < x12_33) then ((ck (Sl.l x0).length x13_34).bind fun j69=>(c_s ((Sl.nth x0 j69).f_Kind)).bind fun v92=>bif decide (v92 = 0) then ((ck (Sl.l l31).length x13_34).bind fun j97=>b_bi c_s n (b_Z c_s n x0 k) x0 (Sl.put l31 j97 1) x12_33 x13_34) else (bif decide (v92 = 1) then ((ck (Sl.l l31).length ((Sl.nth x0 j69).f_A)).bind fun j107=>(ck (Sl.l l31).length x13_34).bind fun j111=>b_bi c_s n (b_Z c_s n x0 k) x0 (Sl.put l31 j111 (IntKind.i64.wrap (1 + (Sl.nth l31 j107)))) x12_33 x13_34) else ((ck (Sl.l l31).length ((Sl.nth x0 j69).f_A)).bind fun j120=>(ck (Sl.l l31).length ((Sl.nth x0 j69).f_B)).bind fun j125=>(ck (Sl.l l31).length x13_34).bind fun j129=>b_bi c_s n (b_Z c_s n x0 k) x0 (Sl.put l31 j129 (IntKind.i64.wrap (1 + (max (Sl.nth l31 j120) (Sl.nth l31 j125))))) x12_33 x13_34))) else (some l31)
def b_ds (c_s:T_bO) (n:Nat) (x0:(Sl S_a)):Option ((Sl Int)):=(Sl.make 8 (Sl.len x0) (Sl.len x0) (0:Int)).bind fun l13=>b_Z c_s n x0 n l13 (Sl.len x0) 0
theorem w_hX {call:CallF} (hok:CallOk Mt call) {n:Nat} {c_s:T_bO} (z_fa:A_fo call c_s) {H0:Hp} {x0:(Sl S_a)} {b0:Nat} {r:(Sl Int)} {ro:Nat} (hro:ro ≤ H0.length) (h0:SlH H0 S_a.c 72 x0 b0) (hm:b_ds c_s n x0 = some r) :
  Pt Mt ro 63 [(vAgg [slV x0 b0])] H0 (slV r H0.length) (H0 ++ slB (cInt .i64) 3 r) []:=by
 refine pt_new okM F63d (by exact Nat.le_of_ble_eq_true rfl) ?_ hro
 intro c hnt hnb hcr
 have hcn:c.ro ≤ c.nb:=by omega
 have l0:x0 ≠ none → b0 < c.nb:=fun h=>by rw [hnb]; exact h0.lt h
 have iv:Iv c.nb [] H0 H0:=by rw [hnb]; exact iv_refl
 rw [show args0 [(vAgg [slV x0 b0])] = [(0,(vAgg [slV x0 b0]))] from rfl]
 rw [b_ds] at hm
 simp only [C.f63,C.f63b0]
 refine tk_os okM hok fun J hJ=>?_
 obtain ⟨b2,H3,a4,f5,q6,r7,x8,i9⟩:=bx_ok (M:=Mt) (t:=37) (u:=(vAgg [(slV x0 b0)])) (cs:=[(slV x0 b0)]) H0 iv.le T.sz37 vAgg_cells one_sl
 have i10:=i9 _ _ iv
 simp only [C.f63r0,R,Nat.reduceEqDiff,a4]
 refine hJ _ ?_
 refine tk_os okM hok fun J hJ=>?_
 have a12:=ld_one (M:=Mt) (t:=35) (off:=0 + 0) f5 T.ag35 Seg.refl
 obtain ⟨l13,el13,hm⟩:=bind_s hm
 obtain ⟨b14,H15,a16,f17,q18,r19,x20,i21⟩:=mk_ok (M:=Mt) (t:=100) (e:=3) (k:=.i64) (k':=.i64) H3 i10.le Tryz.underlying100 T.by3 zs3 el13
 have i22:=i21 _ _ i10
 have f23:=x20 _ _ f5
 simp only [C.f63r1,R,Nat.reduceEqDiff,fa37_0,a12,ln35,o_makeSlice,a16]
 refine hJ _ ?_
 refine tk_seq_k fun K n25 x26=>?_
 refine tk_os okM hok fun J hJ=>?_
 have a27:=ld_one (M:=Mt) (t:=35) (off:=0 + 0) f23 T.ag35 Seg.refl
 simp only [C.f63r2,R,Nat.reduceEqDiff,fa37_0,a27,ln35]
 refine hJ _ ?_
 refine tk_block_k fun K n28 e29 x30=>?_
 refine tk_loop_k (n:=n) (fun k1 ⟨σ,H,_⟩=>∃ l31 x12_33 x13_34 b32,b_Z c_s n x0 k1 l31 x12_33 x13_34 = some r ∧ Lk σ 3 (slV l31 b32) ∧ Lk σ 11 (slV x0 b0) ∧ Lk σ 12 (.int .i64 x12_33) ∧ Lk σ 13 (.int .i64 x13_34) ∧ SlO c.nb H (cInt .i64) 3 l31 b32 ∧ Iv c.nb [] H0 H) ?_ ?_ ?_
 ·exact ⟨l13,Sl.len x0,0,b14,hm,rfl,rfl,rfl,rfl,f17,i22⟩
 ·rintro ⟨σ,H,d⟩ ⟨_,_,_,_,hm,_⟩
  cases hm
 ·intro k1 K n35 x36
  rintro ⟨σ45,H37,d46⟩ ⟨l31,x12_33,x13_34,b32,hm,h39,h40,h41,h42,f43,i44⟩
  rw [b_Z.eq_2] at hm
  refine tk_os okM hok fun J hJ=>?_
  simp only [C.f63r3,R,Nat.reduceEqDiff,h42,h41]
  refine hJ _ ?_
  refine tk_seq_k fun K n47 x48=>?_
  refine tk_cond (t:=decide (x13_34 < x12_33)) rfl (fun g49=>?_) (fun g49=>?_)
  ·replace hm:=cond_t hm g49
   refine tk_skip okM ?_
   refine n47 _ ?_
   refine tk_seq_j (fun ⟨σ,H,_⟩=>∃ l50 x12_52 x13_53 b51,b_bi c_s n (b_Z c_s n x0 k1) x0 l50 x12_52 x13_53 = some r ∧ Lk σ 3 (slV l50 b51) ∧ Lk σ 11 (slV x0 b0) ∧ Lk σ 12 (.int .i64 x12_52) ∧ Lk σ 13 (.int .i64 x13_53) ∧ SlO c.nb H (cInt .i64) 3 l50 b51 ∧ Iv c.nb [] H0 H) ?_ ?_
   ·skip
    rintro ⟨σ62,H54,d63⟩ ⟨l50,x12_52,x13_53,b51,hm,h56,h57,h58,h59,f60,i61⟩
    rw [b_bi] at hm
    refine tk_oe okM hok fun J hJ=>?_
    simp only [C.f63r11,R,Nat.reduceEqDiff,h59]
    refine hJ _ ?_
    refine n35 _ ?_
    exact ⟨l50,x12_52,IntKind.i64.wrap (x13_53 + 1),b51,hm,h56,h57,h58,rfl,f60,i61⟩
   ·refine fun K n64 x65=>?_
    refine tk_block_k fun K n66 e67 x68=>?_
    refine tk_os okM hok fun J hJ=>?_
    obtain ⟨j69,ej69,hm⟩:=bind_s hm
    obtain ⟨mm70,k71⟩:=(h0.iv l0 (fun _=>by simp) i44).blk (ck_lt ej69).1
    have a72:=lds_agg (M:=Mt) (t:=72) k71 T.ag72 (by rw [S_a.enc.len]; exact T.sz72) (seg_sl S_a.enc.len mm70 (ck_lt ej69).1)
    obtain ⟨b73,H74,a75,f76,q77,r78,x79,i80⟩:=al_ok H37 72 (S_a.c S_a.zero) i44.le
    have i81:=i80 _ _ i44
    have f82:=f43.ex x79
    obtain ⟨H84,a85,f86,u87⟩:=st_ok (M:=Mt) (t:=72) (v:=(vAgg (S_a.c (Sl.nth x0 j69)))) (c:=S_a.c (Sl.nth x0 j69)) (cs':=S_a.c (Sl.nth x0 j69)) f76 (by rw [S_a.enc.len]; exact T.sz72) vAgg_cells (S_a.enc.one _) (Nat.le_trans hcn r78) (le0 S_a.enc.len) (wrs_all (eqL S_a.enc.len))
    have i88:=i81.up u87 r78
    have f89:=f82.up u87 (f43.h.ne q77)
    simp only [C.f63r4,R,Nat.reduceEqDiff,h42,ia35,ej69,h40,a72,zs72,a75,a85]
    refine hJ _ ?_
    refine tk_os okM hok fun J hJ=>?_
    have a90:=ld_one (M:=Mt) (t:=3) f86 T.ag3 (Seg.refl.sub (S_a.seg0 (Sl.nth x0 j69)))
    obtain ⟨v92,ev92,hm⟩:=bind_s hm
    have a91:=z_fa c.ro H84 ((Sl.nth x0 j69).f_Kind) v92 ev92
    simp only [C.f63r5,R,Nat.reduceEqDiff,fa72_0,a90,c_fn F66,a91]
    refine hJ _ ?_
    refine tk_block_k fun K n93 e94 x95=>?_
    refine tk_os okM hok fun J hJ=>?_
    simp only [C.f63r7,R,Nat.reduceEqDiff]
    refine hJ _ ?_
    refine tk_cond (t:=decide (v92 = 0)) rfl (fun g96=>?_) (fun g96=>?_)
    ·replace hm:=cond_t hm g96
     refine tk_oe okM hok fun J hJ=>?_
     obtain ⟨j97,ej97,hm⟩:=bind_s hm
     obtain ⟨H98,a99,f100,u101⟩:=st_sl0 (M:=Mt) (t:=3) (v:=(.int .i64 (1))) (y:=1) enc_int.len f89 (ck_lt ej97).1 (by rw [enc_int.len]; exact T.sz3) rfl (enc_int.one _) hcn
     have i102:=i88.up u101 (f89.some (ck_lt ej97).1).1
     have z103:l31 ≠ none:=sl_some (j:=j97) (ck_lt ej97).1
     have f104:=(u101.get _ ((f43.h.ne q77) z103).symm).trans f86
     simp only [C.f63r8,R,Nat.reduceEqDiff,h39,ia100,ej97,a99]
     refine hJ _ ?_
     refine n93 _ ?_
     refine n66 _ ?_
     refine n64 _ ?_
     exact ⟨Sl.put l31 j97 1,x12_33,x13_34,b32,hm,(lk_eq (by simp only [slV_put,slV_copy]) h39),h40,h41,h42,f100,i102⟩
    ·replace hm:=cond_f hm g96
     refine tk_os okM hok fun J hJ=>?_
     simp only [C.f63r9,R,Nat.reduceEqDiff]
     refine hJ _ ?_
     refine tk_cond (t:=decide (v92 = 1)) rfl (fun g105=>?_) (fun g105=>?_)
     ·replace hm:=cond_t hm g105
      refine tk_oe okM hok fun J hJ=>?_
      have a106:=ld_one (M:=Mt) (t:=3) f86 T.ag3 (Seg.refl.sub (S_a.seg1 (Sl.nth x0 j69)))
      obtain ⟨j107,ej107,hm⟩:=bind_s hm
      obtain ⟨mm108,k109⟩:=f89.h.blk (ck_lt ej107).1
      have a110:=lds_one (M:=Mt) (t:=3) k109 T.ag3 (seg_sl enc_int.len mm108 (ck_lt ej107).1)
      obtain ⟨j111,ej111,hm⟩:=bind_s hm
      obtain ⟨H112,a113,f114,u115⟩:=st_sl0 (M:=Mt) (t:=3) (v:=(.int .i64 (IntKind.i64.wrap (1 + (Sl.nth l31 j107))))) (y:=(IntKind.i64.wrap (1 + (Sl.nth l31 j107)))) enc_int.len f89 (ck_lt ej111).1 (by rw [enc_int.len]; exact T.sz3) rfl (enc_int.one _) hcn
      have i116:=i88.up u115 (f89.some (ck_lt ej111).1).1
      have z117:l31 ≠ none:=sl_some (j:=j111) (ck_lt ej111).1
      have f118:=(u115.get _ ((f43.h.ne q77) z117).symm).trans f86
      simp only [C.f63r10,R,Nat.reduceEqDiff,h39,fa72_1,a106,ia100,ej107,a110,ej111,a113]
      refine hJ _ ?_
      refine n93 _ ?_
      refine n66 _ ?_
      refine n64 _ ?_
      exact ⟨Sl.put l31 j111 (IntKind.i64.wrap (1 + (Sl.nth l31 j107))),x12_33,x13_34,b32,hm,(lk_eq (by simp only [slV_put,slV_copy]) h39),h40,h41,h42,f114,i116⟩
     ·replace hm:=cond_f hm g105
      refine tk_oe okM hok fun J hJ=>?_
      have a119:=ld_one (M:=Mt) (t:=3) f86 T.ag3 (Seg.refl.sub (S_a.seg1 (Sl.nth x0 j69)))
      obtain ⟨j120,ej120,hm⟩:=bind_s hm
      obtain ⟨mm121,k122⟩:=f89.h.blk (ck_lt ej120).1
      have a123:=lds_one (M:=Mt) (t:=3) k122 T.ag3 (seg_sl enc_int.len mm121 (ck_lt ej120).1)
      have a124:=ld_one (M:=Mt) (t:=3) f86 T.ag3 (Seg.refl.sub (S_a.seg2 (Sl.nth x0 j69)))
      obtain ⟨j125,ej125,hm⟩:=bind_s hm
      obtain ⟨mm126,k127⟩:=f89.h.blk (ck_lt ej125).1
      have a128:=lds_one (M:=Mt) (t:=3) k127 T.ag3 (seg_sl enc_int.len mm126 (ck_lt ej125).1)
      obtain ⟨j129,ej129,hm⟩:=bind_s hm
      obtain ⟨H130,a131,f132,u133⟩:=st_sl0 (M:=Mt) (t:=3) (v:=(.int .i64 (IntKind.i64.wrap (1 + (max (Sl.nth l31 j120) (Sl.nth l31 j125)))))) (y:=(IntKind.i64.wrap (1 + (max (Sl.nth l31 j120) (Sl.nth l31 j125))))) enc_int.len f89 (ck_lt ej129).1 (by rw [enc_int.len]; exact T.sz3) rfl (enc_int.one _) hcn
      have i134:=i88.up u133 (f89.some (ck_lt ej129).1).1
      have z135:l31 ≠ none:=sl_some (j:=j129) (ck_lt ej129).1
      have f136:=(u133.get _ ((f43.h.ne q77) z135).symm).trans f86
      simp only [C.f63r6,R,Nat.reduceEqDiff,s_pt,s_gt,isW,Bool.false_eq_true,if_false,if_true,reduceIte,h39,fa72_1,a119,ia100,ej120,a123,fa72_2,a124,ej125,a128,ej129,a131]
      refine hJ _ ?_
      refine n93 _ ?_
      refine n66 _ ?_
      refine n64 _ ?_
      exact ⟨Sl.put l31 j129 (IntKind.i64.wrap (1 + (max (Sl.nth l31 j120) (Sl.nth l31 j125)))),x12_33,x13_34,b32,hm,(lk_eq (by simp only [slV_put,slV_copy]) h39),h40,h41,h42,f132,i134⟩
  ·replace hm:=cond_f hm g49
   refine tk_exit okM ?_
   refine x48 _ _ (by simp) ?_
   refine x36 _ _ (by simp) ?_
   refine e29 _ ?_
   refine n25 _ ?_
   refine tk_os okM hok fun J hJ=>?_
   simp only [C.f63r12,R,Nat.reduceEqDiff,h39]
   refine hJ _ ?_
   refine tk_ret okM ?_
   obtain rfl:=Option.some.inj hm
   exact end_sl1 (P:=Mt.P) (rs:=[(.tmp 2)]) (pre:=[]) (post:=[]) (x:=l31) (b:=b32) (nb:=H0.length) (.inl rfl) (by rw [← hnb]; exact f43) enc_int fm_nil fm_nil (resT' (v:=(slV l31 b32)) rfl resN)
def b_dz (c_w:T_bQ) (c_dv:T_et) (c_bM:T_cu) (n:Nat) (x0:(Sl S_a)):Option (Int):=bif decide (500 < (Sl.len x0)) then (some 4) else ((c_w x0).bind fun v20=>bif !v20.2 then (some 3) else ((c_dv x0).bind fun v36=>(c_bM v36).bind fun v48=>bif decide (40 < v48) then (some 4) else (some 0)))
theorem w_hL {call:CallF} (hok:CallOk Mt call) {n:Nat} {c_w:T_bQ} (z_eO:A_fd call c_w) {c_dv:T_et} (z_hn:A_fZ call c_dv) {c_bM:T_cu} (z_fk:A_dD call c_bM) {H0:Hp} {x0:(Sl S_a)} {b0:Nat} {r:Int} {ro:Nat} (hro:ro ≤ H0.length) (h0:SlH H0 S_a.c 72 x0 b0) (hm:b_dz c_w c_dv c_bM n x0 = some r) :
  Pt Mt ro 64 [(vAgg [slV x0 b0])] H0 (.int .i64 (r)) H0 []:=by
 refine pt_new0 okM F64d (by exact Nat.le_of_ble_eq_true rfl) ?_ hro
 intro c hnt hnb hcr
 have hcn:c.ro ≤ c.nb:=by omega
 have l0:x0 ≠ none → b0 < c.nb:=fun h=>by rw [hnb]; exact h0.lt h
 have iv:Iv c.nb [] H0 H0:=by rw [hnb]; exact iv_refl
 rw [show args0 [(vAgg [slV x0 b0])] = [(0,(vAgg [slV x0 b0]))] from rfl]
 rw [b_dz] at hm
 simp only [C.f64]
 refine tk_os okM hok fun J hJ=>?_
 obtain ⟨b2,H3,a4,f5,q6,r7,x8,i9⟩:=bx_ok (M:=Mt) (t:=37) (u:=(vAgg [(slV x0 b0)])) (cs:=[(slV x0 b0)]) H0 iv.le T.sz37 vAgg_cells one_sl
 have i10:=i9 _ _ iv
 simp only [C.f64r0,R,Nat.reduceEqDiff,a4]
 refine hJ _ ?_
 refine tk_seq_k fun K n12 x13=>?_
 refine tk_os okM hok fun J hJ=>?_
 have a14:=ld_one (M:=Mt) (t:=35) (off:=0 + 0) f5 T.ag35 Seg.refl
 simp only [C.f64r1,R,Nat.reduceEqDiff,fa37_0,a14,ln35]
 refine hJ _ ?_
 refine tk_cond (t:=decide (500 < (Sl.len x0))) rfl (fun g15=>?_) (fun g15=>?_)
 ·replace hm:=cond_t hm g15
  refine tk_os okM hok fun J hJ=>?_
  simp only [C.f64r2,R,Nat.reduceEqDiff]
  refine hJ _ ?_
  refine tk_ret okM ?_
  refine x13 _ _ (by simp) ?_
  obtain rfl:=Option.some.inj hm
  exact end_flat (.inl rfl) (vs:=[(.int .i64 (4))]) (resT' (v:=(.int .i64 (4))) rfl resN) (fm_cons rfl fm_nil)
 ·replace hm:=cond_f hm g15
  refine tk_skip okM ?_
  refine n12 _ ?_
  refine tk_seq_k fun K n16 x17=>?_
  refine tk_os okM hok fun J hJ=>?_
  have a18:=ld_agg (M:=Mt) (t:=37) (off:=0) (c:=[(slV x0 b0)]) f5 T.ag37 T.sz37 Seg.refl
  obtain ⟨v20,ev20,hm⟩:=bind_s hm
  have a19:=z_eO c.ro H3 x0 b0 v20 (h0.iv l0 (fun _=>by simp) i10) ev20
  obtain ⟨H21,q22⟩:∃ x,x = H3 ++ slB (cInt .i64) 3 v20.1:=⟨_,rfl⟩
  obtain ⟨b23,q24⟩:∃ b,b = H3.length:=⟨_,rfl⟩
  rw [← q22,← q24] at a19
  have x28:Ex H3 H21:=by rw [q22]; exact ex_app
  have i26:Iv c.nb [] H0 H21:=by rw [q22]; exact i10.app
  have f25:SlO c.nb H21 (cInt .i64) 3 v20.1 b23:=by rw [q22,q24]; exact slB_own i10.le
  have r27:c.nb ≤ b23:=by rw [q24]; exact i10.le
  have f29:=x28 _ _ f5
  simp only [C.f64r3,R,Nat.reduceEqDiff,a18,c_fn F62,a19]
  refine hJ _ ?_
  refine tk_os okM hok fun J hJ=>?_
  simp only [C.f64r4,R,Nat.reduceEqDiff]
  refine hJ _ ?_
  refine tk_cond (t:=!v20.2) rfl (fun g31=>?_) (fun g31=>?_)
  ·replace hm:=cond_t hm g31
   refine tk_os okM hok fun J hJ=>?_
   simp only [C.f64r5,R,Nat.reduceEqDiff]
   refine hJ _ ?_
   refine tk_ret okM ?_
   refine x17 _ _ (by simp) ?_
   obtain rfl:=Option.some.inj hm
   exact end_flat (.inl rfl) (vs:=[(.int .i64 (3))]) (resT' (v:=(.int .i64 (3))) rfl resN) (fm_cons rfl fm_nil)
  ·replace hm:=cond_f hm g31
   refine tk_skip okM ?_
   refine n16 _ ?_
   refine tk_seq_k fun K n32 x33=>?_
   refine tk_os okM hok fun J hJ=>?_
   have a34:=ld_agg (M:=Mt) (t:=37) (off:=0) (c:=[(slV x0 b0)]) f29 T.ag37 T.sz37 Seg.refl
   obtain ⟨v36,ev36,hm⟩:=bind_s hm
   have a35:=z_hn c.ro H21 x0 b0 v36 (h0.iv l0 (fun _=>by simp) i26) ev36
   obtain ⟨H37,q38⟩:∃ x,x = H21 ++ slB (cInt .i64) 3 v36:=⟨_,rfl⟩
   obtain ⟨b39,q40⟩:∃ b,b = H21.length:=⟨_,rfl⟩
   rw [← q38,← q40] at a35
   have x44:Ex H21 H37:=by rw [q38]; exact ex_app
   have i42:Iv c.nb [] H0 H37:=by rw [q38]; exact i26.app
   have f41:SlO c.nb H37 (cInt .i64) 3 v36 b39:=by rw [q38,q40]; exact slB_own i26.le
   have r43:c.nb ≤ b39:=by rw [q40]; exact i26.le
   have f45:=x44 _ _ f29
   obtain ⟨v48,ev48,hm⟩:=bind_s hm
   have a47:=z_fk c.ro H37 v36 b39 v48 f41.h ev48
   simp only [C.f64r6,R,Nat.reduceEqDiff,a34,c_fn F63,a35,c_fn F98,a47]
   refine hJ _ ?_
   refine tk_cond (t:=decide (40 < v48)) rfl (fun g49=>?_) (fun g49=>?_)
   ·replace hm:=cond_t hm g49
    refine tk_os okM hok fun J hJ=>?_
    simp only [C.f64r7,R,Nat.reduceEqDiff]
    refine hJ _ ?_
    refine tk_ret okM ?_
    refine x33 _ _ (by simp) ?_
    obtain rfl:=Option.some.inj hm
    exact end_flat (.inl rfl) (vs:=[(.int .i64 (4))]) (resT' (v:=(.int .i64 (4))) rfl resN) (fm_cons rfl fm_nil)
   ·replace hm:=cond_f hm g49
    refine tk_skip okM ?_
    refine n32 _ ?_
    refine tk_os okM hok fun J hJ=>?_
    simp only [C.f64r8,R,Nat.reduceEqDiff]
    refine hJ _ ?_
    refine tk_ret okM ?_
    obtain rfl:=Option.some.inj hm
    exact end_flat (.inl rfl) (vs:=[(.int .i64 (0))]) (resT' (v:=(.int .i64 (0))) rfl resN) (fm_cons rfl fm_nil)
def b_A (c_t:T_c3) (c_r:T_cJ) (n:Nat) (q1:Sl Int → Sl Int → Int → Int → Option ((Sl Int) × (Sl Int))) (x0:(Sl S_a)) (l69:Sl Int) (l71:Sl Int) (x18_73:Int) (x19_74:Int):Option ((Sl Int) × (Sl Int)):=q1 l69 l71 x18_73 (IntKind.i64.wrap (x19_74 + 1))
def b_bX (c_t:T_c3) (c_r:T_cJ) (n:Nat) (q1:Sl Int → Sl Int → Int → Int → Option ((Sl Int) × (Sl Int))) (x0:(Sl S_a)) (l283:Sl Int) (l285:Sl Int) (x6_287:Int) (x288:S_a) (x18_289:Int) (x19_290:Int) (x138_291:Bool):Option ((Sl Int) × (Sl Int)):=bif x138_291 then ((ck (Sl.l l283).length x288.f_A).bind fun j314=>(ck (Sl.l l285).length x288.f_A).bind fun j319=>(ck (Sl.l l283).length x6_287).bind fun j323=>(ck (Sl.l l285).length x6_287).bind fun j332=>b_A c_t c_r n q1 x0 (Sl.put l283 j323 (Sl.nth l283 j314)) (Sl.put l285 j332 (Sl.nth l285 j319)) x18_289 x19_290) else (b_A c_t c_r n q1 x0 l283 l285 x18_289 x19_290)
def b_C (c_t:T_c3) (c_r:T_cJ) (n:Nat) (x0:(Sl S_a)):Nat → Sl Int → Sl Int → Int → Int → Option ((Sl Int) × (Sl Int))
 | 0,_,_,_,_=>none
 | k + 1,l44,l46,x18_48,x19_49=>bif decide (x19_49 < x18_48) then ((ck (Sl.l x0).length x19_49).bind fun j94=>bif decide (((Sl.nth x0 j94).f_Kind) = 1) then ((ck (Sl.l l44).length x19_49).bind fun j122=>(ck (Sl.l l46).length x19_49).bind fun j131=>b_A c_t c_r n (b_C c_t c_r n x0 k) x0 (Sl.put l44 j122 1) (Sl.put l46 j131 1) x18_48 x19_49) else (bif decide (((Sl.nth x0 j94).f_Kind) = 12) then ((ck (Sl.l l46).length x19_49).bind fun j141=>b_A c_t c_r n (b_C c_t c_r n x0 k) x0 l44 (Sl.put l46 j141 ((-1))) x18_48 x19_49) else (bif decide (((Sl.nth x0 j94).f_Kind) = 8) then ((ck (Sl.l l44).length ((Sl.nth x0 j94).f_A)).bind fun j152=>(ck (Sl.l l44).length ((Sl.nth x0 j94).f_B)).bind fun j157=>(c_t (Sl.nth l44 j152) (Sl.nth l44 j157)).bind fun v162=>(ck (Sl.l l46).length ((Sl.nth x0 j94).f_A)).bind fun j164=>(ck (Sl.l l46).length ((Sl.nth x0 j94).f_B)).bind fun j169=>(c_t (Sl.nth l46 j164) (Sl.nth l46 j169)).bind fun v174=>(ck (Sl.l l44).length x19_49).bind fun j175=>(ck (Sl.l l46).length x19_49).bind fun j184=>b_A c_t c_r n (b_C c_t c_r n x0 k) x0 (Sl.put l44 j175 v162) (Sl.put l46 j184 v174) x18_48 x19_49) else (bif decide (((Sl.nth x0 j94).f_Kind) = 9) then ((ck (Sl.l l44).length ((Sl.nth x0 j94).f_A)).bind fun j195=>(ck (Sl.l l44).length ((Sl.nth x0 j94).f_B)).bind fun j200=>(ck (Sl.l l46).length ((Sl.nth x0 j94).f_A)).bind fun j205=>(ck (Sl.l l46).length ((Sl.nth x0 j94).f_B)).bind fun j210=>(ck (Sl.l l44).length x19_49).bind fun j214=>(ck (Sl.l l46).length x19_49).bind fun j223=>bif decide ((min (Sl.nth (Sl.put l46 j223 (max (Sl.nth l46 j205) (Sl.nth l46 j210))) j205) (Sl.nth (Sl.put l46 j223 (max (Sl.nth l46 j205) (Sl.nth l46 j210))) j210)) = ((-1))) then (b_A c_t c_r n (b_C c_t c_r n x0 k) x0 (Sl.put l44 j214 (min (Sl.nth l44 j195) (Sl.nth l44 j200))) (Sl.put (Sl.put l46 j223 (max (Sl.nth l46 j205) (Sl.nth l46 j210))) j223 ((-1))) x18_48 x19_49) else (b_A c_t c_r n (b_C c_t c_r n x0 k) x0 (Sl.put l44 j214 (min (Sl.nth l44 j195) (Sl.nth l44 j200))) (Sl.put l46 j223 (max (Sl.nth l46 j205) (Sl.nth l46 j210))) x18_48 x19_49)) else (bif decide (((Sl.nth x0 j94).f_Kind) = 10) then ((ck (Sl.l l44).length ((Sl.nth x0 j94).f_A)).bind fun j250=>(c_r (Sl.nth l44 j250) ((Sl.nth x0 j94).f_Min)).bind fun v256=>(ck (Sl.l l46).length ((Sl.nth x0 j94).f_A)).bind fun j258=>(c_r (Sl.nth l46 j258) ((Sl.nth x0 j94).f_Max)).bind fun v264=>(ck (Sl.l l44).length x19_49).bind fun j265=>(ck (Sl.l l46).length x19_49).bind fun j274=>b_A c_t c_r n (b_C c_t c_r n x0 k) x0 (Sl.put l44 j265 v256) (Sl.put l46 j274 v264) x18_48 x19_49) else (bif decide (((Sl.nth x0 j94).f_Kind) = 11) then (b_bX c_t c_r n (b_C c_t c_r n x0 k) x0 l44 l46 x19_49 (Sl.nth x0 j94) x18_48 x19_49 (decide (((Sl.nth x0 j94).f_Kind) = 11))) else (b_bX c_t c_r n (b_C c_t c_r n x0 k) x0 l44 l46 x19_49 (Sl.nth x0 j94) x18_48 x19_49 (decide (((Sl.nth x0 j94).f_Kind) = 17))))))))) else (some (l44,l46))
def b_ek (c_t:T_c3) (c_r:T_cJ) (n:Nat) (x0:(Sl S_a)):Option ((Sl Int) × (Sl Int)):=(Sl.make 8 (Sl.len x0) (Sl.len x0) (0:Int)).bind fun l13=>b_C c_t c_r n x0 n l13 l13 (Sl.len x0) 0
theorem w_ih {call:CallF} (hok:CallOk Mt call) {n:Nat} {c_t:T_c3} (z_gf:A_gG call c_t) {c_r:T_cJ} (z_fR:A_ge call c_r) {H0:Hp} {x0:(Sl S_a)} {b0:Nat} {r:(Sl Int) × (Sl Int)} {ro:Nat} (hro:ro ≤ H0.length) (h0:SlH H0 S_a.c 72 x0 b0) (hm:b_ek c_t c_r n x0 = some r) :
  Pt Mt ro 65 [(vAgg [slV x0 b0])] H0 (.tuple [(slV r.1 H0.length),(slV r.2 (H0.length + (slB (cInt .i64) 3 r.1).length))].toArray) (H0 ++ (slB (cInt .i64) 3 r.1 ++ slB (cInt .i64) 3 r.2)) []:=by
 refine pt_new okM F65d (by exact Nat.le_of_ble_eq_true rfl) ?_ hro
 intro c hnt hnb hcr
 have hcn:c.ro ≤ c.nb:=by omega
 have l0:x0 ≠ none → b0 < c.nb:=fun h=>by rw [hnb]; exact h0.lt h
 have iv:Iv c.nb [] H0 H0:=by rw [hnb]; exact iv_refl
 rw [show args0 [(vAgg [slV x0 b0])] = [(0,(vAgg [slV x0 b0]))] from rfl]
 rw [b_ek] at hm
 simp only [C.f65,C.f65b0]
 refine tk_os okM hok fun J hJ=>?_
 obtain ⟨b2,H3,a4,f5,q6,r7,x8,i9⟩:=bx_ok (M:=Mt) (t:=37) (u:=(vAgg [(slV x0 b0)])) (cs:=[(slV x0 b0)]) H0 iv.le T.sz37 vAgg_cells one_sl
 have i10:=i9 _ _ iv
 simp only [C.f65r0,R,Nat.reduceEqDiff,a4]
 refine hJ _ ?_
 refine tk_os okM hok fun J hJ=>?_
 have a12:=ld_one (M:=Mt) (t:=35) (off:=0 + 0) f5 T.ag35 Seg.refl
 obtain ⟨l13,el13,hm⟩:=bind_s hm
 obtain ⟨b14,H15,a16,f17,q18,r19,x20,i21⟩:=mk_ok (M:=Mt) (t:=100) (e:=3) (k:=.i64) (k':=.i64) H3 i10.le Tryz.underlying100 T.by3 zs3 el13
 have i22:=i21 _ _ i10
 have f23:=x20 _ _ f5
 have a25:=ld_one (M:=Mt) (t:=35) (off:=0 + 0) f23 T.ag35 Seg.refl
 obtain ⟨b26,H27,a28,f29,q30,r31,x32,i33⟩:=mk_ok (M:=Mt) (t:=100) (e:=3) (k:=.i64) (k':=.i64) H15 i22.le Tryz.underlying100 T.by3 zs3 el13
 have i34:=i33 _ _ i22
 have f35:=x32 _ _ f23
 have f36:=f17.ex x32
 simp only [C.f65r1,R,Nat.reduceEqDiff,s_pt,s_gt,isW,Bool.false_eq_true,if_false,if_true,reduceIte,fa37_0,a12,ln35,o_makeSlice,a16,a25,a28]
 refine hJ _ ?_
 refine tk_seq_k fun K n38 x39=>?_
 refine tk_os okM hok fun J hJ=>?_
 have a40:=ld_one (M:=Mt) (t:=35) (off:=0 + 0) f35 T.ag35 Seg.refl
 simp only [C.f65r2,R,Nat.reduceEqDiff,fa37_0,a40,ln35]
 refine hJ _ ?_
 refine tk_block_k fun K n41 e42 x43=>?_
 refine tk_loop_k (n:=n) (fun k1 ⟨σ,H,_⟩=>∃ l44 l46 x18_48 x19_49 b45 b47,b_C c_t c_r n x0 k1 l44 l46 x18_48 x19_49 = some r ∧ Lk σ 4 (slV l44 b45) ∧ Lk σ 5 (slV l46 b47) ∧ Lk σ 17 (slV x0 b0) ∧ Lk σ 18 (.int .i64 x18_48) ∧ Lk σ 19 (.int .i64 x19_49) ∧ SlO c.nb H (cInt .i64) 3 l44 b45 ∧ SlO c.nb H (cInt .i64) 3 l46 b47 ∧ (l44 ≠ none → l46 ≠ none → b45 ≠ b47) ∧ Iv c.nb [] H0 H) ?_ ?_ ?_
 ·exact ⟨l13,l13,Sl.len x0,0,b14,b26,hm,rfl,rfl,rfl,rfl,rfl,f36,f29,(fun h _=>(f17.h.ne q30) h),i34⟩
 ·rintro ⟨σ,H,d⟩ ⟨_,_,_,_,_,_,hm,_⟩
  cases hm
 ·intro k1 K n50 x51
  rintro ⟨σ64,H52,d65⟩ ⟨l44,l46,x18_48,x19_49,b45,b47,hm,h55,h56,h57,h58,h59,f60,f61,n62,i63⟩
  rw [b_C.eq_2] at hm
  refine tk_os okM hok fun J hJ=>?_
  simp only [C.f65r3,R,Nat.reduceEqDiff,h59,h58]
  refine hJ _ ?_
  refine tk_seq_k fun K n66 x67=>?_
  refine tk_cond (t:=decide (x19_49 < x18_48)) rfl (fun g68=>?_) (fun g68=>?_)
  ·replace hm:=cond_t hm g68
   refine tk_skip okM ?_
   refine n66 _ ?_
   refine tk_seq_j (fun ⟨σ,H,_⟩=>∃ l69 l71 x18_73 x19_74 b70 b72,b_A c_t c_r n (b_C c_t c_r n x0 k1) x0 l69 l71 x18_73 x19_74 = some r ∧ Lk σ 4 (slV l69 b70) ∧ Lk σ 5 (slV l71 b72) ∧ Lk σ 17 (slV x0 b0) ∧ Lk σ 18 (.int .i64 x18_73) ∧ Lk σ 19 (.int .i64 x19_74) ∧ SlO c.nb H (cInt .i64) 3 l69 b70 ∧ SlO c.nb H (cInt .i64) 3 l71 b72 ∧ (l69 ≠ none → l71 ≠ none → b70 ≠ b72) ∧ Iv c.nb [] H0 H) ?_ ?_
   ·skip
    rintro ⟨σ87,H75,d88⟩ ⟨l69,l71,x18_73,x19_74,b70,b72,hm,h78,h79,h80,h81,h82,f83,f84,n85,i86⟩
    rw [b_A] at hm
    refine tk_oe okM hok fun J hJ=>?_
    simp only [C.f65r21,R,Nat.reduceEqDiff,h82]
    refine hJ _ ?_
    refine n50 _ ?_
    exact ⟨l69,l71,x18_73,IntKind.i64.wrap (x19_74 + 1),b70,b72,hm,h78,h79,h80,h81,rfl,f83,f84,n85,i86⟩
   ·refine fun K n89 x90=>?_
    refine tk_block_k fun K n91 e92 x93=>?_
    refine tk_os okM hok fun J hJ=>?_
    obtain ⟨j94,ej94,hm⟩:=bind_s hm
    obtain ⟨mm95,k96⟩:=(h0.iv l0 (fun _=>by simp) i63).blk (ck_lt ej94).1
    have a97:=lds_agg (M:=Mt) (t:=72) k96 T.ag72 (by rw [S_a.enc.len]; exact T.sz72) (seg_sl S_a.enc.len mm95 (ck_lt ej94).1)
    obtain ⟨b98,H99,a100,f101,q102,r103,x104,i105⟩:=al_ok H52 72 (S_a.c S_a.zero) i63.le
    have i106:=i105 _ _ i63
    have f107:=f60.ex x104
    have f108:=f61.ex x104
    obtain ⟨H110,a111,f112,u113⟩:=st_ok (M:=Mt) (t:=72) (v:=(vAgg (S_a.c (Sl.nth x0 j94)))) (c:=S_a.c (Sl.nth x0 j94)) (cs':=S_a.c (Sl.nth x0 j94)) f101 (by rw [S_a.enc.len]; exact T.sz72) vAgg_cells (S_a.enc.one _) (Nat.le_trans hcn r103) (le0 S_a.enc.len) (wrs_all (eqL S_a.enc.len))
    have i114:=i106.up u113 r103
    have f115:=f107.up u113 (f60.h.ne q102)
    have f116:=f108.up u113 (f61.h.ne q102)
    simp only [C.f65r4,R,Nat.reduceEqDiff,h59,ia35,ej94,h57,a97,zs72,a100,a111]
    refine hJ _ ?_
    refine tk_os okM hok fun J hJ=>?_
    have a117:=ld_one (M:=Mt) (t:=3) f112 T.ag3 (Seg.refl.sub (S_a.seg0 (Sl.nth x0 j94)))
    simp only [C.f65r5,R,Nat.reduceEqDiff,fa72_0,a117]
    refine hJ _ ?_
    refine tk_block_k fun K n118 e119 x120=>?_
    refine tk_os okM hok fun J hJ=>?_
    simp only [C.f65r6,R,Nat.reduceEqDiff]
    refine hJ _ ?_
    refine tk_cond (t:=decide (((Sl.nth x0 j94).f_Kind) = 1)) rfl (fun g121=>?_) (fun g121=>?_)
    ·replace hm:=cond_t hm g121
     refine tk_oe okM hok fun J hJ=>?_
     obtain ⟨j122,ej122,hm⟩:=bind_s hm
     obtain ⟨H123,a124,f125,u126⟩:=st_sl0 (M:=Mt) (t:=3) (v:=(.int .i64 (1))) (y:=1) enc_int.len f115 (ck_lt ej122).1 (by rw [enc_int.len]; exact T.sz3) rfl (enc_int.one _) hcn
     have i127:=i114.up u126 (f115.some (ck_lt ej122).1).1
     have z128:l44 ≠ none:=sl_some (j:=j122) (ck_lt ej122).1
     have f129:=f116.up u126 (fun h=>(fun h h'=>(n62 h' h).symm) h z128)
     have f130:=(u126.get _ ((f60.h.ne q102) z128).symm).trans f112
     obtain ⟨j131,ej131,hm⟩:=bind_s hm
     obtain ⟨H132,a133,f134,u135⟩:=st_sl0 (M:=Mt) (t:=3) (v:=(.int .i64 (1))) (y:=1) enc_int.len f129 (ck_lt ej131).1 (by rw [enc_int.len]; exact T.sz3) rfl (enc_int.one _) hcn
     have i136:=i127.up u135 (f129.some (ck_lt ej131).1).1
     have z137:l46 ≠ none:=sl_some (j:=j131) (ck_lt ej131).1
     have f138:=f125.up u135 (fun h=>(fun h=>(fun h h'=>n62 (by simpa only [Sl.put_none,Sl.copy_none] using h) (by simpa only [Sl.put_none,Sl.copy_none] using h')) h z137) (by simpa only [Sl.put_none,Sl.copy_none] using h))
     have f139:=(u135.get _ ((f61.h.ne q102) z137).symm).trans f130
     simp only [C.f65r7,R,Nat.reduceEqDiff,h55,h56,ia100,ej122,a124,ej131,a133]
     refine hJ _ ?_
     refine n118 _ ?_
     refine n91 _ ?_
     refine n89 _ ?_
     exact ⟨Sl.put l44 j122 1,Sl.put l46 j131 1,x18_48,x19_49,b45,b47,hm,(lk_eq (by simp only [slV_put,slV_copy]) h55),(lk_eq (by simp only [slV_put,slV_copy]) h56),h57,h58,h59,f138,f134,(fun h h'=>n62 (by simpa only [Sl.put_none,Sl.copy_none] using h) (by simpa only [Sl.put_none,Sl.copy_none] using h')),i136⟩
    ·replace hm:=cond_f hm g121
     refine tk_os okM hok fun J hJ=>?_
     simp only [C.f65r8,R,Nat.reduceEqDiff]
     refine hJ _ ?_
     refine tk_cond (t:=decide (((Sl.nth x0 j94).f_Kind) = 12)) rfl (fun g140=>?_) (fun g140=>?_)
     ·replace hm:=cond_t hm g140
      refine tk_oe okM hok fun J hJ=>?_
      obtain ⟨j141,ej141,hm⟩:=bind_s hm
      obtain ⟨H142,a143,f144,u145⟩:=st_sl0 (M:=Mt) (t:=3) (v:=(.int .i64 ((-1)))) (y:=((-1))) enc_int.len f116 (ck_lt ej141).1 (by rw [enc_int.len]; exact T.sz3) rfl (enc_int.one _) hcn
      have i146:=i114.up u145 (f116.some (ck_lt ej141).1).1
      have z147:l46 ≠ none:=sl_some (j:=j141) (ck_lt ej141).1
      have f148:=f115.up u145 (fun h=>n62 h z147)
      have f149:=(u145.get _ ((f61.h.ne q102) z147).symm).trans f112
      simp only [C.f65r9,R,Nat.reduceEqDiff,h56,ia100,ej141,a143]
      refine hJ _ ?_
      refine n118 _ ?_
      refine n91 _ ?_
      refine n89 _ ?_
      exact ⟨l44,Sl.put l46 j141 ((-1)),x18_48,x19_49,b45,b47,hm,h55,(lk_eq (by simp only [slV_put,slV_copy]) h56),h57,h58,h59,f148,f144,(fun h h'=>n62 (by simpa only [Sl.put_none,Sl.copy_none] using h) (by simpa only [Sl.put_none,Sl.copy_none] using h')),i146⟩
     ·replace hm:=cond_f hm g140
      refine tk_os okM hok fun J hJ=>?_
      simp only [C.f65r10,R,Nat.reduceEqDiff]
      refine hJ _ ?_
      refine tk_cond (t:=decide (((Sl.nth x0 j94).f_Kind) = 8)) rfl (fun g150=>?_) (fun g150=>?_)
      ·replace hm:=cond_t hm g150
       refine tk_oe okM hok fun J hJ=>?_
       have a151:=ld_one (M:=Mt) (t:=3) f112 T.ag3 (Seg.refl.sub (S_a.seg1 (Sl.nth x0 j94)))
       obtain ⟨j152,ej152,hm⟩:=bind_s hm
       obtain ⟨mm153,k154⟩:=f115.h.blk (ck_lt ej152).1
       have a155:=lds_one (M:=Mt) (t:=3) k154 T.ag3 (seg_sl enc_int.len mm153 (ck_lt ej152).1)
       have a156:=ld_one (M:=Mt) (t:=3) f112 T.ag3 (Seg.refl.sub (S_a.seg2 (Sl.nth x0 j94)))
       obtain ⟨j157,ej157,hm⟩:=bind_s hm
       obtain ⟨mm158,k159⟩:=f115.h.blk (ck_lt ej157).1
       have a160:=lds_one (M:=Mt) (t:=3) k159 T.ag3 (seg_sl enc_int.len mm158 (ck_lt ej157).1)
       obtain ⟨v162,ev162,hm⟩:=bind_s hm
       have a161:=z_gf H110.length H110 (Sl.nth l44 j152) (Sl.nth l44 j157) v162 ev162
       have a163:=ld_one (M:=Mt) (t:=3) f112 T.ag3 (Seg.refl.sub (S_a.seg1 (Sl.nth x0 j94)))
       obtain ⟨j164,ej164,hm⟩:=bind_s hm
       obtain ⟨mm165,k166⟩:=f116.h.blk (ck_lt ej164).1
       have a167:=lds_one (M:=Mt) (t:=3) k166 T.ag3 (seg_sl enc_int.len mm165 (ck_lt ej164).1)
       have a168:=ld_one (M:=Mt) (t:=3) f112 T.ag3 (Seg.refl.sub (S_a.seg2 (Sl.nth x0 j94)))
       obtain ⟨j169,ej169,hm⟩:=bind_s hm
       obtain ⟨mm170,k171⟩:=f116.h.blk (ck_lt ej169).1
       have a172:=lds_one (M:=Mt) (t:=3) k171 T.ag3 (seg_sl enc_int.len mm170 (ck_lt ej169).1)
       obtain ⟨v174,ev174,hm⟩:=bind_s hm
       have a173:=z_gf H110.length H110 (Sl.nth l46 j164) (Sl.nth l46 j169) v174 ev174
       obtain ⟨j175,ej175,hm⟩:=bind_s hm
       obtain ⟨H176,a177,f178,u179⟩:=st_sl0 (M:=Mt) (t:=3) (v:=(.int .i64 (v162))) (y:=v162) enc_int.len f115 (ck_lt ej175).1 (by rw [enc_int.len]; exact T.sz3) rfl (enc_int.one _) hcn
       have i180:=i114.up u179 (f115.some (ck_lt ej175).1).1
       have z181:l44 ≠ none:=sl_some (j:=j175) (ck_lt ej175).1
       have f182:=f116.up u179 (fun h=>(fun h h'=>(n62 h' h).symm) h z181)
       have f183:=(u179.get _ ((f60.h.ne q102) z181).symm).trans f112
       obtain ⟨j184,ej184,hm⟩:=bind_s hm
       obtain ⟨H185,a186,f187,u188⟩:=st_sl0 (M:=Mt) (t:=3) (v:=(.int .i64 (v174))) (y:=v174) enc_int.len f182 (ck_lt ej184).1 (by rw [enc_int.len]; exact T.sz3) rfl (enc_int.one _) hcn
       have i189:=i180.up u188 (f182.some (ck_lt ej184).1).1
       have z190:l46 ≠ none:=sl_some (j:=j184) (ck_lt ej184).1
       have f191:=f178.up u188 (fun h=>(fun h=>(fun h h'=>n62 (by simpa only [Sl.put_none,Sl.copy_none] using h) (by simpa only [Sl.put_none,Sl.copy_none] using h')) h z190) (by simpa only [Sl.put_none,Sl.copy_none] using h))
       have f192:=(u188.get _ ((f61.h.ne q102) z190).symm).trans f183
       simp only [C.f65r11,R,Nat.reduceEqDiff,s_pt,s_gt,isW,Bool.false_eq_true,if_false,if_true,reduceIte,h55,h56,fa72_1,a151,ia100,ej152,a155,fa72_2,a156,ej157,a160,c_fn F99,a161,a163,ej164,a167,a168,ej169,a172,a173,ej175,a177,ej184,a186]
       refine hJ _ ?_
       refine n118 _ ?_
       refine n91 _ ?_
       refine n89 _ ?_
       exact ⟨Sl.put l44 j175 v162,Sl.put l46 j184 v174,x18_48,x19_49,b45,b47,hm,(lk_eq (by simp only [slV_put,slV_copy]) h55),(lk_eq (by simp only [slV_put,slV_copy]) h56),h57,h58,h59,f191,f187,(fun h h'=>n62 (by simpa only [Sl.put_none,Sl.copy_none] using h) (by simpa only [Sl.put_none,Sl.copy_none] using h')),i189⟩
      ·replace hm:=cond_f hm g150
       refine tk_os okM hok fun J hJ=>?_
       simp only [C.f65r12,R,Nat.reduceEqDiff]
       refine hJ _ ?_
       refine tk_cond (t:=decide (((Sl.nth x0 j94).f_Kind) = 9)) rfl (fun g193=>?_) (fun g193=>?_)
       ·replace hm:=cond_t hm g193
        refine tk_os okM hok fun J hJ=>?_
        have a194:=ld_one (M:=Mt) (t:=3) f112 T.ag3 (Seg.refl.sub (S_a.seg1 (Sl.nth x0 j94)))
        obtain ⟨j195,ej195,hm⟩:=bind_s hm
        obtain ⟨mm196,k197⟩:=f115.h.blk (ck_lt ej195).1
        have a198:=lds_one (M:=Mt) (t:=3) k197 T.ag3 (seg_sl enc_int.len mm196 (ck_lt ej195).1)
        have a199:=ld_one (M:=Mt) (t:=3) f112 T.ag3 (Seg.refl.sub (S_a.seg2 (Sl.nth x0 j94)))
        obtain ⟨j200,ej200,hm⟩:=bind_s hm
        obtain ⟨mm201,k202⟩:=f115.h.blk (ck_lt ej200).1
        have a203:=lds_one (M:=Mt) (t:=3) k202 T.ag3 (seg_sl enc_int.len mm201 (ck_lt ej200).1)
        have a204:=ld_one (M:=Mt) (t:=3) f112 T.ag3 (Seg.refl.sub (S_a.seg1 (Sl.nth x0 j94)))
        obtain ⟨j205,ej205,hm⟩:=bind_s hm
        obtain ⟨mm206,k207⟩:=f116.h.blk (ck_lt ej205).1
        have a208:=lds_one (M:=Mt) (t:=3) k207 T.ag3 (seg_sl enc_int.len mm206 (ck_lt ej205).1)
        have a209:=ld_one (M:=Mt) (t:=3) f112 T.ag3 (Seg.refl.sub (S_a.seg2 (Sl.nth x0 j94)))
        obtain ⟨j210,ej210,hm⟩:=bind_s hm
        obtain ⟨mm211,k212⟩:=f116.h.blk (ck_lt ej210).1
        have a213:=lds_one (M:=Mt) (t:=3) k212 T.ag3 (seg_sl enc_int.len mm211 (ck_lt ej210).1)
        obtain ⟨j214,ej214,hm⟩:=bind_s hm
        obtain ⟨H215,a216,f217,u218⟩:=st_sl0 (M:=Mt) (t:=3) (v:=(.int .i64 (min (Sl.nth l44 j195) (Sl.nth l44 j200)))) (y:=(min (Sl.nth l44 j195) (Sl.nth l44 j200))) enc_int.len f115 (ck_lt ej214).1 (by rw [enc_int.len]; exact T.sz3) rfl (enc_int.one _) hcn
        have i219:=i114.up u218 (f115.some (ck_lt ej214).1).1
        have z220:l44 ≠ none:=sl_some (j:=j214) (ck_lt ej214).1
        have f221:=f116.up u218 (fun h=>(fun h h'=>(n62 h' h).symm) h z220)
        have f222:=(u218.get _ ((f60.h.ne q102) z220).symm).trans f112
        obtain ⟨j223,ej223,hm⟩:=bind_s hm
        obtain ⟨H224,a225,f226,u227⟩:=st_sl0 (M:=Mt) (t:=3) (v:=(.int .i64 (max (Sl.nth l46 j205) (Sl.nth l46 j210)))) (y:=(max (Sl.nth l46 j205) (Sl.nth l46 j210))) enc_int.len f221 (ck_lt ej223).1 (by rw [enc_int.len]; exact T.sz3) rfl (enc_int.one _) hcn
        have i228:=i219.up u227 (f221.some (ck_lt ej223).1).1
        have z229:l46 ≠ none:=sl_some (j:=j223) (ck_lt ej223).1
        have f230:=f217.up u227 (fun h=>(fun h=>(fun h h'=>n62 (by simpa only [Sl.put_none,Sl.copy_none] using h) (by simpa only [Sl.put_none,Sl.copy_none] using h')) h z229) (by simpa only [Sl.put_none,Sl.copy_none] using h))
        have f231:=(u227.get _ ((f61.h.ne q102) z229).symm).trans f222
        simp only [C.f65r13,R,Nat.reduceEqDiff,s_pt,s_gt,isW,Bool.false_eq_true,if_false,if_true,reduceIte,h55,h56,fa72_1,a194,ia100,ej195,a198,fa72_2,a199,ej200,a203,a204,ej205,a208,a209,ej210,a213,ej214,a216,ej223,a225]
        refine hJ _ ?_
        refine tk_os okM hok fun J hJ=>?_
        have a232:=ld_one (M:=Mt) (t:=3) f231 T.ag3 (Seg.refl.sub (S_a.seg1 (Sl.nth x0 j94)))
        obtain ⟨mm233,k234⟩:=f226.h.blk (by simp only [Sl.put_len,Sl.copy_len]; exact (ck_lt ej205).1)
        have a235:=lds_one (M:=Mt) (t:=3) k234 T.ag3 (seg_sl enc_int.len mm233 (by simp only [Sl.put_len,Sl.copy_len]; exact (ck_lt ej205).1))
        have a236:=ld_one (M:=Mt) (t:=3) f231 T.ag3 (Seg.refl.sub (S_a.seg2 (Sl.nth x0 j94)))
        obtain ⟨mm237,k238⟩:=f226.h.blk (by simp only [Sl.put_len,Sl.copy_len]; exact (ck_lt ej210).1)
        have a239:=lds_one (M:=Mt) (t:=3) k238 T.ag3 (seg_sl enc_int.len mm237 (by simp only [Sl.put_len,Sl.copy_len]; exact (ck_lt ej210).1))
        simp only [C.f65r14,R,Nat.reduceEqDiff,s_pt,s_gt,isW,Bool.false_eq_true,if_false,if_true,reduceIte,h56,fa72_1,a232,ia100,ej205,a235,fa72_2,a236,ej210,a239]
        refine hJ _ ?_
        refine tk_cond (t:=decide ((min (Sl.nth (Sl.put l46 j223 (max (Sl.nth l46 j205) (Sl.nth l46 j210))) j205) (Sl.nth (Sl.put l46 j223 (max (Sl.nth l46 j205) (Sl.nth l46 j210))) j210)) = ((-1)))) rfl (fun g240=>?_) (fun g240=>?_)
        ·replace hm:=cond_t hm g240
         refine tk_oe okM hok fun J hJ=>?_
         obtain ⟨H241,a242,f243,u244⟩:=st_sl0 (M:=Mt) (t:=3) (v:=(.int .i64 ((-1)))) (y:=((-1))) enc_int.len f226 (by simp only [Sl.put_len,Sl.copy_len]; exact (ck_lt ej223).1) (by rw [enc_int.len]; exact T.sz3) rfl (enc_int.one _) hcn
         have i245:=i228.up u244 (f226.some (by simp only [Sl.put_len,Sl.copy_len]; exact (ck_lt ej223).1)).1
         have z246:(Sl.put l46 j223 (max (Sl.nth l46 j205) (Sl.nth l46 j210))) ≠ none:=sl_some (j:=j223) (by simp only [Sl.put_len,Sl.copy_len]; exact (ck_lt ej223).1)
         have f247:=f230.up u244 (fun h=>(fun h=>(fun h h'=>n62 (by simpa only [Sl.put_none,Sl.copy_none] using h) (by simpa only [Sl.put_none,Sl.copy_none] using h')) h z246) (by simpa only [Sl.put_none,Sl.copy_none] using h))
         simp only [C.f65r15,R,Nat.reduceEqDiff,h56,ia100,ej223,a242]
         refine hJ _ ?_
         refine n118 _ ?_
         refine n91 _ ?_
         refine n89 _ ?_
         exact ⟨Sl.put l44 j214 (min (Sl.nth l44 j195) (Sl.nth l44 j200)),Sl.put (Sl.put l46 j223 (max (Sl.nth l46 j205) (Sl.nth l46 j210))) j223 ((-1)),x18_48,x19_49,b45,b47,hm,(lk_eq (by simp only [slV_put,slV_copy]) h55),(lk_eq (by simp only [slV_put,slV_copy]) h56),h57,h58,h59,f247,f243,(fun h h'=>n62 (by simpa only [Sl.put_none,Sl.copy_none] using h) (by simpa only [Sl.put_none,Sl.copy_none] using h')),i245⟩
        ·replace hm:=cond_f hm g240
         refine tk_skip okM ?_
         refine n118 _ ?_
         refine n91 _ ?_
         refine n89 _ ?_
         exact ⟨Sl.put l44 j214 (min (Sl.nth l44 j195) (Sl.nth l44 j200)),Sl.put l46 j223 (max (Sl.nth l46 j205) (Sl.nth l46 j210)),x18_48,x19_49,b45,b47,hm,(lk_eq (by simp only [slV_put,slV_copy]) h55),(lk_eq (by simp only [slV_put,slV_copy]) h56),h57,h58,h59,f230,f226,(fun h h'=>n62 (by simpa only [Sl.put_none,Sl.copy_none] using h) (by simpa only [Sl.put_none,Sl.copy_none] using h')),i228⟩
       ·replace hm:=cond_f hm g193
        refine tk_os okM hok fun J hJ=>?_
        simp only [C.f65r16,R,Nat.reduceEqDiff]
        refine hJ _ ?_
        refine tk_cond (t:=decide (((Sl.nth x0 j94).f_Kind) = 10)) rfl (fun g248=>?_) (fun g248=>?_)
        ·replace hm:=cond_t hm g248
         refine tk_oe okM hok fun J hJ=>?_
         have a249:=ld_one (M:=Mt) (t:=3) f112 T.ag3 (Seg.refl.sub (S_a.seg1 (Sl.nth x0 j94)))
         obtain ⟨j250,ej250,hm⟩:=bind_s hm
         obtain ⟨mm251,k252⟩:=f115.h.blk (ck_lt ej250).1
         have a253:=lds_one (M:=Mt) (t:=3) k252 T.ag3 (seg_sl enc_int.len mm251 (ck_lt ej250).1)
         have a254:=ld_one (M:=Mt) (t:=3) f112 T.ag3 (Seg.refl.sub (S_a.seg4 (Sl.nth x0 j94)))
         obtain ⟨v256,ev256,hm⟩:=bind_s hm
         have a255:=z_fR H110.length H110 (Sl.nth l44 j250) ((Sl.nth x0 j94).f_Min) v256 ev256
         have a257:=ld_one (M:=Mt) (t:=3) f112 T.ag3 (Seg.refl.sub (S_a.seg1 (Sl.nth x0 j94)))
         obtain ⟨j258,ej258,hm⟩:=bind_s hm
         obtain ⟨mm259,k260⟩:=f116.h.blk (ck_lt ej258).1
         have a261:=lds_one (M:=Mt) (t:=3) k260 T.ag3 (seg_sl enc_int.len mm259 (ck_lt ej258).1)
         have a262:=ld_one (M:=Mt) (t:=3) f112 T.ag3 (Seg.refl.sub (S_a.seg5 (Sl.nth x0 j94)))
         obtain ⟨v264,ev264,hm⟩:=bind_s hm
         have a263:=z_fR H110.length H110 (Sl.nth l46 j258) ((Sl.nth x0 j94).f_Max) v264 ev264
         obtain ⟨j265,ej265,hm⟩:=bind_s hm
         obtain ⟨H266,a267,f268,u269⟩:=st_sl0 (M:=Mt) (t:=3) (v:=(.int .i64 (v256))) (y:=v256) enc_int.len f115 (ck_lt ej265).1 (by rw [enc_int.len]; exact T.sz3) rfl (enc_int.one _) hcn
         have i270:=i114.up u269 (f115.some (ck_lt ej265).1).1
         have z271:l44 ≠ none:=sl_some (j:=j265) (ck_lt ej265).1
         have f272:=f116.up u269 (fun h=>(fun h h'=>(n62 h' h).symm) h z271)
         have f273:=(u269.get _ ((f60.h.ne q102) z271).symm).trans f112
         obtain ⟨j274,ej274,hm⟩:=bind_s hm
         obtain ⟨H275,a276,f277,u278⟩:=st_sl0 (M:=Mt) (t:=3) (v:=(.int .i64 (v264))) (y:=v264) enc_int.len f272 (ck_lt ej274).1 (by rw [enc_int.len]; exact T.sz3) rfl (enc_int.one _) hcn
         have i279:=i270.up u278 (f272.some (ck_lt ej274).1).1
         have z280:l46 ≠ none:=sl_some (j:=j274) (ck_lt ej274).1
         have f281:=f268.up u278 (fun h=>(fun h=>(fun h h'=>n62 (by simpa only [Sl.put_none,Sl.copy_none] using h) (by simpa only [Sl.put_none,Sl.copy_none] using h')) h z280) (by simpa only [Sl.put_none,Sl.copy_none] using h))
         have f282:=(u278.get _ ((f61.h.ne q102) z280).symm).trans f273
         simp only [C.f65r17,R,Nat.reduceEqDiff,s_pt,s_gt,isW,Bool.false_eq_true,if_false,if_true,reduceIte,h55,h56,fa72_1,a249,ia100,ej250,a253,fa72_4,a254,c_fn F100,a255,a257,ej258,a261,fa72_5,a262,a263,ej265,a267,ej274,a276]
         refine hJ _ ?_
         refine n118 _ ?_
         refine n91 _ ?_
         refine n89 _ ?_
         exact ⟨Sl.put l44 j265 v256,Sl.put l46 j274 v264,x18_48,x19_49,b45,b47,hm,(lk_eq (by simp only [slV_put,slV_copy]) h55),(lk_eq (by simp only [slV_put,slV_copy]) h56),h57,h58,h59,f281,f277,(fun h h'=>n62 (by simpa only [Sl.put_none,Sl.copy_none] using h) (by simpa only [Sl.put_none,Sl.copy_none] using h')),i279⟩
        ·replace hm:=cond_f hm g248
         refine tk_seq_j (fun ⟨σ,H,_⟩=>∃ l283 l285 x6_287 x288 x18_289 x19_290 x138_291 b284 b286,b_bX c_t c_r n (b_C c_t c_r n x0 k1) x0 l283 l285 x6_287 x288 x18_289 x19_290 x138_291 = some r ∧ Lk σ 4 (slV l283 b284) ∧ Lk σ 5 (slV l285 b286) ∧ Lk σ 6 (.int .i64 x6_287) ∧ Lk σ 7 (.pointer (some ⟨b98,0,none⟩)) ∧ Lk σ 17 (slV x0 b0) ∧ Lk σ 18 (.int .i64 x18_289) ∧ Lk σ 19 (.int .i64 x19_290) ∧ Lk σ 138 (.bool x138_291) ∧ SlO c.nb H (cInt .i64) 3 l283 b284 ∧ SlO c.nb H (cInt .i64) 3 l285 b286 ∧ H[b98]? = some (.cells (S_a.c x288) 72) ∧ (l283 ≠ none → b284 ≠ b98) ∧ (l285 ≠ none → b286 ≠ b98) ∧ (l283 ≠ none → l285 ≠ none → b284 ≠ b286) ∧ Iv c.nb [] H0 H) ?_ ?_
         ·skip
          rintro ⟨σ310,H292,d311⟩ ⟨l283,l285,x6_287,x288,x18_289,x19_290,x138_291,b284,b286,hm,h295,h296,h297,h298,h299,h300,h301,h302,f303,f304,f305,n306,n307,n308,i309⟩
          rw [b_bX] at hm
          refine tk_cond (t:=x138_291) h302 (fun g312=>?_) (fun g312=>?_)
          ·replace hm:=cond_t hm g312
           refine tk_oe okM hok fun J hJ=>?_
           have a313:=ld_one (M:=Mt) (t:=3) f305 T.ag3 (Seg.refl.sub (S_a.seg1 x288))
           obtain ⟨j314,ej314,hm⟩:=bind_s hm
           obtain ⟨mm315,k316⟩:=f303.h.blk (ck_lt ej314).1
           have a317:=lds_one (M:=Mt) (t:=3) k316 T.ag3 (seg_sl enc_int.len mm315 (ck_lt ej314).1)
           have a318:=ld_one (M:=Mt) (t:=3) f305 T.ag3 (Seg.refl.sub (S_a.seg1 x288))
           obtain ⟨j319,ej319,hm⟩:=bind_s hm
           obtain ⟨mm320,k321⟩:=f304.h.blk (ck_lt ej319).1
           have a322:=lds_one (M:=Mt) (t:=3) k321 T.ag3 (seg_sl enc_int.len mm320 (ck_lt ej319).1)
           obtain ⟨j323,ej323,hm⟩:=bind_s hm
           obtain ⟨H324,a325,f326,u327⟩:=st_sl0 (M:=Mt) (t:=3) (v:=(.int .i64 (Sl.nth l283 j314))) (y:=(Sl.nth l283 j314)) enc_int.len f303 (ck_lt ej323).1 (by rw [enc_int.len]; exact T.sz3) rfl (enc_int.one _) hcn
           have i328:=i309.up u327 (f303.some (ck_lt ej323).1).1
           have z329:l283 ≠ none:=sl_some (j:=j323) (ck_lt ej323).1
           have f330:=f304.up u327 (fun h=>(fun h h'=>(n308 h' h).symm) h z329)
           have f331:=(u327.get _ (n306 z329).symm).trans f305
           obtain ⟨j332,ej332,hm⟩:=bind_s hm
           obtain ⟨H333,a334,f335,u336⟩:=st_sl0 (M:=Mt) (t:=3) (v:=(.int .i64 (Sl.nth l285 j319))) (y:=(Sl.nth l285 j319)) enc_int.len f330 (ck_lt ej332).1 (by rw [enc_int.len]; exact T.sz3) rfl (enc_int.one _) hcn
           have i337:=i328.up u336 (f330.some (ck_lt ej332).1).1
           have z338:l285 ≠ none:=sl_some (j:=j332) (ck_lt ej332).1
           have f339:=f326.up u336 (fun h=>(fun h=>(fun h h'=>n308 (by simpa only [Sl.put_none,Sl.copy_none] using h) (by simpa only [Sl.put_none,Sl.copy_none] using h')) h z338) (by simpa only [Sl.put_none,Sl.copy_none] using h))
           have f340:=(u336.get _ (n307 z338).symm).trans f331
           simp only [C.f65r20,R,Nat.reduceEqDiff,s_pt,s_gt,isW,Bool.false_eq_true,if_false,if_true,reduceIte,h295,h297,h296,fa72_1,h298,a313,ia100,ej314,a317,a318,ej319,a322,ej323,a325,ej332,a334]
           refine hJ _ ?_
           refine n118 _ ?_
           refine n91 _ ?_
           refine n89 _ ?_
           exact ⟨Sl.put l283 j323 (Sl.nth l283 j314),Sl.put l285 j332 (Sl.nth l285 j319),x18_289,x19_290,b284,b286,hm,(lk_eq (by simp only [slV_put,slV_copy]) h295),(lk_eq (by simp only [slV_put,slV_copy]) h296),h299,h300,h301,f339,f335,(fun h h'=>n308 (by simpa only [Sl.put_none,Sl.copy_none] using h) (by simpa only [Sl.put_none,Sl.copy_none] using h')),i337⟩
          ·replace hm:=cond_f hm g312
           refine tk_skip okM ?_
           refine n118 _ ?_
           refine n91 _ ?_
           refine n89 _ ?_
           exact ⟨l283,l285,x18_289,x19_290,b284,b286,hm,h295,h296,h299,h300,h301,f303,f304,n308,i309⟩
         ·refine fun K n341 x342=>?_
          refine tk_os okM hok fun J hJ=>?_
          simp only [C.f65r18,R,Nat.reduceEqDiff]
          refine hJ _ ?_
          refine tk_cond (t:=decide (((Sl.nth x0 j94).f_Kind) = 11)) rfl (fun g343=>?_) (fun g343=>?_)
          ·replace hm:=cond_t hm g343
           refine tk_skip okM ?_
           refine n341 _ ?_
           exact ⟨l44,l46,x19_49,Sl.nth x0 j94,x18_48,x19_49,decide (((Sl.nth x0 j94).f_Kind) = 11),b45,b47,hm,h55,h56,rfl,rfl,h57,h58,h59,rfl,f115,f116,f112,(f60.h.ne q102),(f61.h.ne q102),n62,i114⟩
          ·replace hm:=cond_f hm g343
           refine tk_oe okM hok fun J hJ=>?_
           simp only [C.f65r19,R,Nat.reduceEqDiff]
           refine hJ _ ?_
           refine n341 _ ?_
           exact ⟨l44,l46,x19_49,Sl.nth x0 j94,x18_48,x19_49,decide (((Sl.nth x0 j94).f_Kind) = 17),b45,b47,hm,h55,h56,rfl,rfl,h57,h58,h59,rfl,f115,f116,f112,(f60.h.ne q102),(f61.h.ne q102),n62,i114⟩
  ·replace hm:=cond_f hm g68
   refine tk_exit okM ?_
   refine x67 _ _ (by simp) ?_
   refine x51 _ _ (by simp) ?_
   refine e42 _ ?_
   refine n38 _ ?_
   refine tk_os okM hok fun J hJ=>?_
   simp only [C.f65r22,R,Nat.reduceEqDiff,h55,h56]
   refine hJ _ ?_
   refine tk_ret okM ?_
   obtain rfl:=Option.some.inj hm
   exact end_sl2 (nb:=H0.length) (.inl rfl) (by rw [← hnb]; exact f60) enc_int (by rw [← hnb]; exact f61) enc_int n62 (resT' (v:=(slV l44 b45)) rfl (resT' (v:=(slV l46 b47)) rfl resN))
def b_ba (n:Nat) (x7_15:Bool):Option (Int):=bif x7_15 then (some 1) else (some 0)
def b_cY (n:Nat) (x3_6:Int) (x4_7:Bool):Option (Int):=bif x4_7 then (some 2) else (bif decide (x3_6 = 10) then (b_ba n (decide (x3_6 = 10))) else (bif decide (x3_6 = 11) then (b_ba n (decide (x3_6 = 11))) else (bif decide (x3_6 = 13) then (b_ba n (decide (x3_6 = 13))) else (bif decide (x3_6 = 14) then (b_ba n (decide (x3_6 = 14))) else (bif decide (x3_6 = 15) then (b_ba n (decide (x3_6 = 15))) else (bif decide (x3_6 = 16) then (b_ba n (decide (x3_6 = 16))) else (b_ba n (decide (x3_6 = 17)))))))))
def b_ei (n:Nat) (x0:Int):Option (Int):=bif decide (x0 = 8) then (b_cY n x0 (decide (x0 = 8))) else (b_cY n x0 (decide (x0 = 9)))
theorem w_ii {call:CallF} (hok:CallOk Mt call) {n:Nat} {H0:Hp} {x0:Int} {r:Int} {ro:Nat} (hro:ro ≤ H0.length) (hm:b_ei n x0 = some r) :
  Pt Mt ro 66 [(.int .i64 x0)] H0 (.int .i64 (r)) H0 []:=by
 refine pt_new0 okM F66d (by exact Nat.le_of_ble_eq_true rfl) ?_ hro
 intro c hnt hnb hcr
 have hcn:c.ro ≤ c.nb:=by omega
 have iv:Iv c.nb [] H0 H0:=by rw [hnb]; exact iv_refl
 rw [show args0 [(.int .i64 x0)] = [(0,(.int .i64 x0))] from rfl]
 rw [b_ei] at hm
 simp only [C.f66]
 refine tk_os okM hok fun J hJ=>?_
 simp only [C.f66r0,R,Nat.reduceEqDiff]
 refine hJ _ ?_
 refine tk_seq_k fun K n1 x2=>?_
 refine tk_os okM hok fun J hJ=>?_
 simp only [C.f66r1,R,Nat.reduceEqDiff]
 refine hJ _ ?_
 refine tk_block_k fun K n3 e4 x5=>?_
 refine tk_seq_j (fun ⟨σ,H,_⟩=>∃ x3_6 x4_7,b_cY n x3_6 x4_7 = some r ∧ Lk σ 3 (.int .i64 x3_6) ∧ Lk σ 4 (.bool x4_7) ∧ Iv c.nb [] H0 H) ?_ ?_
 ·skip
  rintro ⟨σ12,H8,d13⟩ ⟨x3_6,x4_7,hm,h9,h10,i11⟩
  rw [b_cY] at hm
  refine tk_cond (t:=x4_7) h10 (fun g14=>?_) (fun g14=>?_)
  ·replace hm:=cond_t hm g14
   refine tk_os okM hok fun J hJ=>?_
   simp only [C.f66r4,R,Nat.reduceEqDiff]
   refine hJ _ ?_
   refine tk_ret okM ?_
   refine x5 _ _ (by simp) (by simp) ?_
   refine x2 _ _ (by simp) ?_
   obtain rfl:=Option.some.inj hm
   exact end_flat (.inl rfl) (vs:=[(.int .i64 (2))]) (resT' (v:=(.int .i64 (2))) rfl resN) (fm_cons rfl fm_nil)
  ·replace hm:=cond_f hm g14
   refine tk_seq_j (fun ⟨σ,H,_⟩=>∃ x7_15,b_ba n x7_15 = some r ∧ Lk σ 7 (.bool x7_15) ∧ Iv c.nb [] H0 H) ?_ ?_
   ·skip
    rintro ⟨σ19,H16,d20⟩ ⟨x7_15,hm,h17,i18⟩
    rw [b_ba] at hm
    refine tk_cond (t:=x7_15) h17 (fun g21=>?_) (fun g21=>?_)
    ·replace hm:=cond_t hm g21
     refine tk_os okM hok fun J hJ=>?_
     simp only [C.f66r12,R,Nat.reduceEqDiff]
     refine hJ _ ?_
     refine tk_ret okM ?_
     refine x5 _ _ (by simp) (by simp) ?_
     refine x2 _ _ (by simp) ?_
     obtain rfl:=Option.some.inj hm
     exact end_flat (.inl rfl) (vs:=[(.int .i64 (1))]) (resT' (v:=(.int .i64 (1))) rfl resN) (fm_cons rfl fm_nil)
    ·replace hm:=cond_f hm g21
     refine tk_skip okM ?_
     refine n3 _ ?_
     refine n1 _ ?_
     refine tk_os okM hok fun J hJ=>?_
     simp only [C.f66r13,R,Nat.reduceEqDiff]
     refine hJ _ ?_
     refine tk_ret okM ?_
     obtain rfl:=Option.some.inj hm
     exact end_flat (.inl rfl) (vs:=[(.int .i64 (0))]) (resT' (v:=(.int .i64 (0))) rfl resN) (fm_cons rfl fm_nil)
   ·refine fun K n22 x23=>?_
    refine tk_os okM hok fun J hJ=>?_
    simp only [C.f66r5,R,Nat.reduceEqDiff,h9]
    refine hJ _ ?_
    refine tk_cond (t:=decide (x3_6 = 10)) rfl (fun g24=>?_) (fun g24=>?_)
    ·replace hm:=cond_t hm g24
     refine tk_skip okM ?_
     refine n22 _ ?_
     exact ⟨decide (x3_6 = 10),hm,rfl,i11⟩
    ·replace hm:=cond_f hm g24
     refine tk_os okM hok fun J hJ=>?_
     simp only [C.f66r6,R,Nat.reduceEqDiff,h9]
     refine hJ _ ?_
     refine tk_cond (t:=decide (x3_6 = 11)) rfl (fun g25=>?_) (fun g25=>?_)
     ·replace hm:=cond_t hm g25
      refine tk_skip okM ?_
      refine n22 _ ?_
      exact ⟨decide (x3_6 = 11),hm,rfl,i11⟩
     ·replace hm:=cond_f hm g25
      refine tk_os okM hok fun J hJ=>?_
      simp only [C.f66r7,R,Nat.reduceEqDiff,h9]
      refine hJ _ ?_
      refine tk_cond (t:=decide (x3_6 = 13)) rfl (fun g26=>?_) (fun g26=>?_)
      ·replace hm:=cond_t hm g26
       refine tk_skip okM ?_
       refine n22 _ ?_
       exact ⟨decide (x3_6 = 13),hm,rfl,i11⟩
      ·replace hm:=cond_f hm g26
       refine tk_os okM hok fun J hJ=>?_
       simp only [C.f66r8,R,Nat.reduceEqDiff,h9]
       refine hJ _ ?_
       refine tk_cond (t:=decide (x3_6 = 14)) rfl (fun g27=>?_) (fun g27=>?_)
       ·replace hm:=cond_t hm g27
        refine tk_skip okM ?_
        refine n22 _ ?_
        exact ⟨decide (x3_6 = 14),hm,rfl,i11⟩
       ·replace hm:=cond_f hm g27
        refine tk_os okM hok fun J hJ=>?_
        simp only [C.f66r9,R,Nat.reduceEqDiff,h9]
        refine hJ _ ?_
        refine tk_cond (t:=decide (x3_6 = 15)) rfl (fun g28=>?_) (fun g28=>?_)
        ·replace hm:=cond_t hm g28
         refine tk_skip okM ?_
         refine n22 _ ?_
         exact ⟨decide (x3_6 = 15),hm,rfl,i11⟩
        ·replace hm:=cond_f hm g28
         refine tk_os okM hok fun J hJ=>?_
         simp only [C.f66r10,R,Nat.reduceEqDiff,h9]
         refine hJ _ ?_
         refine tk_cond (t:=decide (x3_6 = 16)) rfl (fun g29=>?_) (fun g29=>?_)
         ·replace hm:=cond_t hm g29
          refine tk_skip okM ?_
          refine n22 _ ?_
          exact ⟨decide (x3_6 = 16),hm,rfl,i11⟩
         ·replace hm:=cond_f hm g29
          refine tk_oe okM hok fun J hJ=>?_
          simp only [C.f66r11,R,Nat.reduceEqDiff,h9]
          refine hJ _ ?_
          refine n22 _ ?_
          exact ⟨decide (x3_6 = 17),hm,rfl,i11⟩
 ·refine fun K n30 x31=>?_
  refine tk_os okM hok fun J hJ=>?_
  simp only [C.f66r2,R,Nat.reduceEqDiff]
  refine hJ _ ?_
  refine tk_cond (t:=decide (x0 = 8)) rfl (fun g32=>?_) (fun g32=>?_)
  ·replace hm:=cond_t hm g32
   refine tk_skip okM ?_
   refine n30 _ ?_
   exact ⟨x0,decide (x0 = 8),hm,rfl,rfl,iv⟩
  ·replace hm:=cond_f hm g32
   refine tk_oe okM hok fun J hJ=>?_
   simp only [C.f66r3,R,Nat.reduceEqDiff]
   refine hJ _ ?_
   refine n30 _ ?_
   exact ⟨x0,decide (x0 = 9),hm,rfl,rfl,iv⟩
end Go.Proofs.YtaadjlpfdajggaaGreatDoor
