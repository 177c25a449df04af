import Derived.Test.YtaadjlpfdajggaaGreatDoorBtBase
set_option maxRecDepth 100000
set_option linter.unusedVariables false
set_option linter.unusedSimpArgs false
namespace Go.Proofs.YtaadjlpfdajggaaGreatDoor
open Go Go.AM
attribute [local congr] bind_first map_first
def b_dB (c_n:T_Q) (c_bb:T_cP) (c_dH:T_eB) (n:Nat) (x0:(Sl S_b)) (x1:Int):Option (Int):=(bif decide (x1 < 0) then some true else ((ck (Sl.l x0).length x1).bind fun j4=>(c_dH (Sl.nth x0 j4)).bind fun v9=>some (!v9))).bind fun y10=>bif y10 then (some 0) else ((ck (Sl.l x0).length x1).bind fun j26=>(c_n ((Sl.nth x0 j26).f_Kind)).bind fun v31=>bif decide (v31 = 0) then (bif (!decide (((Sl.nth x0 j26).f_A) = 0)) || (!decide (((Sl.nth x0 j26).f_B) = 0)) then (some 0) else (some 1)) else ((c_bb x0 (IntKind.i64.wrap (x1 - 1))).bind fun v54=>bif decide (v54 = 0) then (some 0) else (bif decide (v31 = 1) then (bif (!decide (((Sl.nth x0 j26).f_A) = (IntKind.i64.wrap (x1 - 1)))) || (!decide (((Sl.nth x0 j26).f_B) = 0)) then (some 0) else (some (IntKind.i64.wrap (v54 + 1)))) else ((c_bb x0 (IntKind.i64.wrap ((IntKind.i64.wrap (x1 - 1)) - v54))).bind fun v81=>bif ((decide (v81 = 0)) || (!decide (((Sl.nth x0 j26).f_A) = (IntKind.i64.wrap ((IntKind.i64.wrap (x1 - 1)) - v54))))) || (!decide (((Sl.nth x0 j26).f_B) = (IntKind.i64.wrap (x1 - 1)))) then (some 0) else (some (IntKind.i64.wrap ((IntKind.i64.wrap (v81 + v54)) + 1)))))))
theorem w_hY {call:CallF} (hok:CallOk Mt call) {n:Nat} {c_n:T_Q} (z_bH:A_cX call c_n) {c_bb:T_cP} (z_dg:A_ez call c_bb) {c_dH:T_eB} (z_hz:A_fP call c_dH) {H0:Hp} {x0:(Sl S_b)} {b0:Nat} {x1:Int} {r:Int} {ro:Nat} (hro:ro ≤ H0.length) (h0:SlH H0 S_b.c 97 x0 b0) (hm:b_dB c_n c_bb c_dH n x0 x1 = some r) :
  Pt Mt ro 150 [(slV x0 b0),(.int .i64 x1)] H0 (.int .i64 (r)) H0 []:=by
 refine pt_new0 okM F150d (by exact Nat.le_of_ble_eq_true rfl) ?_ hro
 intro c hnt hnb hcr
 have hcn:c.ro ≤ c.nb:=by omega
 have l0:x0 ≠ none → b0 < c.nb:=fun h=>by rw [hnb]; exact h0.lt h
 have iv:Iv c.nb [] H0 H0:=by rw [hnb]; exact iv_refl
 rw [show args0 [(slV x0 b0),(.int .i64 x1)] = [(0,(slV x0 b0)),(1,(.int .i64 x1))] from rfl]
 rw [b_dB] at hm
 simp only [C.f150]
 refine tk_os okM hok fun J hJ=>?_
 simp only [C.f150r0,R,Nat.reduceEqDiff]
 refine hJ _ ?_
 refine tk_seq_k fun K n2 x3=>?_
 refine tk_os okM hok fun J hJ=>?_
 obtain ⟨y10,ey10,hm⟩:=bind_s hm
 refine rn_k (fun ⟨σ,H,_⟩=>Lk σ 0 (slV x0 b0) ∧ Lk σ 1 (.int .i64 (x1)) ∧ Lk σ 17 (.bool (y10)) ∧ Iv c.nb [] H0 H) (fun J hJ=>?_) ?_
 ·skip
  cases g16:decide (x1 < 0)
  ·skip
   have ey10:=cond_f ey10 g16
   obtain ⟨j17,ej17,ey10⟩:=bind_s ey10
   obtain ⟨mm18,k19⟩:=(h0.iv l0 (fun _=>by simp) iv).blk (ck_lt ej17).1
   have a20:=lds_agg (M:=Mt) (t:=97) k19 T.ag97 (by rw [S_b.enc.len]; exact T.sz97) (seg_sl S_b.enc.len mm18 (ck_lt ej17).1)
   obtain ⟨v22,ev22,ey10⟩:=bind_s ey10
   have a21:=z_hz c.ro H0 (Sl.nth x0 j17) v22 ev22
   obtain rfl:=Option.some.inj ey10
   simp only [C.f150r1,R,Nat.reduceEqDiff,g16,ia39,ej17,a20,c_fn F168,a21]
   refine hJ _ ?_
   exact ⟨rfl,(by first | rfl | (simp only [g16]; rfl) | simp only [g16,Lk,RB,Nat.reduceEqDiff,not_false_eq_true]),(by first | rfl | (simp only [g16]; rfl) | simp only [g16,Lk,RB,Nat.reduceEqDiff,not_false_eq_true]),iv⟩
  ·skip
   have ey10:=cond_t ey10 g16
   obtain rfl:=Option.some.inj ey10
   simp only [C.f150r1,R,Nat.reduceEqDiff,g16]
   refine hJ _ ?_
   exact ⟨rfl,(by first | rfl | (simp only [g16]; rfl) | simp only [g16,Lk,RB,Nat.reduceEqDiff,not_false_eq_true]),(by first | rfl | (simp only [g16]; rfl) | simp only [g16,Lk,RB,Nat.reduceEqDiff,not_false_eq_true]),iv⟩
 rintro ⟨σ23,H11,d24⟩ ⟨h12,h13,h14,i15⟩
 refine hJ _ ?_
 refine tk_cond (t:=y10) h14 (fun g25=>?_) (fun g25=>?_)
 ·replace hm:=cond_t hm g25
  refine tk_os okM hok fun J hJ=>?_
  simp only [C.f150r2,R,Nat.reduceEqDiff]
  refine hJ _ ?_
  refine tk_ret okM ?_
  refine x3 _ _ (by simp) ?_
  obtain rfl:=Option.some.inj hm
  exact end_flat (.inl rfl) (vs:=[(.int .i64 (0))]) (resT' (v:=(.int .i64 (0))) rfl resN) (fm_cons rfl fm_nil)
 ·replace hm:=cond_f hm g25
  refine tk_skip okM ?_
  refine n2 _ ?_
  refine tk_os okM hok fun J hJ=>?_
  obtain ⟨j26,ej26,hm⟩:=bind_s hm
  obtain ⟨mm27,k28⟩:=(h0.iv l0 (fun _=>by simp) i15).blk (ck_lt ej26).1
  have a29:=lds_one (M:=Mt) (t:=3) k28 T.ag3 ((seg_sl S_b.enc.len mm27 (ck_lt ej26).1).sub (S_b.seg0 (Sl.nth x0 j26)))
  obtain ⟨v31,ev31,hm⟩:=bind_s hm
  have a30:=z_bH c.ro H11 ((Sl.nth x0 j26).f_Kind) v31 ev31
  simp only [C.f150r3,R,Nat.reduceEqDiff,h12,h13,ia39,ej26,fa97_0,a29,c_fn F83,a30]
  refine hJ _ ?_
  refine tk_seq_k fun K n32 x33=>?_
  refine tk_os okM hok fun J hJ=>?_
  simp only [C.f150r4,R,Nat.reduceEqDiff]
  refine hJ _ ?_
  refine tk_cond (t:=decide (v31 = 0)) rfl (fun g34=>?_) (fun g34=>?_)
  ·replace hm:=cond_t hm g34
   refine tk_seq_k fun K n35 x36=>?_
   refine tk_os okM hok fun J hJ=>?_
   obtain ⟨mm37,k38⟩:=(h0.iv l0 (fun _=>by simp) i15).blk (ck_lt ej26).1
   have a39:=lds_one (M:=Mt) (t:=3) k38 T.ag3 ((seg_sl S_b.enc.len mm37 (ck_lt ej26).1).sub (S_b.seg1 (Sl.nth x0 j26)))
   refine rn_k (fun ⟨σ,H,_⟩=>Lk σ 39 (.bool ((!decide (((Sl.nth x0 j26).f_A) = 0)) || (!decide (((Sl.nth x0 j26).f_B) = 0)))) ∧ Iv c.nb [] H0 H) (fun J hJ=>?_) ?_
   ·skip
    cases g46:!decide (((Sl.nth x0 j26).f_A) = 0)
    ·skip
     obtain ⟨mm47,k48⟩:=(h0.iv l0 (fun _=>by simp) i15).blk (ck_lt ej26).1
     have a49:=lds_one (M:=Mt) (t:=3) k48 T.ag3 ((seg_sl S_b.enc.len mm47 (ck_lt ej26).1).sub (S_b.seg2 (Sl.nth x0 j26)))
     simp only [C.f150r5,R,Nat.reduceEqDiff,h12,h13,ia39,ej26,fa97_1,a39,g46,fa97_2,a49]
     refine hJ _ ?_
     exact ⟨(by first | rfl | (simp only [g46]; rfl) | simp only [g46,Lk,RB,Nat.reduceEqDiff,not_false_eq_true]),i15⟩
    ·skip
     simp only [C.f150r5,R,Nat.reduceEqDiff,h12,h13,ia39,ej26,fa97_1,a39,g46]
     refine hJ _ ?_
     exact ⟨(by first | rfl | (simp only [g46]; rfl) | simp only [g46,Lk,RB,Nat.reduceEqDiff,not_false_eq_true]),i15⟩
   rintro ⟨σ50,H43,d51⟩ ⟨h44,i45⟩
   refine hJ _ ?_
   refine tk_cond (t:=(!decide (((Sl.nth x0 j26).f_A) = 0)) || (!decide (((Sl.nth x0 j26).f_B) = 0))) h44 (fun g52=>?_) (fun g52=>?_)
   ·replace hm:=cond_t hm g52
    refine tk_os okM hok fun J hJ=>?_
    simp only [C.f150r6,R,Nat.reduceEqDiff]
    refine hJ _ ?_
    refine tk_ret okM ?_
    refine x36 _ _ (by simp) ?_
    refine x33 _ _ (by simp) ?_
    obtain rfl:=Option.some.inj hm
    exact end_flat (.inl rfl) (vs:=[(.int .i64 (0))]) (resT' (v:=(.int .i64 (0))) rfl resN) (fm_cons rfl fm_nil)
   ·replace hm:=cond_f hm g52
    refine tk_skip okM ?_
    refine n35 _ ?_
    refine tk_os okM hok fun J hJ=>?_
    simp only [C.f150r7,R,Nat.reduceEqDiff]
    refine hJ _ ?_
    refine tk_ret okM ?_
    refine x33 _ _ (by simp) ?_
    obtain rfl:=Option.some.inj hm
    exact end_flat (.inl rfl) (vs:=[(.int .i64 (1))]) (resT' (v:=(.int .i64 (1))) rfl resN) (fm_cons rfl fm_nil)
  ·replace hm:=cond_f hm g34
   refine tk_skip okM ?_
   refine n32 _ ?_
   refine tk_os okM hok fun J hJ=>?_
   obtain ⟨v54,ev54,hm⟩:=bind_s hm
   have a53:=z_dg c.ro H11 x0 b0 (IntKind.i64.wrap (x1 - 1)) v54 (h0.iv l0 (fun _=>by simp) i15) ev54
   simp only [C.f150r8,R,Nat.reduceEqDiff,h12,h13,c_fn F150,a53]
   refine hJ _ ?_
   refine tk_seq_k fun K n55 x56=>?_
   refine tk_os okM hok fun J hJ=>?_
   simp only [C.f150r9,R,Nat.reduceEqDiff]
   refine hJ _ ?_
   refine tk_cond (t:=decide (v54 = 0)) rfl (fun g57=>?_) (fun g57=>?_)
   ·replace hm:=cond_t hm g57
    refine tk_os okM hok fun J hJ=>?_
    simp only [C.f150r10,R,Nat.reduceEqDiff]
    refine hJ _ ?_
    refine tk_ret okM ?_
    refine x56 _ _ (by simp) ?_
    obtain rfl:=Option.some.inj hm
    exact end_flat (.inl rfl) (vs:=[(.int .i64 (0))]) (resT' (v:=(.int .i64 (0))) rfl resN) (fm_cons rfl fm_nil)
   ·replace hm:=cond_f hm g57
    refine tk_skip okM ?_
    refine n55 _ ?_
    refine tk_seq_k fun K n58 x59=>?_
    refine tk_os okM hok fun J hJ=>?_
    simp only [C.f150r11,R,Nat.reduceEqDiff]
    refine hJ _ ?_
    refine tk_cond (t:=decide (v31 = 1)) rfl (fun g60=>?_) (fun g60=>?_)
    ·replace hm:=cond_t hm g60
     refine tk_seq_k fun K n61 x62=>?_
     refine tk_os okM hok fun J hJ=>?_
     obtain ⟨mm63,k64⟩:=(h0.iv l0 (fun _=>by simp) i15).blk (ck_lt ej26).1
     have a65:=lds_one (M:=Mt) (t:=3) k64 T.ag3 ((seg_sl S_b.enc.len mm63 (ck_lt ej26).1).sub (S_b.seg1 (Sl.nth x0 j26)))
     refine rn_k (fun ⟨σ,H,_⟩=>Lk σ 6 (.int .i64 (v54)) ∧ Lk σ 63 (.bool ((!decide (((Sl.nth x0 j26).f_A) = (IntKind.i64.wrap (x1 - 1)))) || (!decide (((Sl.nth x0 j26).f_B) = 0)))) ∧ Iv c.nb [] H0 H) (fun J hJ=>?_) ?_
     ·skip
      cases g73:!decide (((Sl.nth x0 j26).f_A) = (IntKind.i64.wrap (x1 - 1)))
      ·skip
       obtain ⟨mm74,k75⟩:=(h0.iv l0 (fun _=>by simp) i15).blk (ck_lt ej26).1
       have a76:=lds_one (M:=Mt) (t:=3) k75 T.ag3 ((seg_sl S_b.enc.len mm74 (ck_lt ej26).1).sub (S_b.seg2 (Sl.nth x0 j26)))
       simp only [C.f150r12,R,Nat.reduceEqDiff,h12,h13,ia39,ej26,fa97_1,a65,g73,fa97_2,a76]
       refine hJ _ ?_
       exact ⟨(by first | rfl | (simp only [g73]; rfl) | simp only [g73,Lk,RB,Nat.reduceEqDiff,not_false_eq_true]),(by first | rfl | (simp only [g73]; rfl) | simp only [g73,Lk,RB,Nat.reduceEqDiff,not_false_eq_true]),i15⟩
      ·skip
       simp only [C.f150r12,R,Nat.reduceEqDiff,h12,h13,ia39,ej26,fa97_1,a65,g73]
       refine hJ _ ?_
       exact ⟨(by first | rfl | (simp only [g73]; rfl) | simp only [g73,Lk,RB,Nat.reduceEqDiff,not_false_eq_true]),(by first | rfl | (simp only [g73]; rfl) | simp only [g73,Lk,RB,Nat.reduceEqDiff,not_false_eq_true]),i15⟩
     rintro ⟨σ77,H69,d78⟩ ⟨h70,h71,i72⟩
     refine hJ _ ?_
     refine tk_cond (t:=(!decide (((Sl.nth x0 j26).f_A) = (IntKind.i64.wrap (x1 - 1)))) || (!decide (((Sl.nth x0 j26).f_B) = 0))) h71 (fun g79=>?_) (fun g79=>?_)
     ·replace hm:=cond_t hm g79
      refine tk_os okM hok fun J hJ=>?_
      simp only [C.f150r13,R,Nat.reduceEqDiff]
      refine hJ _ ?_
      refine tk_ret okM ?_
      refine x62 _ _ (by simp) ?_
      refine x59 _ _ (by simp) ?_
      obtain rfl:=Option.some.inj hm
      exact end_flat (.inl rfl) (vs:=[(.int .i64 (0))]) (resT' (v:=(.int .i64 (0))) rfl resN) (fm_cons rfl fm_nil)
     ·replace hm:=cond_f hm g79
      refine tk_skip okM ?_
      refine n61 _ ?_
      refine tk_os okM hok fun J hJ=>?_
      simp only [C.f150r14,R,Nat.reduceEqDiff,h70]
      refine hJ _ ?_
      refine tk_ret okM ?_
      refine x59 _ _ (by simp) ?_
      obtain rfl:=Option.some.inj hm
      exact end_flat (.inl rfl) (vs:=[(.int .i64 (IntKind.i64.wrap (v54 + 1)))]) (resT' (v:=(.int .i64 (IntKind.i64.wrap (v54 + 1)))) rfl resN) (fm_cons rfl fm_nil)
    ·replace hm:=cond_f hm g60
     refine tk_skip okM ?_
     refine n58 _ ?_
     refine tk_os okM hok fun J hJ=>?_
     obtain ⟨v81,ev81,hm⟩:=bind_s hm
     have a80:=z_dg c.ro H11 x0 b0 (IntKind.i64.wrap ((IntKind.i64.wrap (x1 - 1)) - v54)) v81 (h0.iv l0 (fun _=>by simp) i15) ev81
     simp only [C.f150r15,R,Nat.reduceEqDiff,h12,h13,c_fn F150,a80]
     refine hJ _ ?_
     refine tk_seq_k fun K n82 x83=>?_
     refine tk_os okM hok fun J hJ=>?_
     rw [C.f150r16]
     refine rn_app_k (fun ⟨σ,H,_⟩=>Lk σ 0 (slV x0 b0) ∧ Lk σ 1 (.int .i64 (x1)) ∧ Lk σ 6 (.int .i64 (v54)) ∧ Lk σ 7 (.int .i64 (v81)) ∧ Lk σ 85 (.bool ((decide (v81 = 0)) || (!decide (((Sl.nth x0 j26).f_A) = (IntKind.i64.wrap ((IntKind.i64.wrap (x1 - 1)) - v54)))))) ∧ Iv c.nb [] H0 H) (fun J hJ=>?_) ?_
     ·skip
      cases g94:decide (v81 = 0)
      ·skip
       obtain ⟨mm95,k96⟩:=(h0.iv l0 (fun _=>by simp) i15).blk (ck_lt ej26).1
       have a97:=lds_one (M:=Mt) (t:=3) k96 T.ag3 ((seg_sl S_b.enc.len mm95 (ck_lt ej26).1).sub (S_b.seg1 (Sl.nth x0 j26)))
       simp only [C.f150r16p0,R,Nat.reduceEqDiff,g94,h12,h13,ia39,ej26,fa97_1,a97]
       refine hJ _ ?_
       exact ⟨h12,h13,(by first | rfl | (simp only [g94]; rfl) | simp only [g94,Lk,RB,Nat.reduceEqDiff,not_false_eq_true]),(by first | rfl | (simp only [g94]; rfl) | simp only [g94,Lk,RB,Nat.reduceEqDiff,not_false_eq_true]),(by first | rfl | (simp only [g94]; rfl) | simp only [g94,Lk,RB,Nat.reduceEqDiff,not_false_eq_true]),i15⟩
      ·skip
       simp only [C.f150r16p0,R,Nat.reduceEqDiff,g94]
       refine hJ _ ?_
       exact ⟨h12,h13,(by first | rfl | (simp only [g94]; rfl) | simp only [g94,Lk,RB,Nat.reduceEqDiff,not_false_eq_true]),(by first | rfl | (simp only [g94]; rfl) | simp only [g94,Lk,RB,Nat.reduceEqDiff,not_false_eq_true]),(by first | rfl | (simp only [g94]; rfl) | simp only [g94,Lk,RB,Nat.reduceEqDiff,not_false_eq_true]),i15⟩
     rintro ⟨σ98,H87,d99⟩ ⟨h88,h89,h90,h91,h92,i93⟩
     refine rn_k (fun ⟨σ,H,_⟩=>Lk σ 6 (.int .i64 (v54)) ∧ Lk σ 7 (.int .i64 (v81)) ∧ Lk σ 95 (.bool (((decide (v81 = 0)) || (!decide (((Sl.nth x0 j26).f_A) = (IntKind.i64.wrap ((IntKind.i64.wrap (x1 - 1)) - v54))))) || (!decide (((Sl.nth x0 j26).f_B) = (IntKind.i64.wrap (x1 - 1)))))) ∧ Iv c.nb [] H0 H) (fun J hJ=>?_) ?_
     ·skip
      cases g108:(decide (v81 = 0)) || (!decide (((Sl.nth x0 j26).f_A) = (IntKind.i64.wrap ((IntKind.i64.wrap (x1 - 1)) - v54))))
      ·skip
       obtain ⟨mm109,k110⟩:=(h0.iv l0 (fun _=>by simp) i93).blk (ck_lt ej26).1
       have a111:=lds_one (M:=Mt) (t:=3) k110 T.ag3 ((seg_sl S_b.enc.len mm109 (ck_lt ej26).1).sub (S_b.seg2 (Sl.nth x0 j26)))
       simp only [C.f150r16p1,R,Nat.reduceEqDiff,h92,↓g108,h88,h89,ia39,ej26,fa97_2,a111]
       refine hJ _ ?_
       exact ⟨h90,h91,(by first | rfl | (simp only [↓g108]; rfl) | simp only [↓g108,Lk,RB,Nat.reduceEqDiff,not_false_eq_true]),i93⟩
      ·skip
       simp only [C.f150r16p1,R,Nat.reduceEqDiff,h92,↓g108]
       refine hJ _ ?_
       exact ⟨h90,h91,(by first | rfl | (simp only [↓g108]; rfl) | simp only [↓g108,Lk,RB,Nat.reduceEqDiff,not_false_eq_true]),i93⟩
     rintro ⟨σ112,H103,d113⟩ ⟨h104,h105,h106,i107⟩
     refine hJ _ ?_
     refine tk_cond (t:=((decide (v81 = 0)) || (!decide (((Sl.nth x0 j26).f_A) = (IntKind.i64.wrap ((IntKind.i64.wrap (x1 - 1)) - v54))))) || (!decide (((Sl.nth x0 j26).f_B) = (IntKind.i64.wrap (x1 - 1))))) h106 (fun g114=>?_) (fun g114=>?_)
     ·replace hm:=cond_t hm g114
      refine tk_os okM hok fun J hJ=>?_
      simp only [C.f150r17,R,Nat.reduceEqDiff]
      refine hJ _ ?_
      refine tk_ret okM ?_
      refine x83 _ _ (by simp) ?_
      obtain rfl:=Option.some.inj hm
      exact end_flat (.inl rfl) (vs:=[(.int .i64 (0))]) (resT' (v:=(.int .i64 (0))) rfl resN) (fm_cons rfl fm_nil)
     ·replace hm:=cond_f hm g114
      refine tk_skip okM ?_
      refine n82 _ ?_
      refine tk_os okM hok fun J hJ=>?_
      simp only [C.f150r18,R,Nat.reduceEqDiff,h105,h104]
      refine hJ _ ?_
      refine tk_ret okM ?_
      obtain rfl:=Option.some.inj hm
      exact end_flat (.inl rfl) (vs:=[(.int .i64 (IntKind.i64.wrap ((IntKind.i64.wrap (v81 + v54)) + 1)))]) (resT' (v:=(.int .i64 (IntKind.i64.wrap ((IntKind.i64.wrap (v81 + v54)) + 1)))) rfl resN) (fm_cons rfl fm_nil)
def b_cg (c_n:T_Q) (c_3:T_cO) (n:Nat) (x0:(Sl S_b)) (x1:Int):Option (Int):=(ck (Sl.l x0).length x1).bind fun j2=>(c_n ((Sl.nth x0 j2).f_Kind)).bind fun v7=>bif decide (v7 = 0) then (some 1) else (bif decide (v7 = 1) then ((c_3 x0 ((Sl.nth x0 j2).f_A)).bind fun v18=>some (IntKind.i64.wrap (1 + v18))) else ((c_3 x0 ((Sl.nth x0 j2).f_A)).bind fun v23=>(c_3 x0 ((Sl.nth x0 j2).f_B)).bind fun v28=>some (IntKind.i64.wrap (1 + (max v23 v28)))))
theorem w_hQ {call:CallF} (hok:CallOk Mt call) {n:Nat} {c_n:T_Q} (z_bH:A_cX call c_n) {c_3:T_cO} (z_cI:A_eM call c_3) {H0:Hp} {x0:(Sl S_b)} {b0:Nat} {x1:Int} {r:Int} {ro:Nat} (hro:ro ≤ H0.length) (h0:SlH H0 S_b.c 97 x0 b0) (hm:b_cg c_n c_3 n x0 x1 = some r) :
  Pt Mt ro 151 [(slV x0 b0),(.int .i64 x1)] H0 (.int .i64 (r)) H0 []:=by
 refine pt_new0 okM F151d (by exact Nat.le_of_ble_eq_true rfl) ?_ hro
 intro c hnt hnb hcr
 have hcn:c.ro ≤ c.nb:=by omega
 have l0:x0 ≠ none → b0 < c.nb:=fun h=>by rw [hnb]; exact h0.lt h
 have iv:Iv c.nb [] H0 H0:=by rw [hnb]; exact iv_refl
 rw [show args0 [(slV x0 b0),(.int .i64 x1)] = [(0,(slV x0 b0)),(1,(.int .i64 x1))] from rfl]
 rw [b_cg] at hm
 simp only [C.f151]
 refine tk_os okM hok fun J hJ=>?_
 simp only [C.f151r0,R,Nat.reduceEqDiff]
 refine hJ _ ?_
 refine tk_os okM hok fun J hJ=>?_
 obtain ⟨j2,ej2,hm⟩:=bind_s hm
 obtain ⟨mm3,k4⟩:=(h0.iv l0 (fun _=>by simp) iv).blk (ck_lt ej2).1
 have a5:=lds_one (M:=Mt) (t:=3) k4 T.ag3 ((seg_sl S_b.enc.len mm3 (ck_lt ej2).1).sub (S_b.seg0 (Sl.nth x0 j2)))
 obtain ⟨v7,ev7,hm⟩:=bind_s hm
 have a6:=z_bH c.ro H0 ((Sl.nth x0 j2).f_Kind) v7 ev7
 simp only [C.f151r1,R,Nat.reduceEqDiff,ia39,ej2,fa97_0,a5,c_fn F83,a6]
 refine hJ _ ?_
 refine tk_seq_k fun K n8 x9=>?_
 refine tk_os okM hok fun J hJ=>?_
 simp only [C.f151r2,R,Nat.reduceEqDiff]
 refine hJ _ ?_
 refine tk_cond (t:=decide (v7 = 0)) rfl (fun g10=>?_) (fun g10=>?_)
 ·replace hm:=cond_t hm g10
  refine tk_os okM hok fun J hJ=>?_
  simp only [C.f151r3,R,Nat.reduceEqDiff]
  refine hJ _ ?_
  refine tk_ret okM ?_
  refine x9 _ _ (by simp) ?_
  obtain rfl:=Option.some.inj hm
  exact end_flat (.inl rfl) (vs:=[(.int .i64 (1))]) (resT' (v:=(.int .i64 (1))) rfl resN) (fm_cons rfl fm_nil)
 ·replace hm:=cond_f hm g10
  refine tk_skip okM ?_
  refine n8 _ ?_
  refine tk_seq_k fun K n11 x12=>?_
  refine tk_os okM hok fun J hJ=>?_
  simp only [C.f151r4,R,Nat.reduceEqDiff]
  refine hJ _ ?_
  refine tk_cond (t:=decide (v7 = 1)) rfl (fun g13=>?_) (fun g13=>?_)
  ·replace hm:=cond_t hm g13
   refine tk_os okM hok fun J hJ=>?_
   obtain ⟨mm14,k15⟩:=(h0.iv l0 (fun _=>by simp) iv).blk (ck_lt ej2).1
   have a16:=lds_one (M:=Mt) (t:=3) k15 T.ag3 ((seg_sl S_b.enc.len mm14 (ck_lt ej2).1).sub (S_b.seg1 (Sl.nth x0 j2)))
   obtain ⟨v18,ev18,hm⟩:=bind_s hm
   have a17:=z_cI c.ro H0 x0 b0 ((Sl.nth x0 j2).f_A) v18 (h0.iv l0 (fun _=>by simp) iv) ev18
   simp only [C.f151r5,R,Nat.reduceEqDiff,ia39,ej2,fa97_1,a16,c_fn F151,a17]
   refine hJ _ ?_
   refine tk_ret okM ?_
   refine x12 _ _ (by simp) ?_
   obtain rfl:=Option.some.inj hm
   exact end_flat (.inl rfl) (vs:=[(.int .i64 (IntKind.i64.wrap (1 + v18)))]) (resT' (v:=(.int .i64 (IntKind.i64.wrap (1 + v18)))) rfl resN) (fm_cons rfl fm_nil)
  ·replace hm:=cond_f hm g13
   refine tk_skip okM ?_
   refine n11 _ ?_
   refine tk_os okM hok fun J hJ=>?_
   obtain ⟨mm19,k20⟩:=(h0.iv l0 (fun _=>by simp) iv).blk (ck_lt ej2).1
   have a21:=lds_one (M:=Mt) (t:=3) k20 T.ag3 ((seg_sl S_b.enc.len mm19 (ck_lt ej2).1).sub (S_b.seg1 (Sl.nth x0 j2)))
   obtain ⟨v23,ev23,hm⟩:=bind_s hm
   have a22:=z_cI H0.length H0 x0 b0 ((Sl.nth x0 j2).f_A) v23 (h0.iv l0 (fun _=>by simp) iv) ev23
   obtain ⟨mm24,k25⟩:=(h0.iv l0 (fun _=>by simp) iv).blk (ck_lt ej2).1
   have a26:=lds_one (M:=Mt) (t:=3) k25 T.ag3 ((seg_sl S_b.enc.len mm24 (ck_lt ej2).1).sub (S_b.seg2 (Sl.nth x0 j2)))
   obtain ⟨v28,ev28,hm⟩:=bind_s hm
   have a27:=z_cI H0.length H0 x0 b0 ((Sl.nth x0 j2).f_B) v28 (h0.iv l0 (fun _=>by simp) iv) ev28
   simp only [C.f151r6,R,Nat.reduceEqDiff,s_pt,s_gt,isW,Bool.false_eq_true,if_false,if_true,reduceIte,ia39,ej2,fa97_1,a21,c_fn F151,a22,fa97_2,a26,a27]
   refine hJ _ ?_
   refine tk_ret okM ?_
   obtain rfl:=Option.some.inj hm
   exact end_flat (.inl rfl) (vs:=[(.int .i64 (IntKind.i64.wrap (1 + (max v23 v28))))]) (resT' (v:=(.int .i64 (IntKind.i64.wrap (1 + (max v23 v28))))) rfl resN) (fm_cons rfl fm_nil)
def b_dx (n:Nat) (x0:S_b):Option (Bool):=bif (decide (x0.f_Kind < 0)) || (decide (17 < x0.f_Kind)) then (some false) else (bif ((((!decide (x0.f_Kind = 1)) && (!decide (x0.f_Set = ((Arr.rep 4 0))))) || ((!decide (x0.f_Kind = 10)) && (((!decide (x0.f_Min = 0)) || (!decide (x0.f_Max = 0))) || (!decide (x0.f_Mode = 0))))) || (((!decide (x0.f_Kind = 11)) && (!decide (x0.f_Kind = 12))) && (!decide (x0.f_N = 0)))) || ((!decide (x0.f_Kind = 12)) && x0.f_Fold) then (some false) else (some ((!decide (x0.f_Kind = 10)) || ((((((decide (0 ≤ x0.f_Min)) && (decide (x0.f_Min ≤ 100))) && (decide (x0.f_Max ≤ 100))) && ((decide (x0.f_Max = ((-1)))) || (decide (x0.f_Min ≤ x0.f_Max)))) && (decide (0 ≤ x0.f_Mode))) && (decide (x0.f_Mode ≤ 2))))))
theorem w_hU {call:CallF} (hok:CallOk Mt call) {n:Nat} {H0:Hp} {x0:S_b} {r:Bool} {ro:Nat} (hro:ro ≤ H0.length) (hm:b_dx n x0 = some r) :
  Pt Mt ro 168 [(vAgg (S_b.c x0))] H0 (.bool (r)) H0 []:=by
 refine pt_new0 okM F168d (by exact Nat.le_of_ble_eq_true rfl) ?_ hro
 intro c hnt hnb hcr
 have hcn:c.ro ≤ c.nb:=by omega
 have iv:Iv c.nb [] H0 H0:=by rw [hnb]; exact iv_refl
 rw [show args0 [(vAgg (S_b.c x0))] = [(0,(vAgg (S_b.c x0)))] from rfl]
 rw [b_dx] at hm
 simp only [C.f168]
 refine tk_os okM hok fun J hJ=>?_
 obtain ⟨b1,H2,a3,f4,q5,r6,x7,i8⟩:=bx_ok (M:=Mt) (t:=97) (u:=(vAgg (S_b.c (x0)))) (cs:=S_b.c x0) H0 iv.le (by rw [S_b.enc.len]; exact T.sz97) vAgg_cells (S_b.enc.one _)
 have i9:=i8 _ _ iv
 simp only [C.f168r0,R,Nat.reduceEqDiff,a3]
 refine hJ _ ?_
 refine tk_seq_k fun K n11 x12=>?_
 refine tk_os okM hok fun J hJ=>?_
 have a13:=ld_one (M:=Mt) (t:=3) f4 T.ag3 (Seg.refl.sub (S_b.seg0 x0))
 refine rn_k (fun ⟨σ,H,_⟩=>Lk σ 1 (.pointer (some ⟨b1,0,none⟩)) ∧ Lk σ 11 (.bool ((decide (x0.f_Kind < 0)) || (decide (17 < x0.f_Kind)))) ∧ H[b1]? = some (.cells (S_b.c x0) 97) ∧ Iv c.nb [] H0 H) (fun J hJ=>?_) ?_
 ·skip
  cases g20:decide (x0.f_Kind < 0)
  ·skip
   have a21:=ld_one (M:=Mt) (t:=3) f4 T.ag3 (Seg.refl.sub (S_b.seg0 x0))
   simp only [C.f168r1,R,Nat.reduceEqDiff,fa97_0,a13,g20,a21]
   refine hJ _ ?_
   exact ⟨rfl,(by first | rfl | (simp only [g20]; rfl) | simp only [g20,Lk,RB,Nat.reduceEqDiff,not_false_eq_true]),f4,i9⟩
  ·skip
   simp only [C.f168r1,R,Nat.reduceEqDiff,fa97_0,a13,g20]
   refine hJ _ ?_
   exact ⟨rfl,(by first | rfl | (simp only [g20]; rfl) | simp only [g20,Lk,RB,Nat.reduceEqDiff,not_false_eq_true]),f4,i9⟩
 rintro ⟨σ22,H15,d23⟩ ⟨h16,h17,f18,i19⟩
 refine hJ _ ?_
 refine tk_cond (t:=(decide (x0.f_Kind < 0)) || (decide (17 < x0.f_Kind))) h17 (fun g24=>?_) (fun g24=>?_)
 ·replace hm:=cond_t hm g24
  refine tk_os okM hok fun J hJ=>?_
  simp only [C.f168r2,R,Nat.reduceEqDiff]
  refine hJ _ ?_
  refine tk_ret okM ?_
  refine x12 _ _ (by simp) ?_
  obtain rfl:=Option.some.inj hm
  exact end_flat (.inl rfl) (vs:=[(.bool (false))]) (resT' (v:=(.bool (false))) rfl resN) (fm_cons rfl fm_nil)
 ·replace hm:=cond_f hm g24
  refine tk_skip okM ?_
  refine n11 _ ?_
  refine tk_os okM hok fun J hJ=>?_
  obtain ⟨b25,H26,a27,f28,q29,r30,x31,i32⟩:=al_ok H15 23 ((cArr (n:=4) (cInt .u64)) (Arr.rep 4 0)) i19.le
  have i33:=i32 _ _ i19
  have f34:=x31 _ _ f18
  obtain ⟨H36,a37,f38,u39⟩:=st_ok (M:=Mt) (t:=23) (v:=(vAgg ((cArr (n:=4) (cInt .u64)) ((Arr.rep 4 0))))) (c:=(cArr (n:=4) (cInt .u64)) ((Arr.rep 4 0))) (cs':=(cArr (n:=4) (cInt .u64)) ((Arr.rep 4 0))) f28 (by rw [(enc_arr (n:=4) enc_int).len]; exact T.sz23) vAgg_cells ((enc_arr (n:=4) enc_int).one _) (Nat.le_trans hcn r30) (le0 (enc_arr (n:=4) enc_int).len) (wrs_all (eqL (enc_arr (n:=4) enc_int).len))
  have i40:=i33.up u39 r30
  have f41:=(u39.get _ (ne_len f18 q29)).trans f34
  simp only [C.f168r3,R,Nat.reduceEqDiff,bd_zero (M:=Mt) zs23 Tryz.underlying23,zs23,a27,a37]
  refine hJ _ ?_
  refine tk_seq_k fun K n42 x43=>?_
  refine tk_os okM hok fun J hJ=>?_
  rw [C.f168r4]
  have a44:=ld_one (M:=Mt) (t:=3) f41 T.ag3 (Seg.refl.sub (S_b.seg0 x0))
  refine rn_app_k (fun ⟨σ,H,_⟩=>Lk σ 1 (.pointer (some ⟨b1,0,none⟩)) ∧ Lk σ 21 (.bool ((!decide (x0.f_Kind = 1)) && (!decide (x0.f_Set = ((Arr.rep 4 0)))))) ∧ H[b1]? = some (.cells (S_b.c x0) 97) ∧ Iv c.nb [] H0 H) (fun J hJ=>?_) ?_
  ·skip
   cases g52:!decide (x0.f_Kind = 1)
   ·skip
    simp only [C.f168r4p0,R,Nat.reduceEqDiff,fa97_0,h16,a44,g52]
    refine hJ _ ?_
    exact ⟨h16,(by first | rfl | (simp only [g52]; rfl) | simp only [g52,Lk,RB,Nat.reduceEqDiff,not_false_eq_true]),f41,i40⟩
   ·skip
    have a53:=ld_agg (M:=Mt) (t:=23) f41 T.ag23 (by rw [(enc_arr (n:=4) enc_int).len]; exact T.sz23) (Seg.refl.sub (S_b.seg3 x0))
    have a54:=ld_agg (M:=Mt) (t:=23) f38 T.ag23 (by rw [(enc_arr (n:=4) enc_int).len]; exact T.sz23) Seg.refl
    simp only [C.f168r4p0,R,Nat.reduceEqDiff,fa97_0,h16,a44,g52,fa97_3,a53,a54,neq23]
    refine hJ _ ?_
    exact ⟨h16,(by first | rfl | (simp only [g52]; rfl) | simp only [g52,Lk,RB,Nat.reduceEqDiff,not_false_eq_true]),f41,i40⟩
  rintro ⟨σ55,H47,d56⟩ ⟨h48,h49,f50,i51⟩
  refine rn_app_k (fun ⟨σ,H,_⟩=>Lk σ 1 (.pointer (some ⟨b1,0,none⟩)) ∧ Lk σ 41 (.bool (((!decide (x0.f_Kind = 1)) && (!decide (x0.f_Set = ((Arr.rep 4 0))))) || ((!decide (x0.f_Kind = 10)) && (((!decide (x0.f_Min = 0)) || (!decide (x0.f_Max = 0))) || (!decide (x0.f_Mode = 0)))))) ∧ H[b1]? = some (.cells (S_b.c x0) 97) ∧ Iv c.nb [] H0 H) (fun J hJ=>?_) ?_
  ·skip
   cases g66:(!decide (x0.f_Kind = 1)) && (!decide (x0.f_Set = ((Arr.rep 4 0))))
   ·skip
    have a67:=ld_one (M:=Mt) (t:=3) f50 T.ag3 (Seg.refl.sub (S_b.seg0 x0))
    cases g71:!decide (x0.f_Kind = 10)
    ·skip
     simp only [C.f168r4p1,R,Nat.reduceEqDiff,h49,↓g66,fa97_0,h48,a67,g71]
     refine hJ _ ?_
     exact ⟨h48,(by first | rfl | (simp only [↓g66,g71]; rfl) | simp only [↓g66,g71,Lk,RB,Nat.reduceEqDiff,not_false_eq_true]),f50,i51⟩
    ·skip
     have a72:=ld_one (M:=Mt) (t:=3) f50 T.ag3 (Seg.refl.sub (S_b.seg4 x0))
     cases g74:!decide (x0.f_Min = 0)
     ·skip
      have a75:=ld_one (M:=Mt) (t:=3) f50 T.ag3 (Seg.refl.sub (S_b.seg5 x0))
      cases g77:!decide (x0.f_Max = 0)
      ·skip
       have a78:=ld_one (M:=Mt) (t:=3) f50 T.ag3 (Seg.refl.sub (S_b.seg6 x0))
       simp only [C.f168r4p1,R,Nat.reduceEqDiff,h49,↓g66,fa97_0,h48,a67,g71,fa97_4,a72,g74,fa97_5,a75,g77,fa97_6,a78]
       refine hJ _ ?_
       exact ⟨h48,(by first | rfl | (simp only [↓g66,g71,g74,g77]; rfl) | simp only [↓g66,g71,g74,g77,Lk,RB,Nat.reduceEqDiff,not_false_eq_true]),f50,i51⟩
      ·skip
       simp only [C.f168r4p1,R,Nat.reduceEqDiff,h49,↓g66,fa97_0,h48,a67,g71,fa97_4,a72,g74,fa97_5,a75,g77]
       refine hJ _ ?_
       exact ⟨h48,(by first | rfl | (simp only [↓g66,g71,g74,g77]; rfl) | simp only [↓g66,g71,g74,g77,Lk,RB,Nat.reduceEqDiff,not_false_eq_true]),f50,i51⟩
     ·skip
      simp only [C.f168r4p1,R,Nat.reduceEqDiff,h49,↓g66,fa97_0,h48,a67,g71,fa97_4,a72,g74]
      refine hJ _ ?_
      exact ⟨h48,(by first | rfl | (simp only [↓g66,g71,g74]; rfl) | simp only [↓g66,g71,g74,Lk,RB,Nat.reduceEqDiff,not_false_eq_true]),f50,i51⟩
   ·skip
    simp only [C.f168r4p1,R,Nat.reduceEqDiff,h49,↓g66]
    refine hJ _ ?_
    exact ⟨h48,(by first | rfl | (simp only [↓g66]; rfl) | simp only [↓g66,Lk,RB,Nat.reduceEqDiff,not_false_eq_true]),f50,i51⟩
  rintro ⟨σ81,H61,d82⟩ ⟨h62,h63,f64,i65⟩
  refine rn_app_k (fun ⟨σ,H,_⟩=>Lk σ 1 (.pointer (some ⟨b1,0,none⟩)) ∧ Lk σ 56 (.bool ((((!decide (x0.f_Kind = 1)) && (!decide (x0.f_Set = ((Arr.rep 4 0))))) || ((!decide (x0.f_Kind = 10)) && (((!decide (x0.f_Min = 0)) || (!decide (x0.f_Max = 0))) || (!decide (x0.f_Mode = 0))))) || (((!decide (x0.f_Kind = 11)) && (!decide (x0.f_Kind = 12))) && (!decide (x0.f_N = 0))))) ∧ H[b1]? = some (.cells (S_b.c x0) 97) ∧ Iv c.nb [] H0 H) (fun J hJ=>?_) ?_
  ·skip
   cases g91:((!decide (x0.f_Kind = 1)) && (!decide (x0.f_Set = ((Arr.rep 4 0))))) || ((!decide (x0.f_Kind = 10)) && (((!decide (x0.f_Min = 0)) || (!decide (x0.f_Max = 0))) || (!decide (x0.f_Mode = 0))))
   ·skip
    have a92:=ld_one (M:=Mt) (t:=3) f64 T.ag3 (Seg.refl.sub (S_b.seg0 x0))
    cases g94:!decide (x0.f_Kind = 11)
    ·skip
     simp only [C.f168r4p2,R,Nat.reduceEqDiff,h63,↓g91,fa97_0,h62,a92,g94]
     refine hJ _ ?_
     exact ⟨h62,(by first | rfl | (simp only [↓g91,g94]; rfl) | simp only [↓g91,g94,Lk,RB,Nat.reduceEqDiff,not_false_eq_true]),f64,i65⟩
    ·skip
     have a97:=ld_one (M:=Mt) (t:=3) f64 T.ag3 (Seg.refl.sub (S_b.seg0 x0))
     cases g99:!decide (x0.f_Kind = 12)
     ·skip
      simp only [C.f168r4p2,R,Nat.reduceEqDiff,h63,↓g91,fa97_0,h62,a92,g94,a97,g99]
      refine hJ _ ?_
      exact ⟨h62,(by first | rfl | (simp only [↓g91,g94,g99]; rfl) | simp only [↓g91,g94,g99,Lk,RB,Nat.reduceEqDiff,not_false_eq_true]),f64,i65⟩
     ·skip
      have a100:=ld_one (M:=Mt) (t:=3) f64 T.ag3 (Seg.refl.sub (S_b.seg7 x0))
      simp only [C.f168r4p2,R,Nat.reduceEqDiff,h63,↓g91,fa97_0,h62,a92,g94,a97,g99,fa97_7,a100]
      refine hJ _ ?_
      exact ⟨h62,(by first | rfl | (simp only [↓g91,g94,g99]; rfl) | simp only [↓g91,g94,g99,Lk,RB,Nat.reduceEqDiff,not_false_eq_true]),f64,i65⟩
   ·skip
    simp only [C.f168r4p2,R,Nat.reduceEqDiff,h63,↓g91]
    refine hJ _ ?_
    exact ⟨h62,(by first | rfl | (simp only [↓g91]; rfl) | simp only [↓g91,Lk,RB,Nat.reduceEqDiff,not_false_eq_true]),f64,i65⟩
  rintro ⟨σ101,H86,d102⟩ ⟨h87,h88,f89,i90⟩
  refine rn_k (fun ⟨σ,H,_⟩=>Lk σ 1 (.pointer (some ⟨b1,0,none⟩)) ∧ Lk σ 65 (.bool (((((!decide (x0.f_Kind = 1)) && (!decide (x0.f_Set = ((Arr.rep 4 0))))) || ((!decide (x0.f_Kind = 10)) && (((!decide (x0.f_Min = 0)) || (!decide (x0.f_Max = 0))) || (!decide (x0.f_Mode = 0))))) || (((!decide (x0.f_Kind = 11)) && (!decide (x0.f_Kind = 12))) && (!decide (x0.f_N = 0)))) || ((!decide (x0.f_Kind = 12)) && x0.f_Fold))) ∧ H[b1]? = some (.cells (S_b.c x0) 97) ∧ Iv c.nb [] H0 H) (fun J hJ=>?_) ?_
  ·skip
   cases g110:(((!decide (x0.f_Kind = 1)) && (!decide (x0.f_Set = ((Arr.rep 4 0))))) || ((!decide (x0.f_Kind = 10)) && (((!decide (x0.f_Min = 0)) || (!decide (x0.f_Max = 0))) || (!decide (x0.f_Mode = 0))))) || (((!decide (x0.f_Kind = 11)) && (!decide (x0.f_Kind = 12))) && (!decide (x0.f_N = 0)))
   ·skip
    have a111:=ld_one (M:=Mt) (t:=3) f89 T.ag3 (Seg.refl.sub (S_b.seg0 x0))
    cases g113:!decide (x0.f_Kind = 12)
    ·skip
     simp only [C.f168r4p3,R,Nat.reduceEqDiff,h88,↓g110,fa97_0,h87,a111,g113]
     refine hJ _ ?_
     exact ⟨h87,(by first | rfl | (simp only [↓g110,g113]; rfl) | simp only [↓g110,g113,Lk,RB,Nat.reduceEqDiff,not_false_eq_true]),f89,i90⟩
    ·skip
     have a114:=ld_one (M:=Mt) (t:=4) f89 T.ag4 (Seg.refl.sub (S_b.seg8 x0))
     simp only [C.f168r4p3,R,Nat.reduceEqDiff,h88,↓g110,fa97_0,h87,a111,g113,fa97_8,a114]
     refine hJ _ ?_
     exact ⟨h87,(by first | rfl | (simp only [↓g110,g113]; rfl) | simp only [↓g110,g113,Lk,RB,Nat.reduceEqDiff,not_false_eq_true]),f89,i90⟩
   ·skip
    simp only [C.f168r4p3,R,Nat.reduceEqDiff,h88,↓g110]
    refine hJ _ ?_
    exact ⟨h87,(by first | rfl | (simp only [↓g110]; rfl) | simp only [↓g110,Lk,RB,Nat.reduceEqDiff,not_false_eq_true]),f89,i90⟩
  rintro ⟨σ115,H105,d116⟩ ⟨h106,h107,f108,i109⟩
  refine hJ _ ?_
  refine tk_cond (t:=((((!decide (x0.f_Kind = 1)) && (!decide (x0.f_Set = ((Arr.rep 4 0))))) || ((!decide (x0.f_Kind = 10)) && (((!decide (x0.f_Min = 0)) || (!decide (x0.f_Max = 0))) || (!decide (x0.f_Mode = 0))))) || (((!decide (x0.f_Kind = 11)) && (!decide (x0.f_Kind = 12))) && (!decide (x0.f_N = 0)))) || ((!decide (x0.f_Kind = 12)) && x0.f_Fold)) h107 (fun g117=>?_) (fun g117=>?_)
  ·replace hm:=cond_t hm g117
   refine tk_os okM hok fun J hJ=>?_
   simp only [C.f168r5,R,Nat.reduceEqDiff]
   refine hJ _ ?_
   refine tk_ret okM ?_
   refine x43 _ _ (by simp) ?_
   obtain rfl:=Option.some.inj hm
   exact end_flat (.inl rfl) (vs:=[(.bool (false))]) (resT' (v:=(.bool (false))) rfl resN) (fm_cons rfl fm_nil)
  ·replace hm:=cond_f hm g117
   refine tk_skip okM ?_
   refine n42 _ ?_
   refine tk_os okM hok fun J hJ=>?_
   rw [C.f168r6]
   have a118:=ld_one (M:=Mt) (t:=3) f108 T.ag3 (Seg.refl.sub (S_b.seg0 x0))
   refine rn_app_k (fun ⟨σ,H,_⟩=>Lk σ 105 (.bool ((!decide (x0.f_Kind = 10)) || ((((((decide (0 ≤ x0.f_Min)) && (decide (x0.f_Min ≤ 100))) && (decide (x0.f_Max ≤ 100))) && ((decide (x0.f_Max = ((-1)))) || (decide (x0.f_Min ≤ x0.f_Max)))) && (decide (0 ≤ x0.f_Mode))) && (decide (x0.f_Mode ≤ 2))))) ∧ Iv c.nb [] H0 H) (fun J hJ=>?_) ?_
   ·skip
    cases g130:!decide (x0.f_Kind = 10)
    ·skip
     have a131:=ld_one (M:=Mt) (t:=3) f108 T.ag3 (Seg.refl.sub (S_b.seg4 x0))
     cases g133:decide (0 ≤ x0.f_Min)
     ·skip
      simp only [C.f168r6p0,R,Nat.reduceEqDiff,fa97_0,h106,a118,g130,fa97_4,a131,g133]
      refine hJ _ ?_
      exact ⟨(by first | rfl | (simp only [g130,g133]; rfl) | simp only [g130,g133,Lk,RB,Nat.reduceEqDiff,not_false_eq_true]),i109⟩
     ·skip
      have a144:=ld_one (M:=Mt) (t:=3) f108 T.ag3 (Seg.refl.sub (S_b.seg4 x0))
      cases g146:decide (x0.f_Min ≤ 100)
      ·skip
       simp only [C.f168r6p0,R,Nat.reduceEqDiff,fa97_0,h106,a118,g130,fa97_4,a131,g133,a144,g146]
       refine hJ _ ?_
       exact ⟨(by first | rfl | (simp only [g130,g133,g146]; rfl) | simp only [g130,g133,g146,Lk,RB,Nat.reduceEqDiff,not_false_eq_true]),i109⟩
      ·skip
       have a155:=ld_one (M:=Mt) (t:=3) f108 T.ag3 (Seg.refl.sub (S_b.seg5 x0))
       cases g159:decide (x0.f_Max ≤ 100)
       ·skip
        simp only [C.f168r6p0,R,Nat.reduceEqDiff,fa97_0,h106,a118,g130,fa97_4,a131,g133,a144,g146,fa97_5,a155,g159]
        refine hJ _ ?_
        exact ⟨(by first | rfl | (simp only [g130,g133,g146,g159]; rfl) | simp only [g130,g133,g146,g159,Lk,RB,Nat.reduceEqDiff,not_false_eq_true]),i109⟩
       ·skip
        have a164:=ld_one (M:=Mt) (t:=3) f108 T.ag3 (Seg.refl.sub (S_b.seg5 x0))
        cases g167:decide (x0.f_Max = ((-1)))
        ·skip
         have a168:=ld_one (M:=Mt) (t:=3) f108 T.ag3 (Seg.refl.sub (S_b.seg5 x0))
         have a169:=ld_one (M:=Mt) (t:=3) f108 T.ag3 (Seg.refl.sub (S_b.seg4 x0))
         cases g171:decide (x0.f_Min ≤ x0.f_Max)
         ·skip
          simp only [C.f168r6p0,R,Nat.reduceEqDiff,fa97_0,h106,a118,g130,fa97_4,a131,g133,a144,g146,fa97_5,a155,g159,a164,g167,a168,a169,g171]
          refine hJ _ ?_
          exact ⟨(by first | rfl | (simp only [g130,g133,g146,g159,g167,g171]; rfl) | simp only [g130,g133,g146,g159,g167,g171,Lk,RB,Nat.reduceEqDiff,not_false_eq_true]),i109⟩
         ·skip
          have a174:=ld_one (M:=Mt) (t:=3) f108 T.ag3 (Seg.refl.sub (S_b.seg6 x0))
          cases g176:decide (0 ≤ x0.f_Mode)
          ·skip
           simp only [C.f168r6p0,R,Nat.reduceEqDiff,fa97_0,h106,a118,g130,fa97_4,a131,g133,a144,g146,fa97_5,a155,g159,a164,g167,a168,a169,g171,fa97_6,a174,g176]
           refine hJ _ ?_
           exact ⟨(by first | rfl | (simp only [g130,g133,g146,g159,g167,g171,g176]; rfl) | simp only [g130,g133,g146,g159,g167,g171,g176,Lk,RB,Nat.reduceEqDiff,not_false_eq_true]),i109⟩
          ·skip
           have a177:=ld_one (M:=Mt) (t:=3) f108 T.ag3 (Seg.refl.sub (S_b.seg6 x0))
           simp only [C.f168r6p0,R,Nat.reduceEqDiff,fa97_0,h106,a118,g130,fa97_4,a131,g133,a144,g146,fa97_5,a155,g159,a164,g167,a168,a169,g171,fa97_6,a174,g176,a177]
           refine hJ _ ?_
           exact ⟨(by first | rfl | (simp only [g130,g133,g146,g159,g167,g171,g176]; rfl) | simp only [g130,g133,g146,g159,g167,g171,g176,Lk,RB,Nat.reduceEqDiff,not_false_eq_true]),i109⟩
        ·skip
         have a180:=ld_one (M:=Mt) (t:=3) f108 T.ag3 (Seg.refl.sub (S_b.seg6 x0))
         cases g182:decide (0 ≤ x0.f_Mode)
         ·skip
          simp only [C.f168r6p0,R,Nat.reduceEqDiff,fa97_0,h106,a118,g130,fa97_4,a131,g133,a144,g146,fa97_5,a155,g159,a164,g167,fa97_6,a180,g182]
          refine hJ _ ?_
          exact ⟨(by first | rfl | (simp only [g130,g133,g146,g159,g167,g182]; rfl) | simp only [g130,g133,g146,g159,g167,g182,Lk,RB,Nat.reduceEqDiff,not_false_eq_true]),i109⟩
         ·skip
          have a183:=ld_one (M:=Mt) (t:=3) f108 T.ag3 (Seg.refl.sub (S_b.seg6 x0))
          simp only [C.f168r6p0,R,Nat.reduceEqDiff,fa97_0,h106,a118,g130,fa97_4,a131,g133,a144,g146,fa97_5,a155,g159,a164,g167,fa97_6,a180,g182,a183]
          refine hJ _ ?_
          exact ⟨(by first | rfl | (simp only [g130,g133,g146,g159,g167,g182]; rfl) | simp only [g130,g133,g146,g159,g167,g182,Lk,RB,Nat.reduceEqDiff,not_false_eq_true]),i109⟩
    ·skip
     simp only [C.f168r6p0,R,Nat.reduceEqDiff,fa97_0,h106,a118,g130]
     refine hJ _ ?_
     exact ⟨(by first | rfl | (simp only [g130]; rfl) | simp only [g130,Lk,RB,Nat.reduceEqDiff,not_false_eq_true]),i109⟩
   rintro ⟨σ184,H127,d185⟩ ⟨h128,i129⟩
   simp only [C.f168r6p1,R,Nat.reduceEqDiff,h128]
   refine hJ _ ?_
   refine tk_ret okM ?_
   obtain rfl:=Option.some.inj hm
   exact end_flat (.inl rfl) (vs:=[(.bool ((!decide (x0.f_Kind = 10)) || ((((((decide (0 ≤ x0.f_Min)) && (decide (x0.f_Min ≤ 100))) && (decide (x0.f_Max ≤ 100))) && ((decide (x0.f_Max = ((-1)))) || (decide (x0.f_Min ≤ x0.f_Max)))) && (decide (0 ≤ x0.f_Mode))) && (decide (x0.f_Mode ≤ 2)))))]) (resT' (v:=(.bool ((!decide (x0.f_Kind = 10)) || ((((((decide (0 ≤ x0.f_Min)) && (decide (x0.f_Min ≤ 100))) && (decide (x0.f_Max ≤ 100))) && ((decide (x0.f_Max = ((-1)))) || (decide (x0.f_Min ≤ x0.f_Max)))) && (decide (0 ≤ x0.f_Mode))) && (decide (x0.f_Mode ≤ 2)))))) rfl resN) (fm_cons rfl fm_nil)
end Go.Proofs.YtaadjlpfdajggaaGreatDoor
