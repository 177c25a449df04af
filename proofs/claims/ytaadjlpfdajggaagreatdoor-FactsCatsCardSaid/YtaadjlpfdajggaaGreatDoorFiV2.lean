import Derived.Test.YtaadjlpfdajggaaGreatDoorFiBase
set_option maxRecDepth 100000
set_option linter.unusedVariables false
set_option linter.unusedSimpArgs false
namespace Go.Proofs.YtaadjlpfdajggaaGreatDoor
open Go Go.AM
attribute [local congr] bind_first map_first
def b_bx (c_w:T_be) (c_j:T_K) (c_l:T_O) (n:Nat) (q1:Sl Int → Sl Int → Int → Int → Option (Bool)) (x0:(Sl S_b)) (l98:Sl Int) (l100:Sl Int) (x19_102:Int) (x20_103:Int):Option (Bool):=q1 l98 l100 x19_102 (IntKind.i64.wrap (x20_103 + 1))
def b_bk (c_w:T_be) (c_j:T_K) (c_l:T_O) (n:Nat) (x0:(Sl S_b)):Nat → Sl Int → Int → Int → Option (Bool)
 | 0,_,_,_=>none
 | k + 1,l253,x38_255,x39_256=>bif decide (x39_256 < x38_255) then ((ck (Sl.l l253).length x39_256).bind fun j282=>(ck (Sl.l x0).length (Sl.nth l253 j282)).bind fun j287=>bif !decide (((Sl.nth x0 j287).f_N) = (IntKind.i64.wrap (x39_256 + 1))) then (some false) else (b_bk c_w c_j c_l n x0 k l253 x38_255 (IntKind.i64.wrap (x39_256 + 1)))) else ((bif decide ((Sl.len l253) ≤ 9) then ((c_l x0 l253).bind fun v295=>some (!v295)) else some false).bind fun y296=>some y296)
def b_T (c_w:T_be) (c_j:T_K) (c_l:T_O) (n:Nat) (x0:(Sl S_b)):Nat → Sl Int → Sl Int → Int → Int → Option (Bool)
 | 0,_,_,_,_=>none
 | k + 1,l63,l65,x19_67,x20_68=>bif decide (x20_68 < x19_67) then ((ck (Sl.l x0).length x20_68).bind fun j133=>bif decide (((Sl.nth x0 j133).f_Kind) = 11) then ((Sl.app 8 l65 (some ([x20_68]:List Int))).bind fun v180=>b_bx c_w c_j c_l n (b_T c_w c_j c_l n x0 k) x0 l63 v180 x19_67 x20_68) else (b_bx c_w c_j c_l n (b_T c_w c_j c_l n x0 k) x0 l63 l65 x19_67 x20_68)) else ((c_j l65 l63).bind fun l241=>b_bk c_w c_j c_l n x0 n l241 (Sl.len l65) 0)
def b_c4 (c_w:T_be) (c_j:T_K) (c_l:T_O) (n:Nat) (x0:(Sl S_b)):Option (Bool):=(c_w x0).bind fun v14=>b_T c_w c_j c_l n x0 n v14.1 none (Sl.len x0) 0
theorem w_gy {call:CallF} (hok:CallOk Mt call) {n:Nat} {c_w:T_be} (z_cJ:A_dD call c_w) {c_j:T_K} (z_dR:A_cB call c_j) {c_l:T_O} (z_d7:A_cU call c_l) {H0:Hp} {x0:(Sl S_b)} {b0:Nat} {r:Bool} {ro:Nat} (hro:ro ≤ H0.length) (h0:SlH H0 S_b.c 72 x0 b0) (hm:b_c4 c_w c_j c_l n x0 = some r) :
  Pt Mt ro 68 [(vAgg [slV x0 b0])] H0 (.bool (r)) H0 []:=by
 refine pt_new0 okM F68d (by exact Nat.le_of_ble_eq_true rfl) ?_ hro
 intro c hnt hnb hcr
 have hcn:c.ro ≤ c.nb:=by omega
 have l0:x0 ≠ none → b0 < c.nb:=fun h=>by rw [hnb]; exact h0.lt h
 have iv:Iv c.nb [] H0 H0:=by rw [hnb]; exact iv_refl
 rw [show args0 [(vAgg [slV x0 b0])] = [(0,(vAgg [slV x0 b0]))] from rfl]
 rw [b_c4] at hm
 simp only [C.f68,C.f68b0,C.f68b1]
 refine tk_os okM hok fun J hJ=>?_
 obtain ⟨b2,H3,a4,f5,q6,r7,x8,i9⟩:=bx_ok (M:=Mt) (t:=37) (u:=(vAgg [(slV x0 b0)])) (cs:=[(slV x0 b0)]) H0 iv.le T.sz37 vAgg_cells one_sl
 have i10:=i9 _ _ iv
 simp only [C.f68r0,R,Nat.reduceEqDiff,a4]
 refine hJ _ ?_
 refine tk_os okM hok fun J hJ=>?_
 have a12:=ld_agg (M:=Mt) (t:=37) (off:=0) (c:=[(slV x0 b0)]) f5 T.ag37 T.sz37 Seg.refl
 obtain ⟨v14,ev14,hm⟩:=bind_s hm
 have a13:=z_cJ c.ro H3 x0 b0 v14 (h0.iv l0 (fun _=>by simp) i10) ev14
 obtain ⟨H15,q16⟩:∃ x,x = H3 ++ slB (cInt .i64) 3 v14.1:=⟨_,rfl⟩
 obtain ⟨b17,q18⟩:∃ b,b = H3.length:=⟨_,rfl⟩
 rw [← q16,← q18] at a13
 have x22:Ex H3 H15:=by rw [q16]; exact ex_app
 have i20:Iv c.nb [] H0 H15:=by rw [q16]; exact i10.app
 have f19:SlO c.nb H15 (cInt .i64) 3 v14.1 b17:=by rw [q16,q18]; exact slB_own i10.le
 have r21:c.nb ≤ b17:=by rw [q18]; exact i10.le
 have f23:=x22 _ _ f5
 obtain ⟨b25,H26,a27,f28,q29,r30,x31,i32⟩:=al_ok H15 100 [.slice none 0 0] i20.le
 have i33:=i32 _ _ i20
 have f34:=x31 _ _ f23
 have f35:=f19.ex x31
 obtain ⟨H37,a38,f39,u40⟩:=st_ok (M:=Mt) (t:=100) (off:=0) (ro:=c.ro) (v:=(slV v14.1 b17)) (c:=[(slV v14.1 b17)]) (cs':=[(slV v14.1 b17)]) f28 T.sz100 cells_sl one_sl (Nat.le_trans hcn r30) (Nat.le_refl _) rfl
 have i41:=i33.up u40 r30
 have f42:=(u40.get _ (ne_len f23 q29)).trans f34
 have f43:=f35.up u40 (f19.h.ne q29)
 simp only [C.f68r1,R,Nat.reduceEqDiff,a12,c_fn F62,a13,(show zc Mt.P 100 = _ from T.zc100),a27,a38]
 refine hJ _ ?_
 refine tk_os okM hok fun J hJ=>?_
 obtain ⟨b44,H45,a46,f47,q48,r49,x50,i51⟩:=al_ok H37 100 [.slice none 0 0] i41.le
 have i52:=i51 _ _ i41
 have f53:=x50 _ _ f42
 have f54:=f43.ex x50
 have f55:=x50 _ _ f39
 simp only [C.f68r2,R,Nat.reduceEqDiff,(show zc Mt.P 100 = _ from T.zc100),a46]
 refine hJ _ ?_
 refine tk_seq_k fun K n57 x58=>?_
 refine tk_os okM hok fun J hJ=>?_
 have a59:=ld_one (M:=Mt) (t:=35) (off:=0 + 0) f53 T.ag35 Seg.refl
 simp only [C.f68r3,R,Nat.reduceEqDiff,fa37_0,a59,ln35]
 refine hJ _ ?_
 refine tk_block_k fun K n60 e61 x62=>?_
 refine tk_loop_k (n:=n) (fun k1 ⟨σ,H,_⟩=>∃ l63 l65 x19_67 x20_68 b64 b66,b_T c_w c_j c_l n x0 k1 l63 l65 x19_67 x20_68 = some r ∧ Lk σ 1 (.pointer (some ⟨b2,0,none⟩)) ∧ Lk σ 3 (.pointer (some ⟨b25,0,none⟩)) ∧ Lk σ 5 (.pointer (some ⟨b44,0,none⟩)) ∧ Lk σ 18 (slV x0 b0) ∧ Lk σ 19 (.int .i64 x19_67) ∧ Lk σ 20 (.int .i64 x20_68) ∧ H[b2]? = some (.cells [(slV x0 b0)] 37) ∧ SlO c.nb H (cInt .i64) 3 l63 b64 ∧ H[b25]? = some (.cells [(slV l63 b64)] 100) ∧ SlO c.nb H (cInt .i64) 3 l65 b66 ∧ H[b44]? = some (.cells [(slV l65 b66)] 100) ∧ (l63 ≠ none → b64 ≠ b2) ∧ (l63 ≠ none → b64 ≠ b25) ∧ (l63 ≠ none → b64 ≠ b44) ∧ (l65 ≠ none → b66 ≠ b2) ∧ (l65 ≠ none → b66 ≠ b25) ∧ (l65 ≠ none → b66 ≠ b44) ∧ (l63 ≠ none → l65 ≠ none → b64 ≠ b66) ∧ Iv c.nb [] H0 H) ?_ ?_ ?_
 ·exact ⟨v14.1,none,Sl.len x0,0,b17,0,hm,rfl,rfl,rfl,rfl,rfl,rfl,f53,f54,f55,slO_nil,f47,(fun _=>(ne_len f5 q18).symm),(f19.h.ne q29),(f43.h.ne q48),(fun h=>absurd rfl h),(fun h=>absurd rfl h),(fun h=>absurd rfl h),(fun _ h=>absurd rfl h),i52⟩
 ·rintro ⟨σ,H,d⟩ ⟨_,_,_,_,_,_,hm,_⟩
  cases hm
 ·intro k1 K n69 x70
  rintro ⟨σ93,H71,d94⟩ ⟨l63,l65,x19_67,x20_68,b64,b66,hm,h74,h75,h76,h77,h78,h79,f80,f81,f82,f83,f84,n85,n86,n87,n88,n89,n90,n91,i92⟩
  rw [b_T.eq_2] at hm
  refine tk_os okM hok fun J hJ=>?_
  simp only [C.f68r4,R,Nat.reduceEqDiff,h79,h78]
  refine hJ _ ?_
  refine tk_seq_k fun K n95 x96=>?_
  refine tk_cond (t:=decide (x20_68 < x19_67)) rfl (fun g97=>?_) (fun g97=>?_)
  ·replace hm:=cond_t hm g97
   refine tk_skip okM ?_
   refine n95 _ ?_
   refine tk_seq_j (fun ⟨σ,H,_⟩=>∃ l98 l100 x19_102 x20_103 b99 b101,b_bx c_w c_j c_l n (b_T c_w c_j c_l n x0 k1) x0 l98 l100 x19_102 x20_103 = some r ∧ Lk σ 1 (.pointer (some ⟨b2,0,none⟩)) ∧ Lk σ 3 (.pointer (some ⟨b25,0,none⟩)) ∧ Lk σ 5 (.pointer (some ⟨b44,0,none⟩)) ∧ Lk σ 18 (slV x0 b0) ∧ Lk σ 19 (.int .i64 x19_102) ∧ Lk σ 20 (.int .i64 x20_103) ∧ H[b2]? = some (.cells [(slV x0 b0)] 37) ∧ SlO c.nb H (cInt .i64) 3 l98 b99 ∧ H[b25]? = some (.cells [(slV l98 b99)] 100) ∧ SlO c.nb H (cInt .i64) 3 l100 b101 ∧ H[b44]? = some (.cells [(slV l100 b101)] 100) ∧ (l98 ≠ none → b99 ≠ b2) ∧ (l98 ≠ none → b99 ≠ b25) ∧ (l98 ≠ none → b99 ≠ b44) ∧ (l100 ≠ none → b101 ≠ b2) ∧ (l100 ≠ none → b101 ≠ b25) ∧ (l100 ≠ none → b101 ≠ b44) ∧ (l98 ≠ none → l100 ≠ none → b99 ≠ b101) ∧ Iv c.nb [] H0 H) ?_ ?_
   ·skip
    rintro ⟨σ126,H104,d127⟩ ⟨l98,l100,x19_102,x20_103,b99,b101,hm,h107,h108,h109,h110,h111,h112,f113,f114,f115,f116,f117,n118,n119,n120,n121,n122,n123,n124,i125⟩
    rw [b_bx] at hm
    refine tk_oe okM hok fun J hJ=>?_
    simp only [C.f68r8,R,Nat.reduceEqDiff,h112]
    refine hJ _ ?_
    refine n69 _ ?_
    exact ⟨l98,l100,x19_102,IntKind.i64.wrap (x20_103 + 1),b99,b101,hm,h107,h108,h109,h110,h111,rfl,f113,f114,f115,f116,f117,n118,n119,n120,n121,n122,n123,n124,i125⟩
   ·refine fun K n128 x129=>?_
    refine tk_block_k fun K n130 e131 x132=>?_
    refine tk_os okM hok fun J hJ=>?_
    obtain ⟨j133,ej133,hm⟩:=bind_s hm
    obtain ⟨mm134,k135⟩:=(h0.iv l0 (fun _=>by simp) i92).blk (ck_lt ej133).1
    have a136:=lds_agg (M:=Mt) (t:=72) k135 T.ag72 (by rw [S_b.enc.len]; exact T.sz72) (seg_sl S_b.enc.len mm134 (ck_lt ej133).1)
    obtain ⟨b137,H138,a139,f140,q141,r142,x143,i144⟩:=al_ok H71 72 (S_b.c S_b.zero) i92.le
    have i145:=i144 _ _ i92
    have f146:=x143 _ _ f80
    have f147:=f81.ex x143
    have f148:=x143 _ _ f82
    have f149:=f83.ex x143
    have f150:=x143 _ _ f84
    obtain ⟨H152,a153,f154,u155⟩:=st_ok (M:=Mt) (t:=72) (v:=(vAgg (S_b.c (Sl.nth x0 j133)))) (c:=S_b.c (Sl.nth x0 j133)) (cs':=S_b.c (Sl.nth x0 j133)) f140 (by rw [S_b.enc.len]; exact T.sz72) vAgg_cells (S_b.enc.one _) (Nat.le_trans hcn r142) (le0 S_b.enc.len) (wrs_all (eqL S_b.enc.len))
    have i156:=i145.up u155 r142
    have f157:=(u155.get _ (ne_len f80 q141)).trans f146
    have f158:=f147.up u155 (f81.h.ne q141)
    have f159:=(u155.get _ (ne_len f82 q141)).trans f148
    have f160:=f149.up u155 (f83.h.ne q141)
    have f161:=(u155.get _ (ne_len f84 q141)).trans f150
    simp only [C.f68r5,R,Nat.reduceEqDiff,h79,ia35,ej133,h77,a136,zs72,a139,a153]
    refine hJ _ ?_
    refine tk_os okM hok fun J hJ=>?_
    have a162:=ld_one (M:=Mt) (t:=3) f154 T.ag3 (Seg.refl.sub (S_b.seg0 (Sl.nth x0 j133)))
    simp only [C.f68r6,R,Nat.reduceEqDiff,fa72_0,a162]
    refine hJ _ ?_
    refine tk_cond (t:=decide (((Sl.nth x0 j133).f_Kind) = 11)) rfl (fun g163=>?_) (fun g163=>?_)
    ·replace hm:=cond_t hm g163
     refine tk_oe okM hok fun J hJ=>?_
     have a164:=ld_one (M:=Mt) (t:=100) f161 T.ag100 Seg.refl
     obtain ⟨b165,H166,a167,f168,q169,r170,x171,i172⟩:=bs_ok (M:=Mt) (t:=100) (e:=3) (c:=(cInt .i64)) (l:=([x20_68]:List Int)) (ps:=[(0,(.int .i64 (x20_68)))]) (n:=1) H152 i156.le Tryz.underlying100 (zs3) rfl (by simp only [List.length_cons,List.length_nil]; decide) (fun _=>rfl) enc_int.one rfl rfl
     have i173:=i172 _ _ i156
     have f174:=x171 _ _ f157
     have f175:=f158.ex x171
     have f176:=x171 _ _ f159
     have f177:=f160.ex x171
     have f178:=x171 _ _ f161
     obtain ⟨v180,ev180,hm⟩:=bind_s hm
     obtain ⟨b181,H182,a183,f184,mv185,i186,nw187⟩:=app_ok (M:=Mt) (t:=100) (u:=100) (nb:=c.nb) (x:=l65) (y:=some ([x20_68]:List Int)) (b:=b66) (b2:=b165) Tryz.underlying100 Tryz.underlying100 T.sz3 T.by3 zs3 (by decide) (by decide) enc_int.len enc_int.one i173.le hcn f177 f168.h ev180
     have i188:=i186 _ _ i173
     have n189:=nw187 b2 (get_lt f174) n88
     have n190:=fun (h:l63 ≠ none)=>nw187 b64 (f175.h.lt h) (fun h'=>(n91 h h').symm)
     have n191:=nw187 b25 (get_lt f176) n89
     have n192:=nw187 b44 (get_lt f178) n90
     have f193:=mv185.2 _ _ (fun h=>(n88 h).symm) f174
     have f194:=f175.mv mv185 n91
     have f195:=mv185.2 _ _ (fun h=>(n89 h).symm) f176
     have f196:=mv185.2 _ _ (fun h=>(n90 h).symm) f178
     obtain ⟨H198,a199,f200,u201⟩:=st_ok (M:=Mt) (t:=100) (off:=0) (ro:=c.ro) (v:=(slV v180 b181)) (c:=[(slV v180 b181)]) (cs':=[(slV v180 b181)]) f196 T.sz100 cells_sl one_sl (Nat.le_trans hcn r49) (Nat.le_refl _) rfl
     have i202:=i188.up u201 r49
     have f203:=(u201.get _ (ne_len f42 q48)).trans f193
     have f204:=f194.up u201 n87
     have f205:=(u201.get _ (ne_len f39 q48)).trans f195
     have f206:=f184.up u201 n192
     simp only [C.f68r7,R,Nat.reduceEqDiff,a164,h76,a167,a183,a199]
     refine hJ _ ?_
     refine n130 _ ?_
     refine n128 _ ?_
     exact ⟨l63,v180,x19_67,x20_68,b64,b181,hm,h74,h75,h76,h77,h78,h79,f203,f204,f205,f206,f200,n85,n86,n87,n189,n191,n192,(fun h h'=>(n190 h h').symm),i202⟩
    ·replace hm:=cond_f hm g163
     refine tk_skip okM ?_
     refine n130 _ ?_
     refine n128 _ ?_
     exact ⟨l63,l65,x19_67,x20_68,b64,b66,hm,h74,h75,h76,h77,h78,h79,f157,f158,f159,f160,f161,n85,n86,n87,n88,n89,n90,n91,i156⟩
  ·replace hm:=cond_f hm g97
   refine tk_exit okM ?_
   refine x96 _ _ (by simp) ?_
   refine x70 _ _ (by simp) ?_
   refine e61 _ ?_
   refine n57 _ ?_
   refine tk_os okM hok fun J hJ=>?_
   obtain ⟨b207,H208,a209,f210,q211,r212,x213,i214⟩:=al_ok H71 99 [.nilFunc] i92.le
   have i215:=i214 _ _ i92
   have f216:=x213 _ _ f80
   have f217:=f81.ex x213
   have f218:=x213 _ _ f82
   have f219:=f83.ex x213
   have f220:=x213 _ _ f84
   obtain ⟨H222,a223,f224,u225⟩:=st_ok (M:=Mt) (t:=99) (off:=0) (ro:=c.ro) (v:=(.func (.func 102) [].toArray [(.pointer (some ⟨b25,0,none⟩))].toArray)) (c:=[(.func (.func 102) [].toArray [(.pointer (some ⟨b25,0,none⟩))].toArray)]) (cs':=[(.func (.func 102) [].toArray [(.pointer (some ⟨b25,0,none⟩))].toArray)]) f210 T.sz99 rfl (one_v rfl) (Nat.le_trans hcn r212) (Nat.le_refl _) rfl
   have i226:=i215.up u225 r212
   have f227:=(u225.get _ (ne_len f80 q211)).trans f216
   have f228:=f217.up u225 (f81.h.ne q211)
   have f229:=(u225.get _ (ne_len f82 q211)).trans f218
   have f230:=f219.up u225 (f83.h.ne q211)
   have f231:=(u225.get _ (ne_len f84 q211)).trans f220
   simp only [C.f68r9,R,Nat.reduceEqDiff,o_makeFunc,mf_ok,h75,(show zc Mt.P 99 = _ from T.zc99),a209,a223]
   refine hJ _ ?_
   refine tk_os okM hok fun J hJ=>?_
   have a232:=ld_one (M:=Mt) (t:=100) f231 T.ag100 Seg.refl
   obtain ⟨l241,el241,hm⟩:=bind_s hm
   obtain ⟨H236,a237,f238,u239,sv233,sn234,sl235⟩:=z_dR c.ro c.nb H222 l65 b66 l63 b207 b25 b64 l241 hcn f230 f224 f229 f228.h (fun h=>((f83.h.ne q211) h)) (fun h=>(n89 h)) (fun h h'=>(n91 h' h).symm) el241
   have i240:=i226.upS u239 (fun h=>(f230.own h))
   have f242:=u239.get b2 (fun h=>(n88 h)) f227
   have f243:=f228.upS u239 (fun h h'=>((fun h h'=>(n91 h' h).symm) h' h).symm)
   have f244:=u239.get b25 (fun h=>(n89 h)) f229
   have f245:=u239.get b44 (fun h=>(n90 h)) f231
   have f246:=u239.get b207 (fun h=>((f83.h.ne q211) h)) f224
   simp only [C.f68r10,R,Nat.reduceEqDiff,a232,h76,o_makeFunc,mf_ok,h75,c_fn F103,a237]
   refine hJ _ ?_
   refine tk_seq_k fun K n247 x248=>?_
   refine tk_os okM hok fun J hJ=>?_
   have a249:=ld_one (M:=Mt) (t:=100) f245 T.ag100 Seg.refl
   simp only [C.f68r11,R,Nat.reduceEqDiff,a249,h76,ln100]
   refine hJ _ ?_
   refine tk_block_k fun K n250 e251 x252=>?_
   refine tk_loop_k (n:=n) (fun k3 ⟨σ,H,_⟩=>∃ l253 x38_255 x39_256 b254,b_bk c_w c_j c_l n x0 k3 l253 x38_255 x39_256 = some r ∧ Lk σ 1 (.pointer (some ⟨b2,0,none⟩)) ∧ Lk σ 5 (.pointer (some ⟨b44,0,none⟩)) ∧ Lk σ 37 (slV l253 b254) ∧ Lk σ 38 (.int .i64 x38_255) ∧ Lk σ 39 (.int .i64 x39_256) ∧ H[b2]? = some (.cells [(slV x0 b0)] 37) ∧ SlO c.nb H (cInt .i64) 3 l253 b254 ∧ H[b44]? = some (.cells [(slV l253 b254)] 100) ∧ (l253 ≠ none → b254 ≠ b2) ∧ (l253 ≠ none → b254 ≠ b44) ∧ Iv c.nb [] H0 H) ?_ ?_ ?_
   ·exact ⟨l241,Sl.len l65,0,b66,hm,h74,h76,(lk_eq (by simp only [slV_put,slV_copy,sv233]) rfl),rfl,rfl,f242,f238,(by simp only [slV_put,slV_copy,sv233]; exact f245),(fun h=>n88 (by simpa only [Sl.put_none,Sl.copy_none,sn234] using h)),(fun h=>n90 (by simpa only [Sl.put_none,Sl.copy_none,sn234] using h)),i240⟩
   ·rintro ⟨σ,H,d⟩ ⟨_,_,_,_,hm,_⟩
    cases hm
   ·intro k3 K n257 x258
    rintro ⟨σ272,H259,d273⟩ ⟨l253,x38_255,x39_256,b254,hm,h261,h262,h263,h264,h265,f266,f267,f268,n269,n270,i271⟩
    rw [b_bk.eq_2] at hm
    refine tk_os okM hok fun J hJ=>?_
    simp only [C.f68r12,R,Nat.reduceEqDiff,h265,h264]
    refine hJ _ ?_
    refine tk_seq_k fun K n274 x275=>?_
    refine tk_cond (t:=decide (x39_256 < x38_255)) rfl (fun g276=>?_) (fun g276=>?_)
    ·replace hm:=cond_t hm g276
     refine tk_skip okM ?_
     refine n274 _ ?_
     refine tk_seq_k fun K n277 x278=>?_
     refine tk_block_k fun K n279 e280 x281=>?_
     refine tk_os okM hok fun J hJ=>?_
     obtain ⟨j282,ej282,hm⟩:=bind_s hm
     obtain ⟨mm283,k284⟩:=f267.h.blk (ck_lt ej282).1
     have a285:=lds_one (M:=Mt) (t:=3) k284 T.ag3 (seg_sl enc_int.len mm283 (ck_lt ej282).1)
     simp only [C.f68r13,R,Nat.reduceEqDiff,h265,ia100,ej282,h263,a285]
     refine hJ _ ?_
     refine tk_os okM hok fun J hJ=>?_
     have a286:=ld_one (M:=Mt) (t:=35) (off:=0 + 0) f266 T.ag35 Seg.refl
     obtain ⟨j287,ej287,hm⟩:=bind_s hm
     obtain ⟨mm288,k289⟩:=(h0.iv l0 (fun _=>by simp) i271).blk (ck_lt ej287).1
     have a290:=lds_one (M:=Mt) (t:=3) k289 T.ag3 ((seg_sl S_b.enc.len mm288 (ck_lt ej287).1).sub (S_b.seg7 (Sl.nth x0 j287)))
     simp only [C.f68r14,R,Nat.reduceEqDiff,fa37_0,h261,a286,ia35,ej287,fa72_7,a290]
     refine hJ _ ?_
     refine tk_cond (t:=!decide (((Sl.nth x0 j287).f_N) = (IntKind.i64.wrap (x39_256 + 1)))) rfl (fun g291=>?_) (fun g291=>?_)
     ·replace hm:=cond_t hm g291
      refine tk_os okM hok fun J hJ=>?_
      simp only [C.f68r15,R,Nat.reduceEqDiff]
      refine hJ _ ?_
      refine tk_ret okM ?_
      refine x281 _ _ (by simp) (by simp) ?_
      refine x278 _ _ (by simp) ?_
      refine x258 _ _ (by simp) ?_
      refine x252 _ _ (by simp) (by simp) ?_
      refine x248 _ _ (by simp) ?_
      obtain rfl:=Option.some.inj hm
      exact end_flat (.inl rfl) (vs:=[(.bool (false))]) (resT' (v:=(.bool (false))) rfl resN) (fm_cons rfl fm_nil)
     ·replace hm:=cond_f hm g291
      refine tk_skip okM ?_
      refine n279 _ ?_
      refine n277 _ ?_
      refine tk_oe okM hok fun J hJ=>?_
      simp only [C.f68r16,R,Nat.reduceEqDiff,h265]
      refine hJ _ ?_
      refine n257 _ ?_
      exact ⟨l253,x38_255,IntKind.i64.wrap (x39_256 + 1),b254,hm,h261,h262,h263,h264,rfl,f266,f267,f268,n269,n270,i271⟩
    ·replace hm:=cond_f hm g276
     refine tk_exit okM ?_
     refine x275 _ _ (by simp) ?_
     refine x258 _ _ (by simp) ?_
     refine e251 _ ?_
     refine n247 _ ?_
     refine tk_os okM hok fun J hJ=>?_
     simp only [C.f68r17,R,Nat.reduceEqDiff,o_makeFunc,mf_ok,h262]
     refine hJ _ ?_
     refine tk_os okM hok fun J hJ=>?_
     rw [C.f68r18]
     have a292:=ld_one (M:=Mt) (t:=100) f268 T.ag100 Seg.refl
     obtain ⟨y296,ey296,hm⟩:=bind_s hm
     refine rn_app_k (fun ⟨σ,H,_⟩=>Lk σ 64 (.bool (y296)) ∧ Iv c.nb [] H0 H) (fun J hJ=>?_) ?_
     ·skip
      cases g300:decide ((Sl.len l253) ≤ 9)
      ·skip
       have ey296:=cond_f ey296 g300
       obtain rfl:=Option.some.inj ey296
       simp only [C.f68r18p0,R,Nat.reduceEqDiff,a292,h262,ln100,g300]
       refine hJ _ ?_
       exact ⟨(by first | rfl | (simp only [g300]; rfl) | simp only [g300,Lk,RB,Nat.reduceEqDiff,not_false_eq_true]),i271⟩
      ·skip
       have ey296:=cond_t ey296 g300
       have a301:=ld_one (M:=Mt) (t:=35) (off:=0 + 0) f266 T.ag35 Seg.refl
       obtain ⟨v303,ev303,ey296⟩:=bind_s ey296
       have a302:=z_d7 c.ro H259 x0 b0 l253 b44 b254 v303 (h0.iv l0 (fun _=>by simp) i271) f268 f267.h ev303
       obtain rfl:=Option.some.inj ey296
       simp only [C.f68r18p0,R,Nat.reduceEqDiff,a292,h262,ln100,g300,fa37_0,h261,a301,c_fn F106,a302]
       refine hJ _ ?_
       exact ⟨(by first | rfl | (simp only [g300]; rfl) | simp only [g300,Lk,RB,Nat.reduceEqDiff,not_false_eq_true]),i271⟩
     rintro ⟨σ304,H297,d305⟩ ⟨h298,i299⟩
     simp only [C.f68r18p1,R,Nat.reduceEqDiff,h298]
     refine hJ _ ?_
     refine tk_ret okM ?_
     obtain rfl:=Option.some.inj hm
     exact end_flat (.inl rfl) (vs:=[(.bool (y296))]) (resT' (v:=(.bool (y296))) rfl resN) (fm_cons rfl fm_nil)
def b_bc (n:Nat) (x0:Int):Option (Int):=(shrO .u64 x0 1).bind fun v1=>(shrO .u64 (IntKind.u64.wrap ((andI .u64 v1 6148914691236517205) + (andI .u64 x0 6148914691236517205))) 2).bind fun v2=>(shrO .u64 (IntKind.u64.wrap ((andI .u64 v2 3689348814741910323) + (andI .u64 (IntKind.u64.wrap ((andI .u64 v1 6148914691236517205) + (andI .u64 x0 6148914691236517205))) 3689348814741910323))) 4).bind fun v3=>(shrO .u64 (andI .u64 (IntKind.u64.wrap (v3 + (IntKind.u64.wrap ((andI .u64 v2 3689348814741910323) + (andI .u64 (IntKind.u64.wrap ((andI .u64 v1 6148914691236517205) + (andI .u64 x0 6148914691236517205))) 3689348814741910323))))) 1085102592571150095) 8).bind fun v4=>(shrO .u64 (IntKind.u64.wrap ((andI .u64 (IntKind.u64.wrap (v3 + (IntKind.u64.wrap ((andI .u64 v2 3689348814741910323) + (andI .u64 (IntKind.u64.wrap ((andI .u64 v1 6148914691236517205) + (andI .u64 x0 6148914691236517205))) 3689348814741910323))))) 1085102592571150095) + v4)) 16).bind fun v5=>(shrO .u64 (IntKind.u64.wrap ((IntKind.u64.wrap ((andI .u64 (IntKind.u64.wrap (v3 + (IntKind.u64.wrap ((andI .u64 v2 3689348814741910323) + (andI .u64 (IntKind.u64.wrap ((andI .u64 v1 6148914691236517205) + (andI .u64 x0 6148914691236517205))) 3689348814741910323))))) 1085102592571150095) + v4)) + v5)) 32).bind fun v6=>some (andI .i64 (IntKind.i64.wrap (IntKind.u64.wrap ((IntKind.u64.wrap ((IntKind.u64.wrap ((andI .u64 (IntKind.u64.wrap (v3 + (IntKind.u64.wrap ((andI .u64 v2 3689348814741910323) + (andI .u64 (IntKind.u64.wrap ((andI .u64 v1 6148914691236517205) + (andI .u64 x0 6148914691236517205))) 3689348814741910323))))) 1085102592571150095) + v4)) + v5)) + v6))) 127)
theorem w_e6 {call:CallF} (hok:CallOk Mt call) {n:Nat} {H0:Hp} {x0:Int} {r:Int} {ro:Nat} (hro:ro ≤ H0.length) (hm:b_bc n x0 = some r) :
  Pt Mt ro 72 [(.int .u64 x0)] H0 (.int .i64 (r)) H0 []:=by
 refine pt_new0 okM F72d (by exact Nat.le_of_ble_eq_true rfl) ?_ hro
 intro c hnt hnb hcr
 have hcn:c.ro ≤ c.nb:=by omega
 have iv:Iv c.nb [] H0 H0:=by rw [hnb]; exact iv_refl
 rw [show args0 [(.int .u64 x0)] = [(0,(.int .u64 x0))] from rfl]
 rw [b_bc] at hm
 simp only [C.f72]
 refine tk_os okM hok fun J hJ=>?_
 simp only [C.f72r0,R,Nat.reduceEqDiff]
 refine hJ _ ?_
 refine tk_os okM hok fun J hJ=>?_
 obtain ⟨v1,ev1,hm⟩:=bind_s hm
 simp only [C.f72r1,R,Nat.reduceEqDiff,ev1]
 refine hJ _ ?_
 refine tk_os okM hok fun J hJ=>?_
 obtain ⟨v2,ev2,hm⟩:=bind_s hm
 simp only [C.f72r2,R,Nat.reduceEqDiff,ev2]
 refine hJ _ ?_
 refine tk_os okM hok fun J hJ=>?_
 obtain ⟨v3,ev3,hm⟩:=bind_s hm
 simp only [C.f72r3,R,Nat.reduceEqDiff,ev3]
 refine hJ _ ?_
 refine tk_os okM hok fun J hJ=>?_
 obtain ⟨v4,ev4,hm⟩:=bind_s hm
 simp only [C.f72r4,R,Nat.reduceEqDiff,ev4]
 refine hJ _ ?_
 refine tk_os okM hok fun J hJ=>?_
 obtain ⟨v5,ev5,hm⟩:=bind_s hm
 simp only [C.f72r5,R,Nat.reduceEqDiff,ev5]
 refine hJ _ ?_
 refine tk_os okM hok fun J hJ=>?_
 obtain ⟨v6,ev6,hm⟩:=bind_s hm
 simp only [C.f72r6,R,Nat.reduceEqDiff,ev6]
 refine hJ _ ?_
 refine tk_os okM hok fun J hJ=>?_
 simp only [C.f72r7,R,Nat.reduceEqDiff,cv_int (M:=Mt) Tryz.underlying22 Tryz.underlying3]
 refine hJ _ ?_
 refine tk_ret okM ?_
 obtain rfl:=Option.some.inj hm
 exact end_flat (.inl rfl) (vs:=[(.int .i64 (andI .i64 (IntKind.i64.wrap (IntKind.u64.wrap ((IntKind.u64.wrap ((IntKind.u64.wrap ((andI .u64 (IntKind.u64.wrap (v3 + (IntKind.u64.wrap ((andI .u64 v2 3689348814741910323) + (andI .u64 (IntKind.u64.wrap ((andI .u64 v1 6148914691236517205) + (andI .u64 x0 6148914691236517205))) 3689348814741910323))))) 1085102592571150095) + v4)) + v5)) + v6))) 127))]) (resT' (v:=(.int .i64 (andI .i64 (IntKind.i64.wrap (IntKind.u64.wrap ((IntKind.u64.wrap ((IntKind.u64.wrap ((andI .u64 (IntKind.u64.wrap (v3 + (IntKind.u64.wrap ((andI .u64 v2 3689348814741910323) + (andI .u64 (IntKind.u64.wrap ((andI .u64 v1 6148914691236517205) + (andI .u64 x0 6148914691236517205))) 3689348814741910323))))) 1085102592571150095) + v4)) + v5)) + v6))) 127))) rfl resN) (fm_cons rfl fm_nil)
def b_bz (c_3:T_cA) (c_2:T_cz) (n:Nat) (x42:S_a) (x43:S_a):Option (S_a):=some x43
def b_cr (c_3:T_cA) (c_2:T_cz) (n:Nat) (x0:S_d):Option (S_a):=(c_2 x0).bind fun v63=>(c_3 x0).bind fun v66=>bif decide (v66 = 1) then (b_bz c_3 c_2 n S_a.zero (S_a.w1 (S_a.w0 (({ S_a.zero with f_Facts:=({ S_c.zero with f_First:=x0 }:S_c) }:S_a)) (S_c.w3 ((({ S_a.zero with f_Facts:=({ S_c.zero with f_First:=x0 }:S_c) }:S_a)).f_Facts) (strOf (some ([v63.1]:List Int))))) true)) else (b_bz c_3 c_2 n S_a.zero (({ S_a.zero with f_Facts:=({ S_c.zero with f_First:=x0 }:S_c) }:S_a)))
theorem w_gz {call:CallF} (hok:CallOk Mt call) {n:Nat} {c_3:T_cA} (z_fJ:A_er call c_3) {c_2:T_cz} (z_fK:A_en call c_2) {H0:Hp} {x0:S_d} {r:S_a} {ro:Nat} (hro:ro ≤ H0.length) (hm:b_cr c_3 c_2 n x0 = some r) (hG1:TabH1 H0) :
  Pt Mt ro 86 [(vAgg (S_d.c x0))] H0 (vAgg (S_a.c (r))) H0 []:=by
 refine pt_new0 okM F86d (by exact Nat.le_of_ble_eq_true rfl) ?_ hro
 intro c hnt hnb hcr
 have hcn:c.ro ≤ c.nb:=by omega
 have iv:Iv c.nb [] H0 H0:=by rw [hnb]; exact iv_refl
 rw [show args0 [(vAgg (S_d.c x0))] = [(0,(vAgg (S_d.c x0)))] from rfl]
 rw [b_cr] at hm
 simp only [C.f86]
 refine tk_os okM hok fun J hJ=>?_
 obtain ⟨b1,H2,a3,f4,q5,r6,x7,i8⟩:=bx_ok (M:=Mt) (t:=25) (u:=(vAgg (S_d.c (x0)))) (cs:=S_d.c x0) H0 iv.le (by rw [S_d.enc.len]; exact T.sz25) vAgg_cells (S_d.enc.one _)
 have i9:=i8 _ _ iv
 obtain ⟨b11,H12,a13,f14,q15,r16,x17,i18⟩:=al_ok H2 107 (S_a.c S_a.zero) i9.le
 have i19:=i18 _ _ i9
 have f20:=x17 _ _ f4
 simp only [C.f86r0,R,Nat.reduceEqDiff,a3,zs107,a13]
 refine hJ _ ?_
 refine tk_os okM hok fun J hJ=>?_
 have a22:=ld_agg (M:=Mt) (t:=25) f20 T.ag25 (by rw [S_d.enc.len]; exact T.sz25) Seg.refl
 obtain ⟨b23,H24,a25,f26,q27,r28,x29,i30⟩:=al_ok H12 107 (S_a.c S_a.zero) i19.le
 have i31:=i30 _ _ i19
 have f32:=x29 _ _ f20
 have f33:=x29 _ _ f14
 obtain ⟨H35,a36,f37,u38⟩:=st_ok (M:=Mt) (t:=107) (v:=(vAgg (S_a.c (({ S_a.zero with f_Facts:=({ S_c.zero with f_First:=x0 }:S_c) }:S_a))))) (c:=S_a.c (({ S_a.zero with f_Facts:=({ S_c.zero with f_First:=x0 }:S_c) }:S_a))) (cs':=S_a.c (({ S_a.zero with f_Facts:=({ S_c.zero with f_First:=x0 }:S_c) }:S_a))) f26 (by rw [S_a.enc.len]; exact T.sz107) vAgg_cells (S_a.enc.one _) (Nat.le_trans hcn r28) (le0 S_a.enc.len) (wrs_all (eqL S_a.enc.len))
 have i39:=i31.up u38 r28
 have f40:=(u38.get _ (ne_len f20 q27)).trans f32
 have f41:=(u38.get _ (ne_len f14 q27)).trans f33
 simp only [C.f86r1,R,Nat.reduceEqDiff,a22,bd54_0,bd107_0,zs107,a25,a36]
 refine hJ _ ?_
 refine tk_seq_j (fun ⟨σ,H,_⟩=>∃ x42 x43,b_bz c_3 c_2 n x42 x43 = some r ∧ Lk σ 2 (.pointer (some ⟨b11,0,none⟩)) ∧ Lk σ 3 (.pointer (some ⟨b23,0,none⟩)) ∧ H[b11]? = some (.cells (S_a.c x42) 107) ∧ H[b23]? = some (.cells (S_a.c x43) 107) ∧ Iv c.nb [] H0 H) ?_ ?_
 ·skip
  rintro ⟨σ50,H44,d51⟩ ⟨x42,x43,hm,h45,h46,f47,f48,i49⟩
  rw [b_bz] at hm
  refine tk_os okM hok fun J hJ=>?_
  have a52:=ld_agg (M:=Mt) (t:=107) f48 T.ag107 (by rw [S_a.enc.len]; exact T.sz107) Seg.refl
  obtain ⟨H53,a54,f55,u56⟩:=st_ok (M:=Mt) (t:=107) (v:=(vAgg (S_a.c (x43)))) (c:=S_a.c x43) (cs':=S_a.c x43) f47 (by rw [S_a.enc.len]; exact T.sz107) vAgg_cells (S_a.enc.one _) (Nat.le_trans hcn r16) (le0 S_a.enc.len) (wrs_all (eqL S_a.enc.len))
  have i57:=i49.up u56 r16
  have f58:=(u56.get _ (ne_len f14 q27).symm).trans f48
  simp only [C.f86r5,R,Nat.reduceEqDiff,a52,h46,a54,h45]
  refine hJ _ ?_
  refine tk_ret okM ?_
  obtain rfl:=Option.some.inj hm
  exact end_flat (.inl rfl) (vs:=[(vAgg (S_a.c (x43)))]) (resC' (v:=(vAgg (S_a.c (x43)))) h45 (ldv_of (ld_agg (M:=Mt) (t:=107) f55 T.ag107 (by rw [S_a.enc.len]; exact T.sz107) Seg.refl)) resN) (fm_cons (flat_agg S_a.enc _) fm_nil)
 ·refine fun K n59 x60=>?_
  refine tk_os okM hok fun J hJ=>?_
  have a61:=ld_agg (M:=Mt) (t:=25) f40 T.ag25 (by rw [S_d.enc.len]; exact T.sz25) Seg.refl
  obtain ⟨v63,ev63,hm⟩:=bind_s hm
  have a62:=z_fK c.ro H35 x0 v63 (tabIv1 i39 hnb hG1) ev63
  simp only [C.f86r2,R,Nat.reduceEqDiff,a61,c_fn F120,a62]
  refine hJ _ ?_
  refine tk_os okM hok fun J hJ=>?_
  have a64:=ld_agg (M:=Mt) (t:=25) f40 T.ag25 (by rw [S_d.enc.len]; exact T.sz25) Seg.refl
  obtain ⟨v66,ev66,hm⟩:=bind_s hm
  have a65:=z_fJ c.ro H35 x0 v66 ev66
  simp only [C.f86r3,R,Nat.reduceEqDiff,a64,c_fn F44,a65]
  refine hJ _ ?_
  refine tk_cond (t:=decide (v66 = 1)) rfl (fun g67=>?_) (fun g67=>?_)
  ·replace hm:=cond_t hm g67
   refine tk_oe okM hok fun J hJ=>?_
   obtain ⟨b68,H69,a70,f71,q72,r73,x74,i75⟩:=bs_ok (M:=Mt) (t:=128) (e:=5) (c:=(cInt .u8)) (l:=([v63.1]:List Int)) (ps:=[(0,(.int .u8 (v63.1)))]) (n:=1) H35 i39.le Tryz.underlying128 (zs5) rfl (by simp only [List.length_cons,List.length_nil]; decide) (fun _=>rfl) enc_int.one rfl rfl
   have i76:=i75 _ _ i39
   have f77:=x74 _ _ f41
   have f78:=x74 _ _ f37
   obtain ⟨H80,a81,f82,u83⟩:=st_ok (M:=Mt) (t:=9) (v:=(.string (strOf (some ([v63.1]:List Int))))) (c:=cStr (strOf (some ([v63.1]:List Int)))) (cs':=S_a.c (S_a.w0 (({ S_a.zero with f_Facts:=({ S_c.zero with f_First:=x0 }:S_c) }:S_a)) (S_c.w3 ((({ S_a.zero with f_Facts:=({ S_c.zero with f_First:=x0 }:S_c) }:S_a)).f_Facts) (strOf (some ([v63.1]:List Int)))))) f78 (by rw [enc_str.len]; exact T.sz9) rfl (enc_str.one _) (Nat.le_trans hcn r28) (Nat.le_trans (Nat.le_of_eq (congrArg _ (eqL enc_str.len))) ((Seg.refl.sub (S_a.seg0 (({ S_a.zero with f_Facts:=({ S_c.zero with f_First:=x0 }:S_c) }:S_a)))).sub (S_c.seg3 ((({ S_a.zero with f_Facts:=({ S_c.zero with f_First:=x0 }:S_c) }:S_a)).f_Facts))).2) (by rw [wrs_in (Seg.refl.sub (S_a.seg0 (({ S_a.zero with f_Facts:=({ S_c.zero with f_First:=x0 }:S_c) }:S_a)))) (by have:=trivial; simp only [enc_str.len,S_c.enc.len]; omega),S_c.wr3 ((({ S_a.zero with f_Facts:=({ S_c.zero with f_First:=x0 }:S_c) }:S_a)).f_Facts) (strOf (some ([v63.1]:List Int))),Nat.zero_add,S_a.wr0 (({ S_a.zero with f_Facts:=({ S_c.zero with f_First:=x0 }:S_c) }:S_a)) (S_c.w3 ((({ S_a.zero with f_Facts:=({ S_c.zero with f_First:=x0 }:S_c) }:S_a)).f_Facts) (strOf (some ([v63.1]:List Int))))])
   have i84:=i76.up u83 r28
   have f85:=(u83.get _ (ne_len f14 q27)).trans f77
   have f86:=f71.up u83 (fun _=>(ne_len f37 q72).symm)
   obtain ⟨H87,a88,f89,u90⟩:=st_ok (M:=Mt) (t:=4) (v:=(.bool (true))) (c:=cBool true) (cs':=S_a.c (S_a.w1 (S_a.w0 (({ S_a.zero with f_Facts:=({ S_c.zero with f_First:=x0 }:S_c) }:S_a)) (S_c.w3 ((({ S_a.zero with f_Facts:=({ S_c.zero with f_First:=x0 }:S_c) }:S_a)).f_Facts) (strOf (some ([v63.1]:List Int))))) true)) f82 (by rw [enc_bool.len]; exact T.sz4) rfl (enc_bool.one _) (Nat.le_trans hcn r28) (Nat.le_trans (Nat.le_of_eq (congrArg _ (eqL enc_bool.len))) (Seg.refl.sub (S_a.seg1 (S_a.w0 (({ S_a.zero with f_Facts:=({ S_c.zero with f_First:=x0 }:S_c) }:S_a)) (S_c.w3 ((({ S_a.zero with f_Facts:=({ S_c.zero with f_First:=x0 }:S_c) }:S_a)).f_Facts) (strOf (some ([v63.1]:List Int))))))).2) (by rw [Nat.zero_add,S_a.wr1 (S_a.w0 (({ S_a.zero with f_Facts:=({ S_c.zero with f_First:=x0 }:S_c) }:S_a)) (S_c.w3 ((({ S_a.zero with f_Facts:=({ S_c.zero with f_First:=x0 }:S_c) }:S_a)).f_Facts) (strOf (some ([v63.1]:List Int))))) true])
   have i91:=i84.up u90 r28
   have f92:=(u90.get _ (ne_len f14 q27)).trans f85
   have f93:=f86.up u90 (fun _=>(ne_len f37 q72).symm)
   simp only [C.f86r4,R,Nat.reduceEqDiff,a70,cv_b2s (M:=Mt) (t:=128) (u:=9) f71.h Tryz.underlying128 Tryz.underlying9 Tryz.underlying5,fa107_0,fa54_3,a81,fa107_1,a88]
   refine hJ _ ?_
   refine n59 _ ?_
   exact ⟨S_a.zero,S_a.w1 (S_a.w0 (({ S_a.zero with f_Facts:=({ S_c.zero with f_First:=x0 }:S_c) }:S_a)) (S_c.w3 ((({ S_a.zero with f_Facts:=({ S_c.zero with f_First:=x0 }:S_c) }:S_a)).f_Facts) (strOf (some ([v63.1]:List Int))))) true,hm,rfl,rfl,f92,f89,i91⟩
  ·replace hm:=cond_f hm g67
   refine tk_skip okM ?_
   refine n59 _ ?_
   exact ⟨S_a.zero,({ S_a.zero with f_Facts:=({ S_c.zero with f_First:=x0 }:S_c) }:S_a),hm,rfl,rfl,f41,f37,i39⟩
def b_dn (n:Nat):Option (S_a):=some (({ S_a.zero with f_Facts:=({ S_c.zero with f_Open:=true }:S_c),f_whole:=true,f_none:=true }:S_a))
theorem w_fU {call:CallF} (hok:CallOk Mt call) {n:Nat} {H0:Hp} {r:S_a} {ro:Nat} (hro:ro ≤ H0.length) (hm:b_dn n = some r) :
  Pt Mt ro 87 [] H0 (vAgg (S_a.c (r))) H0 []:=by
 refine pt_new0 okM F87d (by exact Nat.le_of_ble_eq_true rfl) ?_ hro
 intro c hnt hnb hcr
 have hcn:c.ro ≤ c.nb:=by omega
 have iv:Iv c.nb [] H0 H0:=by rw [hnb]; exact iv_refl
 rw [show args0 [] = [] from rfl]
 rw [b_dn] at hm
 simp only [C.f87]
 refine tk_os okM hok fun J hJ=>?_
 obtain ⟨b1,H2,a3,f4,q5,r6,x7,i8⟩:=al_ok H0 107 (S_a.c S_a.zero) iv.le
 have i9:=i8 _ _ iv
 simp only [C.f87r0,R,Nat.reduceEqDiff,zs107,a3]
 refine hJ _ ?_
 refine tk_os okM hok fun J hJ=>?_
 obtain ⟨H11,a12,f13,u14⟩:=st_ok (M:=Mt) (t:=107) (v:=(vAgg (S_a.c (({ S_a.zero with f_Facts:=({ S_c.zero with f_Open:=true }:S_c),f_whole:=true,f_none:=true }:S_a))))) (c:=S_a.c (({ S_a.zero with f_Facts:=({ S_c.zero with f_Open:=true }:S_c),f_whole:=true,f_none:=true }:S_a))) (cs':=S_a.c (({ S_a.zero with f_Facts:=({ S_c.zero with f_Open:=true }:S_c),f_whole:=true,f_none:=true }:S_a))) f4 (by rw [S_a.enc.len]; exact T.sz107) vAgg_cells (S_a.enc.one _) (Nat.le_trans hcn r6) (le0 S_a.enc.len) (wrs_all (eqL S_a.enc.len))
 have i15:=i9.up u14 r6
 simp only [C.f87r1,R,Nat.reduceEqDiff,bd54_1,bd107_0_1_2,a12]
 refine hJ _ ?_
 refine tk_ret okM ?_
 obtain rfl:=Option.some.inj hm
 exact end_flat (.inl rfl) (vs:=[(vAgg (S_a.c (({ S_a.zero with f_Facts:=({ S_c.zero with f_Open:=true }:S_c),f_whole:=true,f_none:=true }:S_a))))]) (resC' (v:=(vAgg (S_a.c (({ S_a.zero with f_Facts:=({ S_c.zero with f_Open:=true }:S_c),f_whole:=true,f_none:=true }:S_a))))) rfl (ldv_of (ld_agg (M:=Mt) (t:=107) f13 T.ag107 (by rw [S_a.enc.len]; exact T.sz107) Seg.refl)) resN) (fm_cons (flat_agg S_a.enc _) fm_nil)
def b_es (c_cC:T_da) (n:Nat):Option (S_d):=(c_cC S_d.zero).bind fun v12=>some v12
theorem w_g1 {call:CallF} (hok:CallOk Mt call) {n:Nat} {c_cC:T_da} (z_fQ:A_eq call c_cC) {H0:Hp} {r:S_d} {ro:Nat} (hro:ro ≤ H0.length) (hm:b_es c_cC n = some r) :
  Pt Mt ro 88 [] H0 (vAgg (S_d.c (r))) H0 []:=by
 refine pt_new0 okM F88d (by exact Nat.le_of_ble_eq_true rfl) ?_ hro
 intro c hnt hnb hcr
 have hcn:c.ro ≤ c.nb:=by omega
 have iv:Iv c.nb [] H0 H0:=by rw [hnb]; exact iv_refl
 rw [show args0 [] = [] from rfl]
 rw [b_es] at hm
 simp only [C.f88]
 refine tk_os okM hok fun J hJ=>?_
 obtain ⟨b1,H2,a3,f4,q5,r6,x7,i8⟩:=al_ok H0 25 (S_d.c S_d.zero) iv.le
 have i9:=i8 _ _ iv
 simp only [C.f88r0,R,Nat.reduceEqDiff,zs25,a3]
 refine hJ _ ?_
 refine tk_os okM hok fun J hJ=>?_
 obtain ⟨v12,ev12,hm⟩:=bind_s hm
 have a11:=z_fQ c.ro H2 S_d.zero v12 ev12
 obtain ⟨H13,a14,f15,u16⟩:=st_ok (M:=Mt) (t:=25) (v:=(vAgg (S_d.c (v12)))) (c:=S_d.c v12) (cs':=S_d.c v12) f4 (by rw [S_d.enc.len]; exact T.sz25) vAgg_cells (S_d.enc.one _) (Nat.le_trans hcn r6) (le0 S_d.enc.len) (wrs_all (eqL S_d.enc.len))
 have i17:=i9.up u16 r6
 simp only [C.f88r1,R,Nat.reduceEqDiff,bd25_,c_fn F113,a11,a14]
 refine hJ _ ?_
 refine tk_ret okM ?_
 obtain rfl:=Option.some.inj hm
 exact end_flat (.inl rfl) (vs:=[(vAgg (S_d.c (v12)))]) (resC' (v:=(vAgg (S_d.c (v12)))) rfl (ldv_of (ld_agg (M:=Mt) (t:=25) f15 T.ag25 (by rw [S_d.enc.len]; exact T.sz25) Seg.refl)) resN) (fm_cons (flat_agg S_d.enc _) fm_nil)
def b_cq (c_p:T_R) (c_B:T_bD) (n:Nat) (x143:S_a) (x144:S_a):Option (S_a):=(c_B x144).bind fun v155=>some v155
def b_cp (c_p:T_R) (c_B:T_bD) (n:Nat) (x127:S_a) (x128:S_a) (x129:S_a) (x130:S_a):Option (S_a):=bif x127.f_whole then ((sadd x130.f_Facts.f_Prefix x128.f_Facts.f_Prefix).bind fun v168=>b_cq c_p c_B n x129 ({ x130 with f_Facts:={ x130.f_Facts with f_Prefix:=v168 } })) else (b_cq c_p c_B n x129 x130)
def b_dC (c_p:T_R) (c_B:T_bD) (n:Nat) (x0:S_a) (x1:S_a):Option (S_a):=bif x0.f_Facts.f_Open then ((c_p (((({ S_a.zero with f_Facts:=({ S_c.zero with f_First:=x0.f_Facts.f_First,f_Open:=x0.f_Facts.f_Open && x1.f_Facts.f_Open,f_Fast:=x0.f_Facts.f_Fast || (x1.f_Facts.f_Fast && x0.f_none),f_Prefix:=x0.f_Facts.f_Prefix }:S_c),f_whole:=x0.f_whole && x1.f_whole,f_none:=x0.f_none && x1.f_none }:S_a)).f_Facts).f_First) x1.f_Facts.f_First).bind fun v183=>b_cp c_p c_B n x0 x1 S_a.zero (S_a.w0 (({ S_a.zero with f_Facts:=({ S_c.zero with f_First:=x0.f_Facts.f_First,f_Open:=x0.f_Facts.f_Open && x1.f_Facts.f_Open,f_Fast:=x0.f_Facts.f_Fast || (x1.f_Facts.f_Fast && x0.f_none),f_Prefix:=x0.f_Facts.f_Prefix }:S_c),f_whole:=x0.f_whole && x1.f_whole,f_none:=x0.f_none && x1.f_none }:S_a)) (S_c.w0 ((({ S_a.zero with f_Facts:=({ S_c.zero with f_First:=x0.f_Facts.f_First,f_Open:=x0.f_Facts.f_Open && x1.f_Facts.f_Open,f_Fast:=x0.f_Facts.f_Fast || (x1.f_Facts.f_Fast && x0.f_none),f_Prefix:=x0.f_Facts.f_Prefix }:S_c),f_whole:=x0.f_whole && x1.f_whole,f_none:=x0.f_none && x1.f_none }:S_a)).f_Facts) v183))) else (b_cp c_p c_B n x0 x1 S_a.zero (({ S_a.zero with f_Facts:=({ S_c.zero with f_First:=x0.f_Facts.f_First,f_Open:=x0.f_Facts.f_Open && x1.f_Facts.f_Open,f_Fast:=x0.f_Facts.f_Fast || (x1.f_Facts.f_Fast && x0.f_none),f_Prefix:=x0.f_Facts.f_Prefix }:S_c),f_whole:=x0.f_whole && x1.f_whole,f_none:=x0.f_none && x1.f_none }:S_a)))
theorem w_gS {call:CallF} (hok:CallOk Mt call) {n:Nat} {c_p:T_R} (z_by:A_cR call c_p) {c_B:T_bD} (z_e7:A_dS call c_B) {H0:Hp} {x0:S_a} {x1:S_a} {r:S_a} {ro:Nat} (hro:ro ≤ H0.length) (hm:b_dC c_p c_B n x0 x1 = some r) :
  Pt Mt ro 89 [(vAgg (S_a.c x0)),(vAgg (S_a.c x1))] H0 (vAgg (S_a.c (r))) H0 []:=by
 refine pt_new0 okM F89d (by exact Nat.le_of_ble_eq_true rfl) ?_ hro
 intro c hnt hnb hcr
 have hcn:c.ro ≤ c.nb:=by omega
 have iv:Iv c.nb [] H0 H0:=by rw [hnb]; exact iv_refl
 rw [show args0 [(vAgg (S_a.c x0)),(vAgg (S_a.c x1))] = [(0,(vAgg (S_a.c x0))),(1,(vAgg (S_a.c x1)))] from rfl]
 rw [b_dC] at hm
 simp only [C.f89]
 refine tk_os okM hok fun J hJ=>?_
 obtain ⟨b1,H2,a3,f4,q5,r6,x7,i8⟩:=bx_ok (M:=Mt) (t:=107) (u:=(vAgg (S_a.c (x0)))) (cs:=S_a.c x0) H0 iv.le (by rw [S_a.enc.len]; exact T.sz107) vAgg_cells (S_a.enc.one _)
 have i9:=i8 _ _ iv
 obtain ⟨b11,H12,a13,f14,q15,r16,x17,i18⟩:=bx_ok (M:=Mt) (t:=107) (u:=(vAgg (S_a.c (x1)))) (cs:=S_a.c x1) H2 i9.le (by rw [S_a.enc.len]; exact T.sz107) vAgg_cells (S_a.enc.one _)
 have i19:=i18 _ _ i9
 have f20:=x17 _ _ f4
 obtain ⟨b22,H23,a24,f25,q26,r27,x28,i29⟩:=al_ok H12 107 (S_a.c S_a.zero) i19.le
 have i30:=i29 _ _ i19
 have f31:=x28 _ _ f20
 have f32:=x28 _ _ f14
 simp only [C.f89r0,R,Nat.reduceEqDiff,a3,a13,zs107,a24]
 refine hJ _ ?_
 refine tk_os okM hok fun J hJ=>?_
 rw [C.f89r1]
 have a34:=ld_agg (M:=Mt) (t:=25) f31 T.ag25 (by rw [S_d.enc.len]; exact T.sz25) ((Seg.refl.sub (S_a.seg0 x0)).sub (S_c.seg0 x0.f_Facts))
 have a35:=ld_one (M:=Mt) (t:=4) f31 T.ag4 ((Seg.refl.sub (S_a.seg0 x0)).sub (S_c.seg1 x0.f_Facts))
 refine rn_app_k (fun ⟨σ,H,_⟩=>Lk σ 2 (.pointer (some ⟨b1,0,none⟩)) ∧ Lk σ 3 (.pointer (some ⟨b11,0,none⟩)) ∧ Lk σ 4 (.pointer (some ⟨b22,0,none⟩)) ∧ Lk σ 8 (vAgg (S_d.c (x0.f_Facts.f_First))) ∧ Lk σ 16 (.bool (x0.f_Facts.f_Open && x1.f_Facts.f_Open)) ∧ H[b1]? = some (.cells (S_a.c x0) 107) ∧ H[b11]? = some (.cells (S_a.c x1) 107) ∧ H[b22]? = some (.cells (S_a.c S_a.zero) 107) ∧ Iv c.nb [] H0 H) (fun J hJ=>?_) ?_
 ·skip
  cases g47:x0.f_Facts.f_Open
  ·skip
   simp only [C.f89r1p0,R,Nat.reduceEqDiff,fa107_0,fa54_0,a34,fa54_1,a35,g47]
   refine hJ _ ?_
   exact ⟨rfl,rfl,rfl,(by first | rfl | (simp only [g47]; rfl) | simp only [g47,Lk,RB,Nat.reduceEqDiff,not_false_eq_true]),(by first | rfl | (simp only [g47]; rfl) | simp only [g47,Lk,RB,Nat.reduceEqDiff,not_false_eq_true]),f31,f32,f25,i30⟩
  ·skip
   have a48:=ld_one (M:=Mt) (t:=4) f32 T.ag4 ((Seg.refl.sub (S_a.seg0 x1)).sub (S_c.seg1 x1.f_Facts))
   simp only [C.f89r1p0,R,Nat.reduceEqDiff,fa107_0,fa54_0,a34,fa54_1,a35,g47,a48]
   refine hJ _ ?_
   exact ⟨rfl,rfl,rfl,(by first | rfl | (simp only [g47]; rfl) | simp only [g47,Lk,RB,Nat.reduceEqDiff,not_false_eq_true]),(by first | rfl | (simp only [g47]; rfl) | simp only [g47,Lk,RB,Nat.reduceEqDiff,not_false_eq_true]),f31,f32,f25,i30⟩
 rintro ⟨σ49,H37,d50⟩ ⟨h38,h39,h40,h41,h42,f43,f44,f45,i46⟩
 have a51:=ld_one (M:=Mt) (t:=4) f43 T.ag4 ((Seg.refl.sub (S_a.seg0 x0)).sub (S_c.seg2 x0.f_Facts))
 refine rn_app_k (fun ⟨σ,H,_⟩=>Lk σ 2 (.pointer (some ⟨b1,0,none⟩)) ∧ Lk σ 3 (.pointer (some ⟨b11,0,none⟩)) ∧ Lk σ 4 (.pointer (some ⟨b22,0,none⟩)) ∧ Lk σ 8 (vAgg (S_d.c (x0.f_Facts.f_First))) ∧ Lk σ 16 (.bool (x0.f_Facts.f_Open && x1.f_Facts.f_Open)) ∧ Lk σ 28 (.bool (x0.f_Facts.f_Fast || (x1.f_Facts.f_Fast && x0.f_none))) ∧ H[b1]? = some (.cells (S_a.c x0) 107) ∧ H[b11]? = some (.cells (S_a.c x1) 107) ∧ H[b22]? = some (.cells (S_a.c S_a.zero) 107) ∧ Iv c.nb [] H0 H) (fun J hJ=>?_) ?_
 ·skip
  cases g65:x0.f_Facts.f_Fast
  ·skip
   have a66:=ld_one (M:=Mt) (t:=4) f44 T.ag4 ((Seg.refl.sub (S_a.seg0 x1)).sub (S_c.seg2 x1.f_Facts))
   cases g68:x1.f_Facts.f_Fast
   ·skip
    simp only [C.f89r1p1,R,Nat.reduceEqDiff,fa107_0,h38,fa54_2,a51,g65,h39,a66,g68]
    refine hJ _ ?_
    exact ⟨h38,h39,h40,h41,h42,(by first | rfl | (simp only [g65,g68]; rfl) | simp only [g65,g68,Lk,RB,Nat.reduceEqDiff,not_false_eq_true]),f43,f44,f45,i46⟩
   ·skip
    have a69:=ld_one (M:=Mt) (t:=4) f43 T.ag4 (Seg.refl.sub (S_a.seg2 x0))
    simp only [C.f89r1p1,R,Nat.reduceEqDiff,fa107_0,h38,fa54_2,a51,g65,h39,a66,g68,fa107_2,a69]
    refine hJ _ ?_
    exact ⟨h38,h39,h40,h41,h42,(by first | rfl | (simp only [g65,g68]; rfl) | simp only [g65,g68,Lk,RB,Nat.reduceEqDiff,not_false_eq_true]),f43,f44,f45,i46⟩
  ·skip
   simp only [C.f89r1p1,R,Nat.reduceEqDiff,fa107_0,h38,fa54_2,a51,g65]
   refine hJ _ ?_
   exact ⟨h38,h39,h40,h41,h42,(by first | rfl | (simp only [g65]; rfl) | simp only [g65,Lk,RB,Nat.reduceEqDiff,not_false_eq_true]),f43,f44,f45,i46⟩
 rintro ⟨σ70,H54,d71⟩ ⟨h55,h56,h57,h58,h59,h60,f61,f62,f63,i64⟩
 have a72:=ld_one (M:=Mt) (t:=9) f61 T.ag9 ((Seg.refl.sub (S_a.seg0 x0)).sub (S_c.seg3 x0.f_Facts))
 have a73:=ld_one (M:=Mt) (t:=4) f61 T.ag4 (Seg.refl.sub (S_a.seg1 x0))
 refine rn_app_k (fun ⟨σ,H,_⟩=>Lk σ 2 (.pointer (some ⟨b1,0,none⟩)) ∧ Lk σ 3 (.pointer (some ⟨b11,0,none⟩)) ∧ Lk σ 4 (.pointer (some ⟨b22,0,none⟩)) ∧ Lk σ 32 (vAgg (S_c.c (({ S_c.zero with f_First:=x0.f_Facts.f_First,f_Open:=x0.f_Facts.f_Open && x1.f_Facts.f_Open,f_Fast:=x0.f_Facts.f_Fast || (x1.f_Facts.f_Fast && x0.f_none),f_Prefix:=x0.f_Facts.f_Prefix }:S_c)))) ∧ Lk σ 38 (.bool (x0.f_whole && x1.f_whole)) ∧ H[b1]? = some (.cells (S_a.c x0) 107) ∧ H[b11]? = some (.cells (S_a.c x1) 107) ∧ H[b22]? = some (.cells (S_a.c S_a.zero) 107) ∧ Iv c.nb [] H0 H) (fun J hJ=>?_) ?_
 ·skip
  cases g85:x0.f_whole
  ·skip
   simp only [C.f89r1p2,R,Nat.reduceEqDiff,fa107_0,h55,fa54_3,a72,bd54_0_1_2_3,h58,h59,h60,fa107_1,a73,g85]
   refine hJ _ ?_
   exact ⟨h55,h56,h57,(by first | rfl | (simp only [g85]; rfl) | simp only [g85,Lk,RB,Nat.reduceEqDiff,not_false_eq_true]),(by first | rfl | (simp only [g85]; rfl) | simp only [g85,Lk,RB,Nat.reduceEqDiff,not_false_eq_true]),f61,f62,f63,i64⟩
  ·skip
   have a86:=ld_one (M:=Mt) (t:=4) f62 T.ag4 (Seg.refl.sub (S_a.seg1 x1))
   simp only [C.f89r1p2,R,Nat.reduceEqDiff,fa107_0,h55,fa54_3,a72,bd54_0_1_2_3,h58,h59,h60,fa107_1,a73,g85,h56,a86]
   refine hJ _ ?_
   exact ⟨h55,h56,h57,(by first | rfl | (simp only [g85]; rfl) | simp only [g85,Lk,RB,Nat.reduceEqDiff,not_false_eq_true]),(by first | rfl | (simp only [g85]; rfl) | simp only [g85,Lk,RB,Nat.reduceEqDiff,not_false_eq_true]),f61,f62,f63,i64⟩
 rintro ⟨σ87,H75,d88⟩ ⟨h76,h77,h78,h79,h80,f81,f82,f83,i84⟩
 have a89:=ld_one (M:=Mt) (t:=4) f81 T.ag4 (Seg.refl.sub (S_a.seg2 x0))
 refine rn_app_k (fun ⟨σ,H,_⟩=>Lk σ 2 (.pointer (some ⟨b1,0,none⟩)) ∧ Lk σ 3 (.pointer (some ⟨b11,0,none⟩)) ∧ Lk σ 4 (.pointer (some ⟨b22,0,none⟩)) ∧ Lk σ 32 (vAgg (S_c.c (({ S_c.zero with f_First:=x0.f_Facts.f_First,f_Open:=x0.f_Facts.f_Open && x1.f_Facts.f_Open,f_Fast:=x0.f_Facts.f_Fast || (x1.f_Facts.f_Fast && x0.f_none),f_Prefix:=x0.f_Facts.f_Prefix }:S_c)))) ∧ Lk σ 38 (.bool (x0.f_whole && x1.f_whole)) ∧ Lk σ 44 (.bool (x0.f_none && x1.f_none)) ∧ H[b1]? = some (.cells (S_a.c x0) 107) ∧ H[b11]? = some (.cells (S_a.c x1) 107) ∧ H[b22]? = some (.cells (S_a.c S_a.zero) 107) ∧ Iv c.nb [] H0 H) (fun J hJ=>?_) ?_
 ·skip
  cases g102:x0.f_none
  ·skip
   simp only [C.f89r1p3,R,Nat.reduceEqDiff,fa107_2,h76,a89,g102]
   refine hJ _ ?_
   exact ⟨h76,h77,h78,h79,h80,(by first | rfl | (simp only [g102]; rfl) | simp only [g102,Lk,RB,Nat.reduceEqDiff,not_false_eq_true]),f81,f82,f83,i84⟩
  ·skip
   have a103:=ld_one (M:=Mt) (t:=4) f82 T.ag4 (Seg.refl.sub (S_a.seg2 x1))
   simp only [C.f89r1p3,R,Nat.reduceEqDiff,fa107_2,h76,a89,g102,h77,a103]
   refine hJ _ ?_
   exact ⟨h76,h77,h78,h79,h80,(by first | rfl | (simp only [g102]; rfl) | simp only [g102,Lk,RB,Nat.reduceEqDiff,not_false_eq_true]),f81,f82,f83,i84⟩
 rintro ⟨σ104,H91,d105⟩ ⟨h92,h93,h94,h95,h96,h97,f98,f99,f100,i101⟩
 obtain ⟨b106,H107,a108,f109,q110,r111,x112,i113⟩:=al_ok H91 107 (S_a.c S_a.zero) i101.le
 have i114:=i113 _ _ i101
 have f115:=x112 _ _ f98
 have f116:=x112 _ _ f99
 have f117:=x112 _ _ f100
 obtain ⟨H119,a120,f121,u122⟩:=st_ok (M:=Mt) (t:=107) (v:=(vAgg (S_a.c (({ S_a.zero with f_Facts:=({ S_c.zero with f_First:=x0.f_Facts.f_First,f_Open:=x0.f_Facts.f_Open && x1.f_Facts.f_Open,f_Fast:=x0.f_Facts.f_Fast || (x1.f_Facts.f_Fast && x0.f_none),f_Prefix:=x0.f_Facts.f_Prefix }:S_c),f_whole:=x0.f_whole && x1.f_whole,f_none:=x0.f_none && x1.f_none }:S_a))))) (c:=S_a.c (({ S_a.zero with f_Facts:=({ S_c.zero with f_First:=x0.f_Facts.f_First,f_Open:=x0.f_Facts.f_Open && x1.f_Facts.f_Open,f_Fast:=x0.f_Facts.f_Fast || (x1.f_Facts.f_Fast && x0.f_none),f_Prefix:=x0.f_Facts.f_Prefix }:S_c),f_whole:=x0.f_whole && x1.f_whole,f_none:=x0.f_none && x1.f_none }:S_a))) (cs':=S_a.c (({ S_a.zero with f_Facts:=({ S_c.zero with f_First:=x0.f_Facts.f_First,f_Open:=x0.f_Facts.f_Open && x1.f_Facts.f_Open,f_Fast:=x0.f_Facts.f_Fast || (x1.f_Facts.f_Fast && x0.f_none),f_Prefix:=x0.f_Facts.f_Prefix }:S_c),f_whole:=x0.f_whole && x1.f_whole,f_none:=x0.f_none && x1.f_none }:S_a))) f109 (by rw [S_a.enc.len]; exact T.sz107) vAgg_cells (S_a.enc.one _) (Nat.le_trans hcn r111) (le0 S_a.enc.len) (wrs_all (eqL S_a.enc.len))
 have i123:=i114.up u122 r111
 have f124:=(u122.get _ (ne_len f98 q110)).trans f115
 have f125:=(u122.get _ (ne_len f99 q110)).trans f116
 have f126:=(u122.get _ (ne_len f100 q110)).trans f117
 simp only [C.f89r1p4,R,Nat.reduceEqDiff,bd107_0_1_2,h95,h96,h97,zs107,a108,a120]
 refine hJ _ ?_
 refine tk_seq_j (fun ⟨σ,H,_⟩=>∃ x127 x128 x129 x130,b_cp c_p c_B n x127 x128 x129 x130 = some r ∧ Lk σ 2 (.pointer (some ⟨b1,0,none⟩)) ∧ Lk σ 3 (.pointer (some ⟨b11,0,none⟩)) ∧ Lk σ 4 (.pointer (some ⟨b22,0,none⟩)) ∧ Lk σ 5 (.pointer (some ⟨b106,0,none⟩)) ∧ H[b1]? = some (.cells (S_a.c x127) 107) ∧ H[b11]? = some (.cells (S_a.c x128) 107) ∧ H[b22]? = some (.cells (S_a.c x129) 107) ∧ H[b106]? = some (.cells (S_a.c x130) 107) ∧ Iv c.nb [] H0 H) ?_ ?_
 ·skip
  rintro ⟨σ141,H131,d142⟩ ⟨x127,x128,x129,x130,hm,h132,h133,h134,h135,f136,f137,f138,f139,i140⟩
  rw [b_cp] at hm
  refine tk_seq_j (fun ⟨σ,H,_⟩=>∃ x143 x144,b_cq c_p c_B n x143 x144 = some r ∧ Lk σ 4 (.pointer (some ⟨b22,0,none⟩)) ∧ Lk σ 5 (.pointer (some ⟨b106,0,none⟩)) ∧ H[b22]? = some (.cells (S_a.c x143) 107) ∧ H[b106]? = some (.cells (S_a.c x144) 107) ∧ Iv c.nb [] H0 H) ?_ ?_
  ·skip
   rintro ⟨σ151,H145,d152⟩ ⟨x143,x144,hm,h146,h147,f148,f149,i150⟩
   rw [b_cq] at hm
   refine tk_os okM hok fun J hJ=>?_
   have a153:=ld_agg (M:=Mt) (t:=107) f149 T.ag107 (by rw [S_a.enc.len]; exact T.sz107) Seg.refl
   obtain ⟨v155,ev155,hm⟩:=bind_s hm
   have a154:=z_e7 c.ro H145 x144 v155 ev155
   obtain ⟨H156,a157,f158,u159⟩:=st_ok (M:=Mt) (t:=107) (v:=(vAgg (S_a.c (v155)))) (c:=S_a.c v155) (cs':=S_a.c v155) f148 (by rw [S_a.enc.len]; exact T.sz107) vAgg_cells (S_a.enc.one _) (Nat.le_trans hcn r27) (le0 S_a.enc.len) (wrs_all (eqL S_a.enc.len))
   have i160:=i150.up u159 r27
   have f161:=(u159.get _ (ne_len f100 q110).symm).trans f149
   simp only [C.f89r6,R,Nat.reduceEqDiff,a153,h147,c_fn F121,a154,a157,h146]
   refine hJ _ ?_
   refine tk_ret okM ?_
   obtain rfl:=Option.some.inj hm
   exact end_flat (.inl rfl) (vs:=[(vAgg (S_a.c (v155)))]) (resC' (v:=(vAgg (S_a.c (v155)))) h146 (ldv_of (ld_agg (M:=Mt) (t:=107) f158 T.ag107 (by rw [S_a.enc.len]; exact T.sz107) Seg.refl)) resN) (fm_cons (flat_agg S_a.enc _) fm_nil)
  ·refine fun K n162 x163=>?_
   refine tk_os okM hok fun J hJ=>?_
   have a164:=ld_one (M:=Mt) (t:=4) f136 T.ag4 (Seg.refl.sub (S_a.seg1 x127))
   simp only [C.f89r4,R,Nat.reduceEqDiff,fa107_1,h132,a164]
   refine hJ _ ?_
   refine tk_cond (t:=x127.f_whole) rfl (fun g165=>?_) (fun g165=>?_)
   ·replace hm:=cond_t hm g165
    refine tk_oe okM hok fun J hJ=>?_
    have a166:=ld_one (M:=Mt) (t:=9) f139 T.ag9 ((Seg.refl.sub (S_a.seg0 x130)).sub (S_c.seg3 x130.f_Facts))
    have a167:=ld_one (M:=Mt) (t:=9) f137 T.ag9 ((Seg.refl.sub (S_a.seg0 x128)).sub (S_c.seg3 x128.f_Facts))
    obtain ⟨v168,ev168,hm⟩:=bind_s hm
    obtain ⟨H169,a170,f171,u172⟩:=st_ok (M:=Mt) (t:=9) (v:=(.string (v168))) (c:=cStr v168) (cs':=S_a.c ({ x130 with f_Facts:={ x130.f_Facts with f_Prefix:=v168 } })) f139 (by rw [enc_str.len]; exact T.sz9) rfl (enc_str.one _) (Nat.le_trans hcn r111) (Nat.le_trans (Nat.le_of_eq (congrArg _ (eqL enc_str.len))) ((Seg.refl.sub (S_a.seg0 x130)).sub (S_c.seg3 x130.f_Facts)).2) (by rw [wrs_in (Seg.refl.sub (S_a.seg0 x130)) (by have:=trivial; simp only [enc_str.len,S_c.enc.len]; omega),S_c.wr3 x130.f_Facts v168,Nat.zero_add,S_a.wr0 x130 ({ x130.f_Facts with f_Prefix:=v168 })])
    have i173:=i140.up u172 r111
    have f174:=(u172.get _ (ne_len f99 q110)).trans f137
    have f175:=(u172.get _ (ne_len f100 q110)).trans f138
    simp only [C.f89r5,R,Nat.reduceEqDiff,fa107_0,h135,fa54_3,a166,h133,a167,ev168,a170]
    refine hJ _ ?_
    refine n162 _ ?_
    exact ⟨x129,{ x130 with f_Facts:={ x130.f_Facts with f_Prefix:=v168 } },hm,h134,h135,f175,f171,i173⟩
   ·replace hm:=cond_f hm g165
    refine tk_skip okM ?_
    refine n162 _ ?_
    exact ⟨x129,x130,hm,h134,h135,f138,f139,i140⟩
 ·refine fun K n176 x177=>?_
  refine tk_os okM hok fun J hJ=>?_
  have a178:=ld_one (M:=Mt) (t:=4) f124 T.ag4 ((Seg.refl.sub (S_a.seg0 x0)).sub (S_c.seg1 x0.f_Facts))
  simp only [C.f89r2,R,Nat.reduceEqDiff,fa107_0,h92,fa54_1,a178]
  refine hJ _ ?_
  refine tk_cond (t:=x0.f_Facts.f_Open) rfl (fun g179=>?_) (fun g179=>?_)
  ·replace hm:=cond_t hm g179
   refine tk_oe okM hok fun J hJ=>?_
   have a180:=ld_agg (M:=Mt) (t:=25) f121 T.ag25 (by rw [S_d.enc.len]; exact T.sz25) ((Seg.refl.sub (S_a.seg0 (({ S_a.zero with f_Facts:=({ S_c.zero with f_First:=x0.f_Facts.f_First,f_Open:=x0.f_Facts.f_Open && x1.f_Facts.f_Open,f_Fast:=x0.f_Facts.f_Fast || (x1.f_Facts.f_Fast && x0.f_none),f_Prefix:=x0.f_Facts.f_Prefix }:S_c),f_whole:=x0.f_whole && x1.f_whole,f_none:=x0.f_none && x1.f_none }:S_a)))).sub (S_c.seg0 ((({ S_a.zero with f_Facts:=({ S_c.zero with f_First:=x0.f_Facts.f_First,f_Open:=x0.f_Facts.f_Open && x1.f_Facts.f_Open,f_Fast:=x0.f_Facts.f_Fast || (x1.f_Facts.f_Fast && x0.f_none),f_Prefix:=x0.f_Facts.f_Prefix }:S_c),f_whole:=x0.f_whole && x1.f_whole,f_none:=x0.f_none && x1.f_none }:S_a)).f_Facts)))
   have a181:=ld_agg (M:=Mt) (t:=25) f125 T.ag25 (by rw [S_d.enc.len]; exact T.sz25) ((Seg.refl.sub (S_a.seg0 x1)).sub (S_c.seg0 x1.f_Facts))
   obtain ⟨v183,ev183,hm⟩:=bind_s hm
   have a182:=z_by c.ro H119 (((({ S_a.zero with f_Facts:=({ S_c.zero with f_First:=x0.f_Facts.f_First,f_Open:=x0.f_Facts.f_Open && x1.f_Facts.f_Open,f_Fast:=x0.f_Facts.f_Fast || (x1.f_Facts.f_Fast && x0.f_none),f_Prefix:=x0.f_Facts.f_Prefix }:S_c),f_whole:=x0.f_whole && x1.f_whole,f_none:=x0.f_none && x1.f_none }:S_a)).f_Facts).f_First) x1.f_Facts.f_First v183 ev183
   obtain ⟨H184,a185,f186,u187⟩:=st_ok (M:=Mt) (t:=25) (v:=(vAgg (S_d.c (v183)))) (c:=S_d.c v183) (cs':=S_a.c (S_a.w0 (({ S_a.zero with f_Facts:=({ S_c.zero with f_First:=x0.f_Facts.f_First,f_Open:=x0.f_Facts.f_Open && x1.f_Facts.f_Open,f_Fast:=x0.f_Facts.f_Fast || (x1.f_Facts.f_Fast && x0.f_none),f_Prefix:=x0.f_Facts.f_Prefix }:S_c),f_whole:=x0.f_whole && x1.f_whole,f_none:=x0.f_none && x1.f_none }:S_a)) (S_c.w0 ((({ S_a.zero with f_Facts:=({ S_c.zero with f_First:=x0.f_Facts.f_First,f_Open:=x0.f_Facts.f_Open && x1.f_Facts.f_Open,f_Fast:=x0.f_Facts.f_Fast || (x1.f_Facts.f_Fast && x0.f_none),f_Prefix:=x0.f_Facts.f_Prefix }:S_c),f_whole:=x0.f_whole && x1.f_whole,f_none:=x0.f_none && x1.f_none }:S_a)).f_Facts) v183))) f121 (by rw [S_d.enc.len]; exact T.sz25) vAgg_cells (S_d.enc.one _) (Nat.le_trans hcn r111) (Nat.le_trans (Nat.le_of_eq (congrArg _ (eqL S_d.enc.len))) ((Seg.refl.sub (S_a.seg0 (({ S_a.zero with f_Facts:=({ S_c.zero with f_First:=x0.f_Facts.f_First,f_Open:=x0.f_Facts.f_Open && x1.f_Facts.f_Open,f_Fast:=x0.f_Facts.f_Fast || (x1.f_Facts.f_Fast && x0.f_none),f_Prefix:=x0.f_Facts.f_Prefix }:S_c),f_whole:=x0.f_whole && x1.f_whole,f_none:=x0.f_none && x1.f_none }:S_a)))).sub (S_c.seg0 ((({ S_a.zero with f_Facts:=({ S_c.zero with f_First:=x0.f_Facts.f_First,f_Open:=x0.f_Facts.f_Open && x1.f_Facts.f_Open,f_Fast:=x0.f_Facts.f_Fast || (x1.f_Facts.f_Fast && x0.f_none),f_Prefix:=x0.f_Facts.f_Prefix }:S_c),f_whole:=x0.f_whole && x1.f_whole,f_none:=x0.f_none && x1.f_none }:S_a)).f_Facts))).2) (by rw [wrs_in (Seg.refl.sub (S_a.seg0 (({ S_a.zero with f_Facts:=({ S_c.zero with f_First:=x0.f_Facts.f_First,f_Open:=x0.f_Facts.f_Open && x1.f_Facts.f_Open,f_Fast:=x0.f_Facts.f_Fast || (x1.f_Facts.f_Fast && x0.f_none),f_Prefix:=x0.f_Facts.f_Prefix }:S_c),f_whole:=x0.f_whole && x1.f_whole,f_none:=x0.f_none && x1.f_none }:S_a)))) (by have:=trivial; simp only [S_d.enc.len,S_c.enc.len]; omega),S_c.wr0 ((({ S_a.zero with f_Facts:=({ S_c.zero with f_First:=x0.f_Facts.f_First,f_Open:=x0.f_Facts.f_Open && x1.f_Facts.f_Open,f_Fast:=x0.f_Facts.f_Fast || (x1.f_Facts.f_Fast && x0.f_none),f_Prefix:=x0.f_Facts.f_Prefix }:S_c),f_whole:=x0.f_whole && x1.f_whole,f_none:=x0.f_none && x1.f_none }:S_a)).f_Facts) v183,Nat.zero_add,S_a.wr0 (({ S_a.zero with f_Facts:=({ S_c.zero with f_First:=x0.f_Facts.f_First,f_Open:=x0.f_Facts.f_Open && x1.f_Facts.f_Open,f_Fast:=x0.f_Facts.f_Fast || (x1.f_Facts.f_Fast && x0.f_none),f_Prefix:=x0.f_Facts.f_Prefix }:S_c),f_whole:=x0.f_whole && x1.f_whole,f_none:=x0.f_none && x1.f_none }:S_a)) (S_c.w0 ((({ S_a.zero with f_Facts:=({ S_c.zero with f_First:=x0.f_Facts.f_First,f_Open:=x0.f_Facts.f_Open && x1.f_Facts.f_Open,f_Fast:=x0.f_Facts.f_Fast || (x1.f_Facts.f_Fast && x0.f_none),f_Prefix:=x0.f_Facts.f_Prefix }:S_c),f_whole:=x0.f_whole && x1.f_whole,f_none:=x0.f_none && x1.f_none }:S_a)).f_Facts) v183)])
   have i188:=i123.up u187 r111
   have f189:=(u187.get _ (ne_len f98 q110)).trans f124
   have f190:=(u187.get _ (ne_len f99 q110)).trans f125
   have f191:=(u187.get _ (ne_len f100 q110)).trans f126
   simp only [C.f89r3,R,Nat.reduceEqDiff,fa107_0,fa54_0,a180,h93,a181,c_fn F38,a182,a185]
   refine hJ _ ?_
   refine n176 _ ?_
   exact ⟨x0,x1,S_a.zero,S_a.w0 (({ S_a.zero with f_Facts:=({ S_c.zero with f_First:=x0.f_Facts.f_First,f_Open:=x0.f_Facts.f_Open && x1.f_Facts.f_Open,f_Fast:=x0.f_Facts.f_Fast || (x1.f_Facts.f_Fast && x0.f_none),f_Prefix:=x0.f_Facts.f_Prefix }:S_c),f_whole:=x0.f_whole && x1.f_whole,f_none:=x0.f_none && x1.f_none }:S_a)) (S_c.w0 ((({ S_a.zero with f_Facts:=({ S_c.zero with f_First:=x0.f_Facts.f_First,f_Open:=x0.f_Facts.f_Open && x1.f_Facts.f_Open,f_Fast:=x0.f_Facts.f_Fast || (x1.f_Facts.f_Fast && x0.f_none),f_Prefix:=x0.f_Facts.f_Prefix }:S_c),f_whole:=x0.f_whole && x1.f_whole,f_none:=x0.f_none && x1.f_none }:S_a)).f_Facts) v183),hm,h92,h93,h94,rfl,f189,f190,f191,f186,i188⟩
  ·replace hm:=cond_f hm g179
   refine tk_skip okM ?_
   refine n176 _ ?_
   exact ⟨x0,x1,S_a.zero,({ S_a.zero with f_Facts:=({ S_c.zero with f_First:=x0.f_Facts.f_First,f_Open:=x0.f_Facts.f_Open && x1.f_Facts.f_Open,f_Fast:=x0.f_Facts.f_Fast || (x1.f_Facts.f_Fast && x0.f_none),f_Prefix:=x0.f_Facts.f_Prefix }:S_c),f_whole:=x0.f_whole && x1.f_whole,f_none:=x0.f_none && x1.f_none }:S_a),hm,h92,h93,h94,rfl,f124,f125,f126,f121,i123⟩
def b_dE (c_p:T_R) (n:Nat) (x0:S_a) (x1:S_a):Option (S_a):=(c_p x0.f_Facts.f_First x1.f_Facts.f_First).bind fun v37=>some (({ S_a.zero with f_Facts:=({ S_c.zero with f_First:=v37,f_Open:=x0.f_Facts.f_Open || x1.f_Facts.f_Open,f_Fast:=x0.f_Facts.f_Fast && x1.f_Facts.f_Fast,f_Prefix:=(⟨#[]⟩:ByteArray) }:S_c),f_whole:=false,f_none:=x0.f_none && x1.f_none }:S_a))
theorem w_g2 {call:CallF} (hok:CallOk Mt call) {n:Nat} {c_p:T_R} (z_by:A_cR call c_p) {H0:Hp} {x0:S_a} {x1:S_a} {r:S_a} {ro:Nat} (hro:ro ≤ H0.length) (hm:b_dE c_p n x0 x1 = some r) :
  Pt Mt ro 90 [(vAgg (S_a.c x0)),(vAgg (S_a.c x1))] H0 (vAgg (S_a.c (r))) H0 []:=by
 refine pt_new0 okM F90d (by exact Nat.le_of_ble_eq_true rfl) ?_ hro
 intro c hnt hnb hcr
 have hcn:c.ro ≤ c.nb:=by omega
 have iv:Iv c.nb [] H0 H0:=by rw [hnb]; exact iv_refl
 rw [show args0 [(vAgg (S_a.c x0)),(vAgg (S_a.c x1))] = [(0,(vAgg (S_a.c x0))),(1,(vAgg (S_a.c x1)))] from rfl]
 rw [b_dE] at hm
 simp only [C.f90]
 refine tk_os okM hok fun J hJ=>?_
 obtain ⟨b1,H2,a3,f4,q5,r6,x7,i8⟩:=bx_ok (M:=Mt) (t:=107) (u:=(vAgg (S_a.c (x0)))) (cs:=S_a.c x0) H0 iv.le (by rw [S_a.enc.len]; exact T.sz107) vAgg_cells (S_a.enc.one _)
 have i9:=i8 _ _ iv
 obtain ⟨b11,H12,a13,f14,q15,r16,x17,i18⟩:=bx_ok (M:=Mt) (t:=107) (u:=(vAgg (S_a.c (x1)))) (cs:=S_a.c x1) H2 i9.le (by rw [S_a.enc.len]; exact T.sz107) vAgg_cells (S_a.enc.one _)
 have i19:=i18 _ _ i9
 have f20:=x17 _ _ f4
 obtain ⟨b22,H23,a24,f25,q26,r27,x28,i29⟩:=al_ok H12 107 (S_a.c S_a.zero) i19.le
 have i30:=i29 _ _ i19
 have f31:=x28 _ _ f20
 have f32:=x28 _ _ f14
 simp only [C.f90r0,R,Nat.reduceEqDiff,a3,a13,zs107,a24]
 refine hJ _ ?_
 refine tk_os okM hok fun J hJ=>?_
 rw [C.f90r1]
 have a34:=ld_agg (M:=Mt) (t:=25) f31 T.ag25 (by rw [S_d.enc.len]; exact T.sz25) ((Seg.refl.sub (S_a.seg0 x0)).sub (S_c.seg0 x0.f_Facts))
 have a35:=ld_agg (M:=Mt) (t:=25) f32 T.ag25 (by rw [S_d.enc.len]; exact T.sz25) ((Seg.refl.sub (S_a.seg0 x1)).sub (S_c.seg0 x1.f_Facts))
 obtain ⟨v37,ev37,hm⟩:=bind_s hm
 have a36:=z_by H23.length H23 x0.f_Facts.f_First x1.f_Facts.f_First v37 ev37
 have a38:=ld_one (M:=Mt) (t:=4) f31 T.ag4 ((Seg.refl.sub (S_a.seg0 x0)).sub (S_c.seg1 x0.f_Facts))
 refine rn_app_k (fun ⟨σ,H,_⟩=>Lk σ 2 (.pointer (some ⟨b1,0,none⟩)) ∧ Lk σ 3 (.pointer (some ⟨b11,0,none⟩)) ∧ Lk σ 4 (.pointer (some ⟨b22,0,none⟩)) ∧ Lk σ 11 (vAgg (S_d.c (v37))) ∧ Lk σ 19 (.bool (x0.f_Facts.f_Open || x1.f_Facts.f_Open)) ∧ H[b1]? = some (.cells (S_a.c x0) 107) ∧ H[b11]? = some (.cells (S_a.c x1) 107) ∧ H[b22]? = some (.cells (S_a.c S_a.zero) 107) ∧ Iv c.nb [] H0 H) (fun J hJ=>?_) ?_
 ·skip
  cases g50:x0.f_Facts.f_Open
  ·skip
   have a51:=ld_one (M:=Mt) (t:=4) f32 T.ag4 ((Seg.refl.sub (S_a.seg0 x1)).sub (S_c.seg1 x1.f_Facts))
   simp only [C.f90r1p0,R,Nat.reduceEqDiff,s_pt,s_gt,isW,Bool.false_eq_true,if_false,if_true,reduceIte,fa107_0,fa54_0,a34,a35,c_fn F38,a36,fa54_1,a38,g50,a51]
   refine hJ _ ?_
   exact ⟨rfl,rfl,rfl,(by first | rfl | (simp only [g50]; rfl) | simp only [g50,Lk,RB,Nat.reduceEqDiff,not_false_eq_true]),(by first | rfl | (simp only [g50]; rfl) | simp only [g50,Lk,RB,Nat.reduceEqDiff,not_false_eq_true]),f31,f32,f25,i30⟩
  ·skip
   simp only [C.f90r1p0,R,Nat.reduceEqDiff,s_pt,s_gt,isW,Bool.false_eq_true,if_false,if_true,reduceIte,fa107_0,fa54_0,a34,a35,c_fn F38,a36,fa54_1,a38,g50]
   refine hJ _ ?_
   exact ⟨rfl,rfl,rfl,(by first | rfl | (simp only [g50]; rfl) | simp only [g50,Lk,RB,Nat.reduceEqDiff,not_false_eq_true]),(by first | rfl | (simp only [g50]; rfl) | simp only [g50,Lk,RB,Nat.reduceEqDiff,not_false_eq_true]),f31,f32,f25,i30⟩
 rintro ⟨σ52,H40,d53⟩ ⟨h41,h42,h43,h44,h45,f46,f47,f48,i49⟩
 have a54:=ld_one (M:=Mt) (t:=4) f46 T.ag4 ((Seg.refl.sub (S_a.seg0 x0)).sub (S_c.seg2 x0.f_Facts))
 refine rn_app_k (fun ⟨σ,H,_⟩=>Lk σ 2 (.pointer (some ⟨b1,0,none⟩)) ∧ Lk σ 3 (.pointer (some ⟨b11,0,none⟩)) ∧ Lk σ 4 (.pointer (some ⟨b22,0,none⟩)) ∧ Lk σ 11 (vAgg (S_d.c (v37))) ∧ Lk σ 19 (.bool (x0.f_Facts.f_Open || x1.f_Facts.f_Open)) ∧ Lk σ 27 (.bool (x0.f_Facts.f_Fast && x1.f_Facts.f_Fast)) ∧ H[b1]? = some (.cells (S_a.c x0) 107) ∧ H[b11]? = some (.cells (S_a.c x1) 107) ∧ H[b22]? = some (.cells (S_a.c S_a.zero) 107) ∧ Iv c.nb [] H0 H) (fun J hJ=>?_) ?_
 ·skip
  cases g67:x0.f_Facts.f_Fast
  ·skip
   simp only [C.f90r1p1,R,Nat.reduceEqDiff,s_pt,s_gt,isW,Bool.false_eq_true,if_false,if_true,reduceIte,fa107_0,h41,fa54_2,a54,g67]
   refine hJ _ ?_
   exact ⟨h41,h42,h43,h44,h45,(by first | rfl | (simp only [g67]; rfl) | simp only [g67,Lk,RB,Nat.reduceEqDiff,not_false_eq_true]),f46,f47,f48,i49⟩
  ·skip
   have a68:=ld_one (M:=Mt) (t:=4) f47 T.ag4 ((Seg.refl.sub (S_a.seg0 x1)).sub (S_c.seg2 x1.f_Facts))
   simp only [C.f90r1p1,R,Nat.reduceEqDiff,s_pt,s_gt,isW,Bool.false_eq_true,if_false,if_true,reduceIte,fa107_0,h41,fa54_2,a54,g67,h42,a68]
   refine hJ _ ?_
   exact ⟨h41,h42,h43,h44,h45,(by first | rfl | (simp only [g67]; rfl) | simp only [g67,Lk,RB,Nat.reduceEqDiff,not_false_eq_true]),f46,f47,f48,i49⟩
 rintro ⟨σ69,H56,d70⟩ ⟨h57,h58,h59,h60,h61,h62,f63,f64,f65,i66⟩
 have a71:=ld_one (M:=Mt) (t:=4) f63 T.ag4 (Seg.refl.sub (S_a.seg2 x0))
 refine rn_app_k (fun ⟨σ,H,_⟩=>Lk σ 4 (.pointer (some ⟨b22,0,none⟩)) ∧ Lk σ 28 (vAgg (S_c.c (({ S_c.zero with f_First:=v37,f_Open:=x0.f_Facts.f_Open || x1.f_Facts.f_Open,f_Fast:=x0.f_Facts.f_Fast && x1.f_Facts.f_Fast,f_Prefix:=(⟨#[]⟩:ByteArray) }:S_c)))) ∧ Lk σ 34 (.bool (x0.f_none && x1.f_none)) ∧ H[b22]? = some (.cells (S_a.c S_a.zero) 107) ∧ Iv c.nb [] H0 H) (fun J hJ=>?_) ?_
 ·skip
  cases g79:x0.f_none
  ·skip
   simp only [C.f90r1p2,R,Nat.reduceEqDiff,s_pt,s_gt,isW,Bool.false_eq_true,if_false,if_true,reduceIte,bd54_0_1_2_3,h60,h61,h62,fa107_2,h57,a71,g79]
   refine hJ _ ?_
   exact ⟨h59,(by first | rfl | (simp only [g79]; rfl) | simp only [g79,Lk,RB,Nat.reduceEqDiff,not_false_eq_true]),(by first | rfl | (simp only [g79]; rfl) | simp only [g79,Lk,RB,Nat.reduceEqDiff,not_false_eq_true]),f65,i66⟩
  ·skip
   have a80:=ld_one (M:=Mt) (t:=4) f64 T.ag4 (Seg.refl.sub (S_a.seg2 x1))
   simp only [C.f90r1p2,R,Nat.reduceEqDiff,s_pt,s_gt,isW,Bool.false_eq_true,if_false,if_true,reduceIte,bd54_0_1_2_3,h60,h61,h62,fa107_2,h57,a71,g79,h58,a80]
   refine hJ _ ?_
   exact ⟨h59,(by first | rfl | (simp only [g79]; rfl) | simp only [g79,Lk,RB,Nat.reduceEqDiff,not_false_eq_true]),(by first | rfl | (simp only [g79]; rfl) | simp only [g79,Lk,RB,Nat.reduceEqDiff,not_false_eq_true]),f65,i66⟩
 rintro ⟨σ81,H73,d82⟩ ⟨h74,h75,h76,f77,i78⟩
 obtain ⟨H83,a84,f85,u86⟩:=st_ok (M:=Mt) (t:=107) (v:=(vAgg (S_a.c (({ S_a.zero with f_Facts:=({ S_c.zero with f_First:=v37,f_Open:=x0.f_Facts.f_Open || x1.f_Facts.f_Open,f_Fast:=x0.f_Facts.f_Fast && x1.f_Facts.f_Fast,f_Prefix:=(⟨#[]⟩:ByteArray) }:S_c),f_whole:=false,f_none:=x0.f_none && x1.f_none }:S_a))))) (c:=S_a.c (({ S_a.zero with f_Facts:=({ S_c.zero with f_First:=v37,f_Open:=x0.f_Facts.f_Open || x1.f_Facts.f_Open,f_Fast:=x0.f_Facts.f_Fast && x1.f_Facts.f_Fast,f_Prefix:=(⟨#[]⟩:ByteArray) }:S_c),f_whole:=false,f_none:=x0.f_none && x1.f_none }:S_a))) (cs':=S_a.c (({ S_a.zero with f_Facts:=({ S_c.zero with f_First:=v37,f_Open:=x0.f_Facts.f_Open || x1.f_Facts.f_Open,f_Fast:=x0.f_Facts.f_Fast && x1.f_Facts.f_Fast,f_Prefix:=(⟨#[]⟩:ByteArray) }:S_c),f_whole:=false,f_none:=x0.f_none && x1.f_none }:S_a))) f77 (by rw [S_a.enc.len]; exact T.sz107) vAgg_cells (S_a.enc.one _) (Nat.le_trans hcn r27) (le0 S_a.enc.len) (wrs_all (eqL S_a.enc.len))
 have i87:=i78.up u86 r27
 simp only [C.f90r1p3,R,Nat.reduceEqDiff,s_pt,s_gt,isW,Bool.false_eq_true,if_false,if_true,reduceIte,bd107_0_1_2,h75,h76,a84,h74]
 refine hJ _ ?_
 refine tk_ret okM ?_
 obtain rfl:=Option.some.inj hm
 exact end_flat (.inl rfl) (vs:=[(vAgg (S_a.c (({ S_a.zero with f_Facts:=({ S_c.zero with f_First:=v37,f_Open:=x0.f_Facts.f_Open || x1.f_Facts.f_Open,f_Fast:=x0.f_Facts.f_Fast && x1.f_Facts.f_Fast,f_Prefix:=(⟨#[]⟩:ByteArray) }:S_c),f_whole:=false,f_none:=x0.f_none && x1.f_none }:S_a))))]) (resC' (v:=(vAgg (S_a.c (({ S_a.zero with f_Facts:=({ S_c.zero with f_First:=v37,f_Open:=x0.f_Facts.f_Open || x1.f_Facts.f_Open,f_Fast:=x0.f_Facts.f_Fast && x1.f_Facts.f_Fast,f_Prefix:=(⟨#[]⟩:ByteArray) }:S_c),f_whole:=false,f_none:=x0.f_none && x1.f_none }:S_a))))) h74 (ldv_of (ld_agg (M:=Mt) (t:=107) f85 T.ag107 (by rw [S_a.enc.len]; exact T.sz107) Seg.refl)) resN) (fm_cons (flat_agg S_a.enc _) fm_nil)
def b_co (c_h:T_M) (n:Nat) (x34:S_a) (x36:S_a):Option (S_a):=some x36
def b_bP (c_h:T_M) (n:Nat) (x171:S_a) (x172:S_a):Option (S_a):=some x172
def b_cL (c_h:T_M) (n:Nat) (x0:S_b) (x1:S_a):Option (S_a):=(c_h).bind fun v63=>bif decide (x0.f_Max = 0) then (b_co c_h n S_a.zero v63) else (bif decide (0 < x0.f_Min) then (b_bP c_h n S_a.zero (S_a.w0 (({ S_a.zero with f_Facts:=({ S_c.zero with f_First:=x1.f_Facts.f_First,f_Open:=x1.f_Facts.f_Open || (decide (x0.f_Min = 0)),f_Fast:=x1.f_Facts.f_Fast && (decide (0 < x0.f_Min)),f_Prefix:=(⟨#[]⟩:ByteArray) }:S_c),f_whole:=(x1.f_whole && (decide (x0.f_Min = 1))) && (decide (x0.f_Max = 1)),f_none:=x1.f_none }:S_a)) (S_c.w3 ((({ S_a.zero with f_Facts:=({ S_c.zero with f_First:=x1.f_Facts.f_First,f_Open:=x1.f_Facts.f_Open || (decide (x0.f_Min = 0)),f_Fast:=x1.f_Facts.f_Fast && (decide (0 < x0.f_Min)),f_Prefix:=(⟨#[]⟩:ByteArray) }:S_c),f_whole:=(x1.f_whole && (decide (x0.f_Min = 1))) && (decide (x0.f_Max = 1)),f_none:=x1.f_none }:S_a)).f_Facts) x1.f_Facts.f_Prefix))) else (b_bP c_h n S_a.zero (({ S_a.zero with f_Facts:=({ S_c.zero with f_First:=x1.f_Facts.f_First,f_Open:=x1.f_Facts.f_Open || (decide (x0.f_Min = 0)),f_Fast:=x1.f_Facts.f_Fast && (decide (0 < x0.f_Min)),f_Prefix:=(⟨#[]⟩:ByteArray) }:S_c),f_whole:=(x1.f_whole && (decide (x0.f_Min = 1))) && (decide (x0.f_Max = 1)),f_none:=x1.f_none }:S_a))))
theorem w_gg {call:CallF} (hok:CallOk Mt call) {n:Nat} {c_h:T_M} (z_cm:A_dj call c_h) {H0:Hp} {x0:S_b} {x1:S_a} {r:S_a} {ro:Nat} (hro:ro ≤ H0.length) (hm:b_cL c_h n x0 x1 = some r) :
  Pt Mt ro 91 [(vAgg (S_b.c x0)),(vAgg (S_a.c x1))] H0 (vAgg (S_a.c (r))) H0 []:=by
 refine pt_new0 okM F91d (by exact Nat.le_of_ble_eq_true rfl) ?_ hro
 intro c hnt hnb hcr
 have hcn:c.ro ≤ c.nb:=by omega
 have iv:Iv c.nb [] H0 H0:=by rw [hnb]; exact iv_refl
 rw [show args0 [(vAgg (S_b.c x0)),(vAgg (S_a.c x1))] = [(0,(vAgg (S_b.c x0))),(1,(vAgg (S_a.c x1)))] from rfl]
 rw [b_cL] at hm
 simp only [C.f91]
 refine tk_os okM hok fun J hJ=>?_
 obtain ⟨b1,H2,a3,f4,q5,r6,x7,i8⟩:=bx_ok (M:=Mt) (t:=72) (u:=(vAgg (S_b.c (x0)))) (cs:=S_b.c x0) H0 iv.le (by rw [S_b.enc.len]; exact T.sz72) vAgg_cells (S_b.enc.one _)
 have i9:=i8 _ _ iv
 obtain ⟨b11,H12,a13,f14,q15,r16,x17,i18⟩:=bx_ok (M:=Mt) (t:=107) (u:=(vAgg (S_a.c (x1)))) (cs:=S_a.c x1) H2 i9.le (by rw [S_a.enc.len]; exact T.sz107) vAgg_cells (S_a.enc.one _)
 have i19:=i18 _ _ i9
 have f20:=x17 _ _ f4
 obtain ⟨b22,H23,a24,f25,q26,r27,x28,i29⟩:=al_ok H12 107 (S_a.c S_a.zero) i19.le
 have i30:=i29 _ _ i19
 have f31:=x28 _ _ f20
 have f32:=x28 _ _ f14
 simp only [C.f91r0,R,Nat.reduceEqDiff,a3,a13,zs107,a24]
 refine hJ _ ?_
 refine tk_scopeJ (fun ⟨σ,H,_⟩=>∃ x34 x36 b35,b_co c_h n x34 x36 = some r ∧ Lk σ 4 (.pointer (some ⟨b22,0,none⟩)) ∧ Lk σ 5 (.pointer (some ⟨b35,0,none⟩)) ∧ H[b22]? = some (.cells (S_a.c x34) 107) ∧ H[b35]? = some (.cells (S_a.c x36) 107) ∧ c.nb ≤ b35 ∧ b22 ≠ b35 ∧ Iv c.nb [] H0 H) ?_ ?_
 ·skip
  rintro ⟨σ48,H39,d49⟩ ⟨x34,x36,b35,hm,h41,h42,f43,f44,r45,n46,i47⟩
  rw [b_co] at hm
  intro K n37 x38
  refine tk_seq_k fun K n50 x51=>?_
  refine tk_skip okM ?_
  refine n50 _ ?_
  refine tk_os okM hok fun J hJ=>?_
  have a52:=ld_agg (M:=Mt) (t:=107) f44 T.ag107 (by rw [S_a.enc.len]; exact T.sz107) Seg.refl
  obtain ⟨H53,a54,f55,u56⟩:=st_ok (M:=Mt) (t:=107) (v:=(vAgg (S_a.c (x36)))) (c:=S_a.c x36) (cs':=S_a.c x36) f43 (by rw [S_a.enc.len]; exact T.sz107) vAgg_cells (S_a.enc.one _) (Nat.le_trans hcn r27) (le0 S_a.enc.len) (wrs_all (eqL S_a.enc.len))
  have i57:=i47.up u56 r27
  have f58:=(u56.get _ n46.symm).trans f44
  simp only [C.f91r6,R,Nat.reduceEqDiff,a52,h42,a54,h41]
  refine hJ _ ?_
  refine tk_ret okM ?_
  refine x38 _ _ (by simp) (by simp) ?_
  obtain rfl:=Option.some.inj hm
  exact end_flat (.inl rfl) (vs:=[(vAgg (S_a.c (x36)))]) (resC' (v:=(vAgg (S_a.c (x36)))) h41 (ldv_of (ld_agg (M:=Mt) (t:=107) f55 T.ag107 (by rw [S_a.enc.len]; exact T.sz107) Seg.refl)) resN) (fm_cons (flat_agg S_a.enc _) fm_nil)
 ·refine fun K n59 x60 j61=>?_
  refine tk_os okM hok fun J hJ=>?_
  obtain ⟨v63,ev63,hm⟩:=bind_s hm
  have a62:=z_cm c.ro H23  v63 ev63
  obtain ⟨b64,H65,a66,f67,q68,r69,x70,i71⟩:=al_ok H23 107 (S_a.c S_a.zero) i30.le
  have i72:=i71 _ _ i30
  have f73:=x70 _ _ f31
  have f74:=x70 _ _ f32
  have f75:=x70 _ _ f25
  obtain ⟨H77,a78,f79,u80⟩:=st_ok (M:=Mt) (t:=107) (v:=(vAgg (S_a.c (v63)))) (c:=S_a.c v63) (cs':=S_a.c v63) f67 (by rw [S_a.enc.len]; exact T.sz107) vAgg_cells (S_a.enc.one _) (Nat.le_trans hcn r69) (le0 S_a.enc.len) (wrs_all (eqL S_a.enc.len))
  have i81:=i72.up u80 r69
  have f82:=(u80.get _ (ne_len f31 q68)).trans f73
  have f83:=(u80.get _ (ne_len f32 q68)).trans f74
  have f84:=(u80.get _ (ne_len f25 q68)).trans f75
  simp only [C.f91r1,R,Nat.reduceEqDiff,c_fn F87,a62,zs107,a66,a78]
  refine hJ _ ?_
  refine tk_seq_k fun K n85 x86=>?_
  refine tk_os okM hok fun J hJ=>?_
  have a87:=ld_one (M:=Mt) (t:=3) f82 T.ag3 (Seg.refl.sub (S_b.seg5 x0))
  simp only [C.f91r2,R,Nat.reduceEqDiff,fa72_5,a87]
  refine hJ _ ?_
  refine tk_cond (t:=decide (x0.f_Max = 0)) rfl (fun g88=>?_) (fun g88=>?_)
  ·replace hm:=cond_t hm g88
   refine tk_goto okM ?_
   refine x86 _ _ (by simp) ?_
   refine j61 _ ?_
   exact ⟨S_a.zero,v63,b64,hm,rfl,rfl,f84,f79,r69,(ne_len f25 q68),i81⟩
  ·replace hm:=cond_f hm g88
   refine tk_skip okM ?_
   refine n85 _ ?_
   refine tk_os okM hok fun J hJ=>?_
   rw [C.f91r3]
   have a89:=ld_agg (M:=Mt) (t:=25) f83 T.ag25 (by rw [S_d.enc.len]; exact T.sz25) ((Seg.refl.sub (S_a.seg0 x1)).sub (S_c.seg0 x1.f_Facts))
   have a90:=ld_one (M:=Mt) (t:=4) f83 T.ag4 ((Seg.refl.sub (S_a.seg0 x1)).sub (S_c.seg1 x1.f_Facts))
   refine rn_app_k (fun ⟨σ,H,_⟩=>Lk σ 2 (.pointer (some ⟨b1,0,none⟩)) ∧ Lk σ 3 (.pointer (some ⟨b11,0,none⟩)) ∧ Lk σ 4 (.pointer (some ⟨b22,0,none⟩)) ∧ Lk σ 5 (.pointer (some ⟨b64,0,none⟩)) ∧ Lk σ 12 (vAgg (S_d.c (x1.f_Facts.f_First))) ∧ Lk σ 20 (.bool (x1.f_Facts.f_Open || (decide (x0.f_Min = 0)))) ∧ H[b1]? = some (.cells (S_b.c x0) 72) ∧ H[b11]? = some (.cells (S_a.c x1) 107) ∧ H[b22]? = some (.cells (S_a.c S_a.zero) 107) ∧ H[b64]? = some (.cells (S_a.c v63) 107) ∧ Iv c.nb [] H0 H) (fun J hJ=>?_) ?_
   ·skip
    cases g104:x1.f_Facts.f_Open
    ·skip
     have a105:=ld_one (M:=Mt) (t:=3) f82 T.ag3 (Seg.refl.sub (S_b.seg4 x0))
     simp only [C.f91r3p0,R,Nat.reduceEqDiff,fa107_0,fa54_0,a89,fa54_1,a90,g104,fa72_4,a105]
     refine hJ _ ?_
     exact ⟨rfl,rfl,rfl,rfl,(by first | rfl | (simp only [g104]; rfl) | simp only [g104,Lk,RB,Nat.reduceEqDiff,not_false_eq_true]),(by first | rfl | (simp only [g104]; rfl) | simp only [g104,Lk,RB,Nat.reduceEqDiff,not_false_eq_true]),f82,f83,f84,f79,i81⟩
    ·skip
     simp only [C.f91r3p0,R,Nat.reduceEqDiff,fa107_0,fa54_0,a89,fa54_1,a90,g104]
     refine hJ _ ?_
     exact ⟨rfl,rfl,rfl,rfl,(by first | rfl | (simp only [g104]; rfl) | simp only [g104,Lk,RB,Nat.reduceEqDiff,not_false_eq_true]),(by first | rfl | (simp only [g104]; rfl) | simp only [g104,Lk,RB,Nat.reduceEqDiff,not_false_eq_true]),f82,f83,f84,f79,i81⟩
   rintro ⟨σ106,H92,d107⟩ ⟨h93,h94,h95,h96,h97,h98,f99,f100,f101,f102,i103⟩
   have a108:=ld_one (M:=Mt) (t:=4) f100 T.ag4 ((Seg.refl.sub (S_a.seg0 x1)).sub (S_c.seg2 x1.f_Facts))
   refine rn_app_k (fun ⟨σ,H,_⟩=>Lk σ 2 (.pointer (some ⟨b1,0,none⟩)) ∧ Lk σ 3 (.pointer (some ⟨b11,0,none⟩)) ∧ Lk σ 4 (.pointer (some ⟨b22,0,none⟩)) ∧ Lk σ 5 (.pointer (some ⟨b64,0,none⟩)) ∧ Lk σ 12 (vAgg (S_d.c (x1.f_Facts.f_First))) ∧ Lk σ 20 (.bool (x1.f_Facts.f_Open || (decide (x0.f_Min = 0)))) ∧ Lk σ 28 (.bool (x1.f_Facts.f_Fast && (decide (0 < x0.f_Min)))) ∧ H[b1]? = some (.cells (S_b.c x0) 72) ∧ H[b11]? = some (.cells (S_a.c x1) 107) ∧ H[b22]? = some (.cells (S_a.c S_a.zero) 107) ∧ H[b64]? = some (.cells (S_a.c v63) 107) ∧ Iv c.nb [] H0 H) (fun J hJ=>?_) ?_
   ·skip
    cases g123:x1.f_Facts.f_Fast
    ·skip
     simp only [C.f91r3p1,R,Nat.reduceEqDiff,fa107_0,h94,fa54_2,a108,g123]
     refine hJ _ ?_
     exact ⟨h93,h94,h95,h96,h97,h98,(by first | rfl | (simp only [g123]; rfl) | simp only [g123,Lk,RB,Nat.reduceEqDiff,not_false_eq_true]),f99,f100,f101,f102,i103⟩
    ·skip
     have a124:=ld_one (M:=Mt) (t:=3) f99 T.ag3 (Seg.refl.sub (S_b.seg4 x0))
     simp only [C.f91r3p1,R,Nat.reduceEqDiff,fa107_0,h94,fa54_2,a108,g123,fa72_4,h93,a124]
     refine hJ _ ?_
     exact ⟨h93,h94,h95,h96,h97,h98,(by first | rfl | (simp only [g123]; rfl) | simp only [g123,Lk,RB,Nat.reduceEqDiff,not_false_eq_true]),f99,f100,f101,f102,i103⟩
   rintro ⟨σ125,H110,d126⟩ ⟨h111,h112,h113,h114,h115,h116,h117,f118,f119,f120,f121,i122⟩
   have a127:=ld_one (M:=Mt) (t:=4) f119 T.ag4 (Seg.refl.sub (S_a.seg1 x1))
   refine rn_app_k (fun ⟨σ,H,_⟩=>Lk σ 2 (.pointer (some ⟨b1,0,none⟩)) ∧ Lk σ 3 (.pointer (some ⟨b11,0,none⟩)) ∧ Lk σ 4 (.pointer (some ⟨b22,0,none⟩)) ∧ Lk σ 5 (.pointer (some ⟨b64,0,none⟩)) ∧ Lk σ 29 (vAgg (S_c.c (({ S_c.zero with f_First:=x1.f_Facts.f_First,f_Open:=x1.f_Facts.f_Open || (decide (x0.f_Min = 0)),f_Fast:=x1.f_Facts.f_Fast && (decide (0 < x0.f_Min)),f_Prefix:=(⟨#[]⟩:ByteArray) }:S_c)))) ∧ Lk σ 36 (.bool (x1.f_whole && (decide (x0.f_Min = 1)))) ∧ H[b1]? = some (.cells (S_b.c x0) 72) ∧ H[b11]? = some (.cells (S_a.c x1) 107) ∧ H[b22]? = some (.cells (S_a.c S_a.zero) 107) ∧ H[b64]? = some (.cells (S_a.c v63) 107) ∧ Iv c.nb [] H0 H) (fun J hJ=>?_) ?_
   ·skip
    cases g141:x1.f_whole
    ·skip
     simp only [C.f91r3p2,R,Nat.reduceEqDiff,bd54_0_1_2_3,h115,h116,h117,fa107_1,h112,a127,g141]
     refine hJ _ ?_
     exact ⟨h111,h112,h113,h114,(by first | rfl | (simp only [g141]; rfl) | simp only [g141,Lk,RB,Nat.reduceEqDiff,not_false_eq_true]),(by first | rfl | (simp only [g141]; rfl) | simp only [g141,Lk,RB,Nat.reduceEqDiff,not_false_eq_true]),f118,f119,f120,f121,i122⟩
    ·skip
     have a142:=ld_one (M:=Mt) (t:=3) f118 T.ag3 (Seg.refl.sub (S_b.seg4 x0))
     simp only [C.f91r3p2,R,Nat.reduceEqDiff,bd54_0_1_2_3,h115,h116,h117,fa107_1,h112,a127,g141,fa72_4,h111,a142]
     refine hJ _ ?_
     exact ⟨h111,h112,h113,h114,(by first | rfl | (simp only [g141]; rfl) | simp only [g141,Lk,RB,Nat.reduceEqDiff,not_false_eq_true]),(by first | rfl | (simp only [g141]; rfl) | simp only [g141,Lk,RB,Nat.reduceEqDiff,not_false_eq_true]),f118,f119,f120,f121,i122⟩
   rintro ⟨σ143,H129,d144⟩ ⟨h130,h131,h132,h133,h134,h135,f136,f137,f138,f139,i140⟩
   refine rn_app_k (fun ⟨σ,H,_⟩=>Lk σ 2 (.pointer (some ⟨b1,0,none⟩)) ∧ Lk σ 3 (.pointer (some ⟨b11,0,none⟩)) ∧ Lk σ 4 (.pointer (some ⟨b22,0,none⟩)) ∧ Lk σ 5 (.pointer (some ⟨b64,0,none⟩)) ∧ Lk σ 29 (vAgg (S_c.c (({ S_c.zero with f_First:=x1.f_Facts.f_First,f_Open:=x1.f_Facts.f_Open || (decide (x0.f_Min = 0)),f_Fast:=x1.f_Facts.f_Fast && (decide (0 < x0.f_Min)),f_Prefix:=(⟨#[]⟩:ByteArray) }:S_c)))) ∧ Lk σ 41 (.bool ((x1.f_whole && (decide (x0.f_Min = 1))) && (decide (x0.f_Max = 1)))) ∧ H[b1]? = some (.cells (S_b.c x0) 72) ∧ H[b11]? = some (.cells (S_a.c x1) 107) ∧ H[b22]? = some (.cells (S_a.c S_a.zero) 107) ∧ H[b64]? = some (.cells (S_a.c v63) 107) ∧ Iv c.nb [] H0 H) (fun J hJ=>?_) ?_
   ·skip
    cases g158:x1.f_whole && (decide (x0.f_Min = 1))
    ·skip
     simp only [C.f91r3p3,R,Nat.reduceEqDiff,h135,g158]
     refine hJ _ ?_
     exact ⟨h130,h131,h132,h133,h134,(by first | rfl | (simp only [g158]; rfl) | simp only [g158,Lk,RB,Nat.reduceEqDiff,not_false_eq_true]),f136,f137,f138,f139,i140⟩
    ·skip
     have a159:=ld_one (M:=Mt) (t:=3) f136 T.ag3 (Seg.refl.sub (S_b.seg5 x0))
     simp only [C.f91r3p3,R,Nat.reduceEqDiff,h135,g158,fa72_5,h130,a159]
     refine hJ _ ?_
     exact ⟨h130,h131,h132,h133,h134,(by first | rfl | (simp only [g158]; rfl) | simp only [g158,Lk,RB,Nat.reduceEqDiff,not_false_eq_true]),f136,f137,f138,f139,i140⟩
   rintro ⟨σ160,H146,d161⟩ ⟨h147,h148,h149,h150,h151,h152,f153,f154,f155,f156,i157⟩
   have a162:=ld_one (M:=Mt) (t:=4) f154 T.ag4 (Seg.refl.sub (S_a.seg2 x1))
   obtain ⟨H163,a164,f165,u166⟩:=st_ok (M:=Mt) (t:=107) (v:=(vAgg (S_a.c (({ S_a.zero with f_Facts:=({ S_c.zero with f_First:=x1.f_Facts.f_First,f_Open:=x1.f_Facts.f_Open || (decide (x0.f_Min = 0)),f_Fast:=x1.f_Facts.f_Fast && (decide (0 < x0.f_Min)),f_Prefix:=(⟨#[]⟩:ByteArray) }:S_c),f_whole:=(x1.f_whole && (decide (x0.f_Min = 1))) && (decide (x0.f_Max = 1)),f_none:=x1.f_none }:S_a))))) (c:=S_a.c (({ S_a.zero with f_Facts:=({ S_c.zero with f_First:=x1.f_Facts.f_First,f_Open:=x1.f_Facts.f_Open || (decide (x0.f_Min = 0)),f_Fast:=x1.f_Facts.f_Fast && (decide (0 < x0.f_Min)),f_Prefix:=(⟨#[]⟩:ByteArray) }:S_c),f_whole:=(x1.f_whole && (decide (x0.f_Min = 1))) && (decide (x0.f_Max = 1)),f_none:=x1.f_none }:S_a))) (cs':=S_a.c (({ S_a.zero with f_Facts:=({ S_c.zero with f_First:=x1.f_Facts.f_First,f_Open:=x1.f_Facts.f_Open || (decide (x0.f_Min = 0)),f_Fast:=x1.f_Facts.f_Fast && (decide (0 < x0.f_Min)),f_Prefix:=(⟨#[]⟩:ByteArray) }:S_c),f_whole:=(x1.f_whole && (decide (x0.f_Min = 1))) && (decide (x0.f_Max = 1)),f_none:=x1.f_none }:S_a))) f156 (by rw [S_a.enc.len]; exact T.sz107) vAgg_cells (S_a.enc.one _) (Nat.le_trans hcn r69) (le0 S_a.enc.len) (wrs_all (eqL S_a.enc.len))
   have i167:=i157.up u166 r69
   have f168:=(u166.get _ (ne_len f31 q68)).trans f153
   have f169:=(u166.get _ (ne_len f32 q68)).trans f154
   have f170:=(u166.get _ (ne_len f25 q68)).trans f155
   simp only [C.f91r3p4,R,Nat.reduceEqDiff,fa107_2,h148,a162,bd107_0_1_2,h151,h152,a164,h150]
   refine hJ _ ?_
   refine tk_seq_j (fun ⟨σ,H,_⟩=>∃ x171 x172,b_bP c_h n x171 x172 = some r ∧ Lk σ 4 (.pointer (some ⟨b22,0,none⟩)) ∧ Lk σ 5 (.pointer (some ⟨b64,0,none⟩)) ∧ H[b22]? = some (.cells (S_a.c x171) 107) ∧ H[b64]? = some (.cells (S_a.c x172) 107) ∧ Iv c.nb [] H0 H) ?_ ?_
   ·skip
    rintro ⟨σ179,H173,d180⟩ ⟨x171,x172,hm,h174,h175,f176,f177,i178⟩
    rw [b_bP] at hm
    refine tk_seq_k fun K n181 x182=>?_
    refine tk_skip okM ?_
    refine n181 _ ?_
    refine tk_os okM hok fun J hJ=>?_
    have a183:=ld_agg (M:=Mt) (t:=107) f177 T.ag107 (by rw [S_a.enc.len]; exact T.sz107) Seg.refl
    obtain ⟨H184,a185,f186,u187⟩:=st_ok (M:=Mt) (t:=107) (v:=(vAgg (S_a.c (x172)))) (c:=S_a.c x172) (cs':=S_a.c x172) f176 (by rw [S_a.enc.len]; exact T.sz107) vAgg_cells (S_a.enc.one _) (Nat.le_trans hcn r27) (le0 S_a.enc.len) (wrs_all (eqL S_a.enc.len))
    have i188:=i178.up u187 r27
    have f189:=(u187.get _ (ne_len f25 q68).symm).trans f177
    simp only [C.f91r6,R,Nat.reduceEqDiff,a183,h175,a185,h174]
    refine hJ _ ?_
    refine tk_ret okM ?_
    refine x60 _ _ (by simp) (by simp) ?_
    obtain rfl:=Option.some.inj hm
    exact end_flat (.inl rfl) (vs:=[(vAgg (S_a.c (x172)))]) (resC' (v:=(vAgg (S_a.c (x172)))) h174 (ldv_of (ld_agg (M:=Mt) (t:=107) f186 T.ag107 (by rw [S_a.enc.len]; exact T.sz107) Seg.refl)) resN) (fm_cons (flat_agg S_a.enc _) fm_nil)
   ·refine fun K n190 x191=>?_
    refine tk_os okM hok fun J hJ=>?_
    have a192:=ld_one (M:=Mt) (t:=3) f168 T.ag3 (Seg.refl.sub (S_b.seg4 x0))
    simp only [C.f91r4,R,Nat.reduceEqDiff,fa72_4,h147,a192]
    refine hJ _ ?_
    refine tk_cond (t:=decide (0 < x0.f_Min)) rfl (fun g193=>?_) (fun g193=>?_)
    ·replace hm:=cond_t hm g193
     refine tk_oe okM hok fun J hJ=>?_
     have a194:=ld_one (M:=Mt) (t:=9) f169 T.ag9 ((Seg.refl.sub (S_a.seg0 x1)).sub (S_c.seg3 x1.f_Facts))
     obtain ⟨H195,a196,f197,u198⟩:=st_ok (M:=Mt) (t:=9) (v:=(.string (x1.f_Facts.f_Prefix))) (c:=cStr x1.f_Facts.f_Prefix) (cs':=S_a.c (S_a.w0 (({ S_a.zero with f_Facts:=({ S_c.zero with f_First:=x1.f_Facts.f_First,f_Open:=x1.f_Facts.f_Open || (decide (x0.f_Min = 0)),f_Fast:=x1.f_Facts.f_Fast && (decide (0 < x0.f_Min)),f_Prefix:=(⟨#[]⟩:ByteArray) }:S_c),f_whole:=(x1.f_whole && (decide (x0.f_Min = 1))) && (decide (x0.f_Max = 1)),f_none:=x1.f_none }:S_a)) (S_c.w3 ((({ S_a.zero with f_Facts:=({ S_c.zero with f_First:=x1.f_Facts.f_First,f_Open:=x1.f_Facts.f_Open || (decide (x0.f_Min = 0)),f_Fast:=x1.f_Facts.f_Fast && (decide (0 < x0.f_Min)),f_Prefix:=(⟨#[]⟩:ByteArray) }:S_c),f_whole:=(x1.f_whole && (decide (x0.f_Min = 1))) && (decide (x0.f_Max = 1)),f_none:=x1.f_none }:S_a)).f_Facts) x1.f_Facts.f_Prefix))) f165 (by rw [enc_str.len]; exact T.sz9) rfl (enc_str.one _) (Nat.le_trans hcn r69) (Nat.le_trans (Nat.le_of_eq (congrArg _ (eqL enc_str.len))) ((Seg.refl.sub (S_a.seg0 (({ S_a.zero with f_Facts:=({ S_c.zero with f_First:=x1.f_Facts.f_First,f_Open:=x1.f_Facts.f_Open || (decide (x0.f_Min = 0)),f_Fast:=x1.f_Facts.f_Fast && (decide (0 < x0.f_Min)),f_Prefix:=(⟨#[]⟩:ByteArray) }:S_c),f_whole:=(x1.f_whole && (decide (x0.f_Min = 1))) && (decide (x0.f_Max = 1)),f_none:=x1.f_none }:S_a)))).sub (S_c.seg3 ((({ S_a.zero with f_Facts:=({ S_c.zero with f_First:=x1.f_Facts.f_First,f_Open:=x1.f_Facts.f_Open || (decide (x0.f_Min = 0)),f_Fast:=x1.f_Facts.f_Fast && (decide (0 < x0.f_Min)),f_Prefix:=(⟨#[]⟩:ByteArray) }:S_c),f_whole:=(x1.f_whole && (decide (x0.f_Min = 1))) && (decide (x0.f_Max = 1)),f_none:=x1.f_none }:S_a)).f_Facts))).2) (by rw [wrs_in (Seg.refl.sub (S_a.seg0 (({ S_a.zero with f_Facts:=({ S_c.zero with f_First:=x1.f_Facts.f_First,f_Open:=x1.f_Facts.f_Open || (decide (x0.f_Min = 0)),f_Fast:=x1.f_Facts.f_Fast && (decide (0 < x0.f_Min)),f_Prefix:=(⟨#[]⟩:ByteArray) }:S_c),f_whole:=(x1.f_whole && (decide (x0.f_Min = 1))) && (decide (x0.f_Max = 1)),f_none:=x1.f_none }:S_a)))) (by have:=trivial; simp only [enc_str.len,S_c.enc.len]; omega),S_c.wr3 ((({ S_a.zero with f_Facts:=({ S_c.zero with f_First:=x1.f_Facts.f_First,f_Open:=x1.f_Facts.f_Open || (decide (x0.f_Min = 0)),f_Fast:=x1.f_Facts.f_Fast && (decide (0 < x0.f_Min)),f_Prefix:=(⟨#[]⟩:ByteArray) }:S_c),f_whole:=(x1.f_whole && (decide (x0.f_Min = 1))) && (decide (x0.f_Max = 1)),f_none:=x1.f_none }:S_a)).f_Facts) x1.f_Facts.f_Prefix,Nat.zero_add,S_a.wr0 (({ S_a.zero with f_Facts:=({ S_c.zero with f_First:=x1.f_Facts.f_First,f_Open:=x1.f_Facts.f_Open || (decide (x0.f_Min = 0)),f_Fast:=x1.f_Facts.f_Fast && (decide (0 < x0.f_Min)),f_Prefix:=(⟨#[]⟩:ByteArray) }:S_c),f_whole:=(x1.f_whole && (decide (x0.f_Min = 1))) && (decide (x0.f_Max = 1)),f_none:=x1.f_none }:S_a)) (S_c.w3 ((({ S_a.zero with f_Facts:=({ S_c.zero with f_First:=x1.f_Facts.f_First,f_Open:=x1.f_Facts.f_Open || (decide (x0.f_Min = 0)),f_Fast:=x1.f_Facts.f_Fast && (decide (0 < x0.f_Min)),f_Prefix:=(⟨#[]⟩:ByteArray) }:S_c),f_whole:=(x1.f_whole && (decide (x0.f_Min = 1))) && (decide (x0.f_Max = 1)),f_none:=x1.f_none }:S_a)).f_Facts) x1.f_Facts.f_Prefix)])
     have i199:=i167.up u198 r69
     have f200:=(u198.get _ (ne_len f32 q68)).trans f169
     have f201:=(u198.get _ (ne_len f25 q68)).trans f170
     simp only [C.f91r5,R,Nat.reduceEqDiff,fa107_0,h148,fa54_3,a194,h150,a196]
     refine hJ _ ?_
     refine n190 _ ?_
     exact ⟨S_a.zero,S_a.w0 (({ S_a.zero with f_Facts:=({ S_c.zero with f_First:=x1.f_Facts.f_First,f_Open:=x1.f_Facts.f_Open || (decide (x0.f_Min = 0)),f_Fast:=x1.f_Facts.f_Fast && (decide (0 < x0.f_Min)),f_Prefix:=(⟨#[]⟩:ByteArray) }:S_c),f_whole:=(x1.f_whole && (decide (x0.f_Min = 1))) && (decide (x0.f_Max = 1)),f_none:=x1.f_none }:S_a)) (S_c.w3 ((({ S_a.zero with f_Facts:=({ S_c.zero with f_First:=x1.f_Facts.f_First,f_Open:=x1.f_Facts.f_Open || (decide (x0.f_Min = 0)),f_Fast:=x1.f_Facts.f_Fast && (decide (0 < x0.f_Min)),f_Prefix:=(⟨#[]⟩:ByteArray) }:S_c),f_whole:=(x1.f_whole && (decide (x0.f_Min = 1))) && (decide (x0.f_Max = 1)),f_none:=x1.f_none }:S_a)).f_Facts) x1.f_Facts.f_Prefix),hm,h149,h150,f201,f197,i199⟩
    ·replace hm:=cond_f hm g193
     refine tk_skip okM ?_
     refine n190 _ ?_
     exact ⟨S_a.zero,({ S_a.zero with f_Facts:=({ S_c.zero with f_First:=x1.f_Facts.f_First,f_Open:=x1.f_Facts.f_Open || (decide (x0.f_Min = 0)),f_Fast:=x1.f_Facts.f_Fast && (decide (0 < x0.f_Min)),f_Prefix:=(⟨#[]⟩:ByteArray) }:S_c),f_whole:=(x1.f_whole && (decide (x0.f_Min = 1))) && (decide (x0.f_Max = 1)),f_none:=x1.f_none }:S_a),hm,h149,h150,f170,f165,i167⟩
def b_cy (c_b2:T_di) (c_cM:T_dw) (n:Nat) (x0:S_b):Option (Bool):=(bif (decide (x0.f_Kind < 0)) || (decide (18 ≤ x0.f_Kind)) then some true else ((c_b2 x0).bind fun v26=>(c_cM x0).bind fun v29=>(c_b2 v29).bind fun v31=>some (!decide (v26 = v31)))).bind fun y32=>bif y32 then (some false) else (bif !decide (x0.f_Kind = 10) then (some true) else (some (((((decide (0 ≤ x0.f_Min)) && (decide (x0.f_Min ≤ 100))) && ((decide (x0.f_Max = ((-1)))) || ((decide (x0.f_Min ≤ x0.f_Max)) && (decide (x0.f_Max ≤ 100))))) && (decide (0 ≤ x0.f_Mode))) && (decide (x0.f_Mode ≤ 2)))))
theorem w_fV {call:CallF} (hok:CallOk Mt call) {n:Nat} {c_b2:T_di} (z_eb:A_ep call c_b2) {c_cM:T_dw} (z_fT:A_eI call c_cM) {H0:Hp} {x0:S_b} {r:Bool} {ro:Nat} (hro:ro ≤ H0.length) (hm:b_cy c_b2 c_cM n x0 = some r) :
  Pt Mt ro 97 [(vAgg (S_b.c x0))] H0 (.bool (r)) H0 []:=by
 refine pt_new0 okM F97d (by exact Nat.le_of_ble_eq_true rfl) ?_ hro
 intro c hnt hnb hcr
 have hcn:c.ro ≤ c.nb:=by omega
 have iv:Iv c.nb [] H0 H0:=by rw [hnb]; exact iv_refl
 rw [show args0 [(vAgg (S_b.c x0))] = [(0,(vAgg (S_b.c x0)))] from rfl]
 rw [b_cy] at hm
 simp only [C.f97]
 refine tk_os okM hok fun J hJ=>?_
 obtain ⟨b1,H2,a3,f4,q5,r6,x7,i8⟩:=bx_ok (M:=Mt) (t:=72) (u:=(vAgg (S_b.c (x0)))) (cs:=S_b.c x0) H0 iv.le (by rw [S_b.enc.len]; exact T.sz72) vAgg_cells (S_b.enc.one _)
 have i9:=i8 _ _ iv
 simp only [C.f97r0,R,Nat.reduceEqDiff,a3]
 refine hJ _ ?_
 refine tk_seq_k fun K n11 x12=>?_
 refine tk_os okM hok fun J hJ=>?_
 rw [C.f97r1]
 have a13:=ld_one (M:=Mt) (t:=3) f4 T.ag3 (Seg.refl.sub (S_b.seg0 x0))
 refine rn_app_k (fun ⟨σ,H,_⟩=>Lk σ 1 (.pointer (some ⟨b1,0,none⟩)) ∧ Lk σ 10 (.bool ((decide (x0.f_Kind < 0)) || (decide (18 ≤ x0.f_Kind)))) ∧ H[b1]? = some (.cells (S_b.c x0) 72) ∧ Iv c.nb [] H0 H) (fun J hJ=>?_) ?_
 ·skip
  cases g20:decide (x0.f_Kind < 0)
  ·skip
   have a21:=ld_one (M:=Mt) (t:=3) f4 T.ag3 (Seg.refl.sub (S_b.seg0 x0))
   simp only [C.f97r1p0,R,Nat.reduceEqDiff,s_pt,s_gt,isW,Bool.false_eq_true,if_false,if_true,reduceIte,fa72_0,a13,g20,a21]
   refine hJ _ ?_
   exact ⟨rfl,(by first | rfl | (simp only [g20]; rfl) | simp only [g20,Lk,RB,Nat.reduceEqDiff,not_false_eq_true]),f4,i9⟩
  ·skip
   simp only [C.f97r1p0,R,Nat.reduceEqDiff,s_pt,s_gt,isW,Bool.false_eq_true,if_false,if_true,reduceIte,fa72_0,a13,g20]
   refine hJ _ ?_
   exact ⟨rfl,(by first | rfl | (simp only [g20]; rfl) | simp only [g20,Lk,RB,Nat.reduceEqDiff,not_false_eq_true]),f4,i9⟩
 rintro ⟨σ22,H15,d23⟩ ⟨h16,h17,f18,i19⟩
 obtain ⟨y32,ey32,hm⟩:=bind_s hm
 refine rn_k (fun ⟨σ,H,_⟩=>Lk σ 1 (.pointer (some ⟨b1,0,none⟩)) ∧ Lk σ 18 (.bool (y32)) ∧ H[b1]? = some (.cells (S_b.c x0) 72) ∧ Iv c.nb [] H0 H) (fun J hJ=>?_) ?_
 ·skip
  cases g38:(decide (x0.f_Kind < 0)) || (decide (18 ≤ x0.f_Kind))
  ·skip
   have ey32:=cond_f ey32 g38
   have a39:=ld_agg (M:=Mt) (t:=72) f18 T.ag72 (by rw [S_b.enc.len]; exact T.sz72) Seg.refl
   obtain ⟨v41,ev41,ey32⟩:=bind_s ey32
   have a40:=z_eb H15.length H15 x0 v41 ev41
   have a42:=ld_agg (M:=Mt) (t:=72) f18 T.ag72 (by rw [S_b.enc.len]; exact T.sz72) Seg.refl
   obtain ⟨v44,ev44,ey32⟩:=bind_s ey32
   have a43:=z_fT H15.length H15 x0 v44 ev44
   obtain ⟨v46,ev46,ey32⟩:=bind_s ey32
   have a45:=z_eb H15.length H15 v44 v46 ev46
   obtain rfl:=Option.some.inj ey32
   simp only [C.f97r1p1,R,Nat.reduceEqDiff,s_pt,s_gt,isW,Bool.false_eq_true,if_false,if_true,reduceIte,h17,g38,a39,h16,c_fn F124,a40,a42,c_fn F125,a43,a45,neq72]
   refine hJ _ ?_
   exact ⟨h16,(by first | rfl | (simp only [g38]; rfl) | simp only [g38,Lk,RB,Nat.reduceEqDiff,not_false_eq_true]),f18,i19⟩
  ·skip
   have ey32:=cond_t ey32 g38
   obtain rfl:=Option.some.inj ey32
   simp only [C.f97r1p1,R,Nat.reduceEqDiff,s_pt,s_gt,isW,Bool.false_eq_true,if_false,if_true,reduceIte,h17,g38]
   refine hJ _ ?_
   exact ⟨h16,(by first | rfl | (simp only [g38]; rfl) | simp only [g38,Lk,RB,Nat.reduceEqDiff,not_false_eq_true]),f18,i19⟩
 rintro ⟨σ47,H33,d48⟩ ⟨h34,h35,f36,i37⟩
 refine hJ _ ?_
 refine tk_cond (t:=y32) h35 (fun g49=>?_) (fun g49=>?_)
 ·replace hm:=cond_t hm g49
  refine tk_os okM hok fun J hJ=>?_
  simp only [C.f97r2,R,Nat.reduceEqDiff]
  refine hJ _ ?_
  refine tk_ret okM ?_
  refine x12 _ _ (by simp) ?_
  obtain rfl:=Option.some.inj hm
  exact end_flat (.inl rfl) (vs:=[(.bool (false))]) (resT' (v:=(.bool (false))) rfl resN) (fm_cons rfl fm_nil)
 ·replace hm:=cond_f hm g49
  refine tk_skip okM ?_
  refine n11 _ ?_
  refine tk_seq_k fun K n50 x51=>?_
  refine tk_os okM hok fun J hJ=>?_
  have a52:=ld_one (M:=Mt) (t:=3) f36 T.ag3 (Seg.refl.sub (S_b.seg0 x0))
  simp only [C.f97r3,R,Nat.reduceEqDiff,fa72_0,h34,a52]
  refine hJ _ ?_
  refine tk_cond (t:=!decide (x0.f_Kind = 10)) rfl (fun g53=>?_) (fun g53=>?_)
  ·replace hm:=cond_t hm g53
   refine tk_os okM hok fun J hJ=>?_
   simp only [C.f97r4,R,Nat.reduceEqDiff]
   refine hJ _ ?_
   refine tk_ret okM ?_
   refine x51 _ _ (by simp) ?_
   obtain rfl:=Option.some.inj hm
   exact end_flat (.inl rfl) (vs:=[(.bool (true))]) (resT' (v:=(.bool (true))) rfl resN) (fm_cons rfl fm_nil)
  ·replace hm:=cond_f hm g53
   refine tk_skip okM ?_
   refine n50 _ ?_
   refine tk_os okM hok fun J hJ=>?_
   rw [C.f97r5]
   have a54:=ld_one (M:=Mt) (t:=3) f36 T.ag3 (Seg.refl.sub (S_b.seg4 x0))
   refine rn_app_k (fun ⟨σ,H,_⟩=>Lk σ 1 (.pointer (some ⟨b1,0,none⟩)) ∧ Lk σ 29 (.bool ((decide (0 ≤ x0.f_Min)) && (decide (x0.f_Min ≤ 100)))) ∧ H[b1]? = some (.cells (S_b.c x0) 72) ∧ Iv c.nb [] H0 H) (fun J hJ=>?_) ?_
   ·skip
    cases g61:decide (0 ≤ x0.f_Min)
    ·skip
     simp only [C.f97r5p0,R,Nat.reduceEqDiff,fa72_4,h34,a54,g61]
     refine hJ _ ?_
     exact ⟨h34,(by first | rfl | (simp only [g61]; rfl) | simp only [g61,Lk,RB,Nat.reduceEqDiff,not_false_eq_true]),f36,i37⟩
    ·skip
     have a62:=ld_one (M:=Mt) (t:=3) f36 T.ag3 (Seg.refl.sub (S_b.seg4 x0))
     simp only [C.f97r5p0,R,Nat.reduceEqDiff,fa72_4,h34,a54,g61,a62]
     refine hJ _ ?_
     exact ⟨h34,(by first | rfl | (simp only [g61]; rfl) | simp only [g61,Lk,RB,Nat.reduceEqDiff,not_false_eq_true]),f36,i37⟩
   rintro ⟨σ63,H56,d64⟩ ⟨h57,h58,f59,i60⟩
   refine rn_app_k (fun ⟨σ,H,_⟩=>Lk σ 1 (.pointer (some ⟨b1,0,none⟩)) ∧ Lk σ 46 (.bool (((decide (0 ≤ x0.f_Min)) && (decide (x0.f_Min ≤ 100))) && ((decide (x0.f_Max = ((-1)))) || ((decide (x0.f_Min ≤ x0.f_Max)) && (decide (x0.f_Max ≤ 100)))))) ∧ H[b1]? = some (.cells (S_b.c x0) 72) ∧ Iv c.nb [] H0 H) (fun J hJ=>?_) ?_
   ·skip
    cases g74:(decide (0 ≤ x0.f_Min)) && (decide (x0.f_Min ≤ 100))
    ·skip
     simp only [C.f97r5p1,R,Nat.reduceEqDiff,h58,g74]
     refine hJ _ ?_
     exact ⟨h57,(by first | rfl | (simp only [g74]; rfl) | simp only [g74,Lk,RB,Nat.reduceEqDiff,not_false_eq_true]),f59,i60⟩
    ·skip
     have a75:=ld_one (M:=Mt) (t:=3) f59 T.ag3 (Seg.refl.sub (S_b.seg5 x0))
     cases g79:decide (x0.f_Max = ((-1)))
     ·skip
      have a80:=ld_one (M:=Mt) (t:=3) f59 T.ag3 (Seg.refl.sub (S_b.seg5 x0))
      have a81:=ld_one (M:=Mt) (t:=3) f59 T.ag3 (Seg.refl.sub (S_b.seg4 x0))
      cases g83:decide (x0.f_Min ≤ x0.f_Max)
      ·skip
       simp only [C.f97r5p1,R,Nat.reduceEqDiff,h58,g74,fa72_5,h57,a75,g79,a80,fa72_4,a81,g83]
       refine hJ _ ?_
       exact ⟨h57,(by first | rfl | (simp only [g74,g79,g83]; rfl) | simp only [g74,g79,g83,Lk,RB,Nat.reduceEqDiff,not_false_eq_true]),f59,i60⟩
      ·skip
       have a84:=ld_one (M:=Mt) (t:=3) f59 T.ag3 (Seg.refl.sub (S_b.seg5 x0))
       simp only [C.f97r5p1,R,Nat.reduceEqDiff,h58,g74,fa72_5,h57,a75,g79,a80,fa72_4,a81,g83,a84]
       refine hJ _ ?_
       exact ⟨h57,(by first | rfl | (simp only [g74,g79,g83]; rfl) | simp only [g74,g79,g83,Lk,RB,Nat.reduceEqDiff,not_false_eq_true]),f59,i60⟩
     ·skip
      simp only [C.f97r5p1,R,Nat.reduceEqDiff,h58,g74,fa72_5,h57,a75,g79]
      refine hJ _ ?_
      exact ⟨h57,(by first | rfl | (simp only [g74,g79]; rfl) | simp only [g74,g79,Lk,RB,Nat.reduceEqDiff,not_false_eq_true]),f59,i60⟩
   rintro ⟨σ85,H69,d86⟩ ⟨h70,h71,f72,i73⟩
   refine rn_app_k (fun ⟨σ,H,_⟩=>Lk σ 1 (.pointer (some ⟨b1,0,none⟩)) ∧ Lk σ 51 (.bool ((((decide (0 ≤ x0.f_Min)) && (decide (x0.f_Min ≤ 100))) && ((decide (x0.f_Max = ((-1)))) || ((decide (x0.f_Min ≤ x0.f_Max)) && (decide (x0.f_Max ≤ 100))))) && (decide (0 ≤ x0.f_Mode)))) ∧ H[b1]? = some (.cells (S_b.c x0) 72) ∧ Iv c.nb [] H0 H) (fun J hJ=>?_) ?_
   ·skip
    cases g93:((decide (0 ≤ x0.f_Min)) && (decide (x0.f_Min ≤ 100))) && ((decide (x0.f_Max = ((-1)))) || ((decide (x0.f_Min ≤ x0.f_Max)) && (decide (x0.f_Max ≤ 100))))
    ·skip
     simp only [C.f97r5p2,R,Nat.reduceEqDiff,h71,g93]
     refine hJ _ ?_
     exact ⟨h70,(by first | rfl | (simp only [g93]; rfl) | simp only [g93,Lk,RB,Nat.reduceEqDiff,not_false_eq_true]),f72,i73⟩
    ·skip
     have a94:=ld_one (M:=Mt) (t:=3) f72 T.ag3 (Seg.refl.sub (S_b.seg6 x0))
     simp only [C.f97r5p2,R,Nat.reduceEqDiff,h71,g93,fa72_6,h70,a94]
     refine hJ _ ?_
     exact ⟨h70,(by first | rfl | (simp only [g93]; rfl) | simp only [g93,Lk,RB,Nat.reduceEqDiff,not_false_eq_true]),f72,i73⟩
   rintro ⟨σ95,H88,d96⟩ ⟨h89,h90,f91,i92⟩
   refine rn_app_k (fun ⟨σ,H,_⟩=>Lk σ 56 (.bool (((((decide (0 ≤ x0.f_Min)) && (decide (x0.f_Min ≤ 100))) && ((decide (x0.f_Max = ((-1)))) || ((decide (x0.f_Min ≤ x0.f_Max)) && (decide (x0.f_Max ≤ 100))))) && (decide (0 ≤ x0.f_Mode))) && (decide (x0.f_Mode ≤ 2)))) ∧ Iv c.nb [] H0 H) (fun J hJ=>?_) ?_
   ·skip
    cases g101:(((decide (0 ≤ x0.f_Min)) && (decide (x0.f_Min ≤ 100))) && ((decide (x0.f_Max = ((-1)))) || ((decide (x0.f_Min ≤ x0.f_Max)) && (decide (x0.f_Max ≤ 100))))) && (decide (0 ≤ x0.f_Mode))
    ·skip
     simp only [C.f97r5p3,R,Nat.reduceEqDiff,h90,g101]
     refine hJ _ ?_
     exact ⟨(by first | rfl | (simp only [g101]; rfl) | simp only [g101,Lk,RB,Nat.reduceEqDiff,not_false_eq_true]),i92⟩
    ·skip
     have a102:=ld_one (M:=Mt) (t:=3) f91 T.ag3 (Seg.refl.sub (S_b.seg6 x0))
     simp only [C.f97r5p3,R,Nat.reduceEqDiff,h90,g101,fa72_6,h89,a102]
     refine hJ _ ?_
     exact ⟨(by first | rfl | (simp only [g101]; rfl) | simp only [g101,Lk,RB,Nat.reduceEqDiff,not_false_eq_true]),i92⟩
   rintro ⟨σ103,H98,d104⟩ ⟨h99,i100⟩
   simp only [C.f97r5p4,R,Nat.reduceEqDiff,h99]
   refine hJ _ ?_
   refine tk_ret okM ?_
   obtain rfl:=Option.some.inj hm
   exact end_flat (.inl rfl) (vs:=[(.bool (((((decide (0 ≤ x0.f_Min)) && (decide (x0.f_Min ≤ 100))) && ((decide (x0.f_Max = ((-1)))) || ((decide (x0.f_Min ≤ x0.f_Max)) && (decide (x0.f_Max ≤ 100))))) && (decide (0 ≤ x0.f_Mode))) && (decide (x0.f_Mode ≤ 2))))]) (resT' (v:=(.bool (((((decide (0 ≤ x0.f_Min)) && (decide (x0.f_Min ≤ 100))) && ((decide (x0.f_Max = ((-1)))) || ((decide (x0.f_Min ≤ x0.f_Max)) && (decide (x0.f_Max ≤ 100))))) && (decide (0 ≤ x0.f_Mode))) && (decide (x0.f_Mode ≤ 2))))) rfl resN) (fm_cons rfl fm_nil)
def b_J (n:Nat) (x0:(Sl Int)):Nat → Int → Int → Option (Int)
 | 0,_,_=>none
 | k + 1,x3_16,x4_17=>bif decide (x4_17 < (Sl.len x0)) then ((ck (Sl.l x0).length x4_17).bind fun j35=>b_J n x0 k (max x3_16 (Sl.nth x0 j35)) (IntKind.i64.wrap (x4_17 + 1))) else (some x3_16)
def b_bv (n:Nat) (x0:(Sl Int)):Option (Int):=(ck (Sl.l x0).length 0).bind fun j7=>b_J n x0 n (Sl.nth x0 j7) 1
def b_bI (n:Nat) (x0:(Sl Int)):Option (Int):=bif decide ((Sl.len x0) < 1) then (none) else (b_bv n x0)
theorem w_eS {call:CallF} (hok:CallOk Mt call) {n:Nat} {H0:Hp} {x0:(Sl Int)} {b0:Nat} {r:Int} {ro:Nat} (hro:ro ≤ H0.length) (h0:SlH H0 (cInt .i64) 3 x0 b0) (hm:b_bI n x0 = some r) :
  Pt Mt ro 98 [(slV x0 b0)] H0 (.int .i64 (r)) H0 []:=by
 refine pt_new0 okM F98d (by exact Nat.le_of_ble_eq_true rfl) ?_ hro
 intro c hnt hnb hcr
 have hcn:c.ro ≤ c.nb:=by omega
 have l0:x0 ≠ none → b0 < c.nb:=fun h=>by rw [hnb]; exact h0.lt h
 have iv:Iv c.nb [] H0 H0:=by rw [hnb]; exact iv_refl
 rw [show args0 [(slV x0 b0)] = [(0,(slV x0 b0))] from rfl]
 rw [b_bI] at hm
 simp only [C.f98,C.f98b0]
 refine tk_os okM hok fun J hJ=>?_
 simp only [C.f98r0,R,Nat.reduceEqDiff]
 refine hJ _ ?_
 refine tk_seq_j (fun ⟨σ,H,_⟩=>b_bv n x0 = some r ∧ Lk σ 0 (slV x0 b0) ∧ Iv c.nb [] H0 H) ?_ ?_
 ·skip
  rintro ⟨σ5,H2,d6⟩ ⟨hm,h3,i4⟩
  rw [b_bv] at hm
  refine tk_os okM hok fun J hJ=>?_
  obtain ⟨j7,ej7,hm⟩:=bind_s hm
  obtain ⟨mm8,k9⟩:=(h0.iv l0 (fun _=>by simp) i4).blk (ck_lt ej7).1
  have a10:=lds_one (M:=Mt) (t:=3) k9 T.ag3 (seg_sl enc_int.len mm8 (ck_lt ej7).1)
  simp only [C.f98r3,R,Nat.reduceEqDiff,h3,ia100,ej7,a10]
  refine hJ _ ?_
  refine tk_seq_k fun K n11 x12=>?_
  refine tk_os okM hok fun J hJ=>?_
  simp only [C.f98r4,R,Nat.reduceEqDiff]
  refine hJ _ ?_
  refine tk_block_k fun K n13 e14 x15=>?_
  refine tk_loop_k (n:=n) (fun k2 ⟨σ,H,_⟩=>∃ x3_16 x4_17,b_J n x0 k2 x3_16 x4_17 = some r ∧ Lk σ 0 (slV x0 b0) ∧ Lk σ 3 (.int .i64 x3_16) ∧ Lk σ 4 (.int .i64 x4_17) ∧ Iv c.nb [] H0 H) ?_ ?_ ?_
  ·exact ⟨Sl.nth x0 j7,1,hm,h3,rfl,rfl,i4⟩
  ·rintro ⟨σ,H,d⟩ ⟨_,_,hm,_⟩
   cases hm
  ·intro k2 K n18 x19
   rintro ⟨σ25,H20,d26⟩ ⟨x3_16,x4_17,hm,h21,h22,h23,i24⟩
   rw [b_J.eq_2] at hm
   refine tk_seq_k fun K n27 x28=>?_
   refine tk_os okM hok fun J hJ=>?_
   simp only [C.f98r5,R,Nat.reduceEqDiff,h23,h21,ln100]
   refine hJ _ ?_
   refine tk_cond (t:=decide (x4_17 < (Sl.len x0))) rfl (fun g29=>?_) (fun g29=>?_)
   ·replace hm:=cond_t hm g29
    refine tk_skip okM ?_
    refine n27 _ ?_
    refine tk_seq_k fun K n30 x31=>?_
    refine tk_block_k fun K n32 e33 x34=>?_
    refine tk_oe okM hok fun J hJ=>?_
    obtain ⟨j35,ej35,hm⟩:=bind_s hm
    obtain ⟨mm36,k37⟩:=(h0.iv l0 (fun _=>by simp) i24).blk (ck_lt ej35).1
    have a38:=lds_one (M:=Mt) (t:=3) k37 T.ag3 (seg_sl enc_int.len mm36 (ck_lt ej35).1)
    simp only [C.f98r7,R,Nat.reduceEqDiff,h22,h21,h23,ia100,ej35,a38]
    refine hJ _ ?_
    refine n32 _ ?_
    refine n30 _ ?_
    refine tk_oe okM hok fun J hJ=>?_
    simp only [C.f98r6,R,Nat.reduceEqDiff,h23]
    refine hJ _ ?_
    refine n18 _ ?_
    exact ⟨max x3_16 (Sl.nth x0 j35),IntKind.i64.wrap (x4_17 + 1),hm,h21,rfl,rfl,i24⟩
   ·replace hm:=cond_f hm g29
    refine tk_exit okM ?_
    refine x28 _ _ (by simp) ?_
    refine x19 _ _ (by simp) ?_
    refine e14 _ ?_
    refine n11 _ ?_
    refine tk_os okM hok fun J hJ=>?_
    simp only [C.f98r8,R,Nat.reduceEqDiff,h22]
    refine hJ _ ?_
    refine tk_ret okM ?_
    obtain rfl:=Option.some.inj hm
    exact end_flat (.inl rfl) (vs:=[(.int .i64 (x3_16))]) (resT' (v:=(.int .i64 (x3_16))) rfl resN) (fm_cons rfl fm_nil)
 ·refine fun K n39 x40=>?_
  refine tk_os okM hok fun J hJ=>?_
  simp only [C.f98r1,R,Nat.reduceEqDiff,ln100]
  refine hJ _ ?_
  refine tk_cond (t:=decide ((Sl.len x0) < 1)) rfl (fun g41=>?_) (fun g41=>?_)
  ·replace hm:=cond_t hm g41
   cases hm
  ·replace hm:=cond_f hm g41
   refine tk_skip okM ?_
   refine n39 _ ?_
   exact ⟨hm,rfl,iv⟩
def b_d1 (n:Nat) (x0:Int) (x1:Int):Option (Int):=bif (decide (x0 = ((-1)))) || (decide (x1 = ((-1)))) then (some ((-1))) else (some (min (IntKind.i64.wrap (x0 + x1)) 1048576))
theorem w_g9 {call:CallF} (hok:CallOk Mt call) {n:Nat} {H0:Hp} {x0:Int} {x1:Int} {r:Int} {ro:Nat} (hro:ro ≤ H0.length) (hm:b_d1 n x0 x1 = some r) :
  Pt Mt ro 99 [(.int .i64 x0),(.int .i64 x1)] H0 (.int .i64 (r)) H0 []:=by
 refine pt_new0 okM F99d (by exact Nat.le_of_ble_eq_true rfl) ?_ hro
 intro c hnt hnb hcr
 have hcn:c.ro ≤ c.nb:=by omega
 have iv:Iv c.nb [] H0 H0:=by rw [hnb]; exact iv_refl
 rw [show args0 [(.int .i64 x0),(.int .i64 x1)] = [(0,(.int .i64 x0)),(1,(.int .i64 x1))] from rfl]
 rw [b_d1] at hm
 simp only [C.f99]
 refine tk_os okM hok fun J hJ=>?_
 simp only [C.f99r0,R,Nat.reduceEqDiff]
 refine hJ _ ?_
 refine tk_seq_k fun K n1 x2=>?_
 refine tk_os okM hok fun J hJ=>?_
 refine rn_k (fun ⟨σ,H,_⟩=>Lk σ 0 (.int .i64 (x0)) ∧ Lk σ 1 (.int .i64 (x1)) ∧ Lk σ 10 (.bool ((decide (x0 = ((-1)))) || (decide (x1 = ((-1)))))) ∧ Iv c.nb [] H0 H) (fun J hJ=>?_) ?_
 ·skip
  cases g8:decide (x0 = ((-1)))
  ·skip
   simp only [C.f99r1,R,Nat.reduceEqDiff,g8]
   refine hJ _ ?_
   exact ⟨(by first | rfl | (simp only [g8]; rfl) | simp only [g8,Lk,RB,Nat.reduceEqDiff,not_false_eq_true]),(by first | rfl | (simp only [g8]; rfl) | simp only [g8,Lk,RB,Nat.reduceEqDiff,not_false_eq_true]),(by first | rfl | (simp only [g8]; rfl) | simp only [g8,Lk,RB,Nat.reduceEqDiff,not_false_eq_true]),iv⟩
  ·skip
   simp only [C.f99r1,R,Nat.reduceEqDiff,g8]
   refine hJ _ ?_
   exact ⟨(by first | rfl | (simp only [g8]; rfl) | simp only [g8,Lk,RB,Nat.reduceEqDiff,not_false_eq_true]),(by first | rfl | (simp only [g8]; rfl) | simp only [g8,Lk,RB,Nat.reduceEqDiff,not_false_eq_true]),(by first | rfl | (simp only [g8]; rfl) | simp only [g8,Lk,RB,Nat.reduceEqDiff,not_false_eq_true]),iv⟩
 rintro ⟨σ9,H3,d10⟩ ⟨h4,h5,h6,i7⟩
 refine hJ _ ?_
 refine tk_cond (t:=(decide (x0 = ((-1)))) || (decide (x1 = ((-1))))) h6 (fun g11=>?_) (fun g11=>?_)
 ·replace hm:=cond_t hm g11
  refine tk_os okM hok fun J hJ=>?_
  simp only [C.f99r2,R,Nat.reduceEqDiff]
  refine hJ _ ?_
  refine tk_ret okM ?_
  refine x2 _ _ (by simp) ?_
  obtain rfl:=Option.some.inj hm
  exact end_flat (.inl rfl) (vs:=[(.int .i64 ((-1)))]) (resT' (v:=(.int .i64 ((-1)))) rfl resN) (fm_cons rfl fm_nil)
 ·replace hm:=cond_f hm g11
  refine tk_skip okM ?_
  refine n1 _ ?_
  refine tk_os okM hok fun J hJ=>?_
  simp only [C.f99r3,R,Nat.reduceEqDiff,h4,h5]
  refine hJ _ ?_
  refine tk_ret okM ?_
  obtain rfl:=Option.some.inj hm
  exact end_flat (.inl rfl) (vs:=[(.int .i64 (min (IntKind.i64.wrap (x0 + x1)) 1048576))]) (resT' (v:=(.int .i64 (min (IntKind.i64.wrap (x0 + x1)) 1048576))) rfl resN) (fm_cons rfl fm_nil)
def b_dF (n:Nat) (x0:Int) (x1:Int):Option (Int):=bif (decide (x0 = 0)) || (decide (x1 = 0)) then (some 0) else (bif (decide (x0 = ((-1)))) || (decide (x1 = ((-1)))) then (some ((-1))) else (some (min (IntKind.i64.wrap (x0 * x1)) 1048576)))
theorem w_gR {call:CallF} (hok:CallOk Mt call) {n:Nat} {H0:Hp} {x0:Int} {x1:Int} {r:Int} {ro:Nat} (hro:ro ≤ H0.length) (hm:b_dF n x0 x1 = some r) :
  Pt Mt ro 100 [(.int .i64 x0),(.int .i64 x1)] H0 (.int .i64 (r)) H0 []:=by
 refine pt_new0 okM F100d (by exact Nat.le_of_ble_eq_true rfl) ?_ hro
 intro c hnt hnb hcr
 have hcn:c.ro ≤ c.nb:=by omega
 have iv:Iv c.nb [] H0 H0:=by rw [hnb]; exact iv_refl
 rw [show args0 [(.int .i64 x0),(.int .i64 x1)] = [(0,(.int .i64 x0)),(1,(.int .i64 x1))] from rfl]
 rw [b_dF] at hm
 simp only [C.f100]
 refine tk_os okM hok fun J hJ=>?_
 simp only [C.f100r0,R,Nat.reduceEqDiff]
 refine hJ _ ?_
 refine tk_seq_k fun K n1 x2=>?_
 refine tk_block_k fun K n3 e4 x5=>?_
 refine tk_os okM hok fun J hJ=>?_
 rw [C.f100r1]
 refine rn_app_k (fun ⟨σ,H,_⟩=>Lk σ 0 (.int .i64 (x0)) ∧ Lk σ 1 (.int .i64 (x1)) ∧ Lk σ 11 (.bool ((decide (x0 = 0)) || (decide (x1 = 0)))) ∧ Iv c.nb [] H0 H) (fun J hJ=>?_) ?_
 ·skip
  cases g11:decide (x0 = 0)
  ·skip
   simp only [C.f100r1p0,R,Nat.reduceEqDiff,g11]
   refine hJ _ ?_
   exact ⟨(by first | rfl | (simp only [g11]; rfl) | simp only [g11,Lk,RB,Nat.reduceEqDiff,not_false_eq_true]),(by first | rfl | (simp only [g11]; rfl) | simp only [g11,Lk,RB,Nat.reduceEqDiff,not_false_eq_true]),(by first | rfl | (simp only [g11]; rfl) | simp only [g11,Lk,RB,Nat.reduceEqDiff,not_false_eq_true]),iv⟩
  ·skip
   simp only [C.f100r1p0,R,Nat.reduceEqDiff,g11]
   refine hJ _ ?_
   exact ⟨(by first | rfl | (simp only [g11]; rfl) | simp only [g11,Lk,RB,Nat.reduceEqDiff,not_false_eq_true]),(by first | rfl | (simp only [g11]; rfl) | simp only [g11,Lk,RB,Nat.reduceEqDiff,not_false_eq_true]),(by first | rfl | (simp only [g11]; rfl) | simp only [g11,Lk,RB,Nat.reduceEqDiff,not_false_eq_true]),iv⟩
 rintro ⟨σ12,H6,d13⟩ ⟨h7,h8,h9,i10⟩
 simp only [C.f100r1p1,R,Nat.reduceEqDiff,h9]
 refine hJ _ ?_
 refine tk_cond (t:=(decide (x0 = 0)) || (decide (x1 = 0))) rfl (fun g14=>?_) (fun g14=>?_)
 ·replace hm:=cond_t hm g14
  refine tk_os okM hok fun J hJ=>?_
  simp only [C.f100r2,R,Nat.reduceEqDiff]
  refine hJ _ ?_
  refine tk_ret okM ?_
  refine x5 _ _ (by simp) (by simp) ?_
  refine x2 _ _ (by simp) ?_
  obtain rfl:=Option.some.inj hm
  exact end_flat (.inl rfl) (vs:=[(.int .i64 (0))]) (resT' (v:=(.int .i64 (0))) rfl resN) (fm_cons rfl fm_nil)
 ·replace hm:=cond_f hm g14
  refine tk_os okM hok fun J hJ=>?_
  rw [C.f100r3]
  refine rn_app_k (fun ⟨σ,H,_⟩=>Lk σ 0 (.int .i64 (x0)) ∧ Lk σ 1 (.int .i64 (x1)) ∧ Lk σ 18 (.bool ((decide (x0 = ((-1)))) || (decide (x1 = ((-1)))))) ∧ Iv c.nb [] H0 H) (fun J hJ=>?_) ?_
  ·skip
   cases g20:decide (x0 = ((-1)))
   ·skip
    simp only [C.f100r3p0,R,Nat.reduceEqDiff,h7,g20,h8]
    refine hJ _ ?_
    exact ⟨h7,h8,(by first | rfl | (simp only [g20]; rfl) | simp only [g20,Lk,RB,Nat.reduceEqDiff,not_false_eq_true]),i10⟩
   ·skip
    simp only [C.f100r3p0,R,Nat.reduceEqDiff,h7,g20]
    refine hJ _ ?_
    exact ⟨h7,h8,(by first | rfl | (simp only [g20]; rfl) | simp only [g20,Lk,RB,Nat.reduceEqDiff,not_false_eq_true]),i10⟩
  rintro ⟨σ21,H15,d22⟩ ⟨h16,h17,h18,i19⟩
  simp only [C.f100r3p1,R,Nat.reduceEqDiff,h18]
  refine hJ _ ?_
  refine tk_cond (t:=(decide (x0 = ((-1)))) || (decide (x1 = ((-1))))) rfl (fun g23=>?_) (fun g23=>?_)
  ·replace hm:=cond_t hm g23
   refine tk_os okM hok fun J hJ=>?_
   simp only [C.f100r4,R,Nat.reduceEqDiff]
   refine hJ _ ?_
   refine tk_ret okM ?_
   refine x5 _ _ (by simp) (by simp) ?_
   refine x2 _ _ (by simp) ?_
   obtain rfl:=Option.some.inj hm
   exact end_flat (.inl rfl) (vs:=[(.int .i64 ((-1)))]) (resT' (v:=(.int .i64 ((-1)))) rfl resN) (fm_cons rfl fm_nil)
  ·replace hm:=cond_f hm g23
   refine tk_skip okM ?_
   refine n3 _ ?_
   refine n1 _ ?_
   refine tk_os okM hok fun J hJ=>?_
   simp only [C.f100r5,R,Nat.reduceEqDiff,h16,h17]
   refine hJ _ ?_
   refine tk_ret okM ?_
   obtain rfl:=Option.some.inj hm
   exact end_flat (.inl rfl) (vs:=[(.int .i64 (min (IntKind.i64.wrap (x0 * x1)) 1048576))]) (resT' (v:=(.int .i64 (min (IntKind.i64.wrap (x0 * x1)) 1048576))) rfl resN) (fm_cons rfl fm_nil)
def b_cg (n:Nat) (x0:Int) (x1:(Sl Int)):Option (Int):=(ck (Sl.l x1).length x0).bind fun j4=>some (IntKind.i64.wrap ((IntKind.i64.wrap (x0 - (Sl.nth x1 j4))) + 1))
theorem w_fG {call:CallF} (hok:CallOk Mt call) {n:Nat} {H0:Hp} {x0:Int} {x1:(Sl Int)} {b1:Nat} {s1:Nat} {r:Int} {ro:Nat} (hro:ro ≤ H0.length) (hb1:H0[b1]? = some (.cells [slV x1 s1] 100)) (h1:SlH H0 (cInt .i64) 3 x1 s1) (hm:b_cg n x0 x1 = some r) :
  Pt Mt ro 102 [(.int .i64 x0),(.pointer (some ⟨b1,0,none⟩))] H0 (.int .i64 (r)) H0 []:=by
 refine pt_new0 okM F102d (by exact Nat.le_of_ble_eq_true rfl) ?_ hro
 intro c hnt hnb hcr
 have hcn:c.ro ≤ c.nb:=by omega
 have lb1:b1 < c.nb:=by rw [hnb]; exact get_lt hb1
 have l1:x1 ≠ none → s1 < c.nb:=fun h=>by rw [hnb]; exact h1.lt h
 have iv:Iv c.nb [] H0 H0:=by rw [hnb]; exact iv_refl
 rw [show args0 [(.int .i64 x0),(.pointer (some ⟨b1,0,none⟩))] = [(0,(.int .i64 x0)),(1,(.pointer (some ⟨b1,0,none⟩)))] from rfl]
 rw [b_cg] at hm
 simp only [C.f102]
 refine tk_os okM hok fun J hJ=>?_
 simp only [C.f102r0,R,Nat.reduceEqDiff]
 refine hJ _ ?_
 refine tk_os okM hok fun J hJ=>?_
 have a3:=ld_one (M:=Mt) (t:=100) ((iv.old b1 lb1 (by simp)).trans hb1) T.ag100 Seg.refl
 obtain ⟨j4,ej4,hm⟩:=bind_s hm
 obtain ⟨mm5,k6⟩:=(h1.iv l1 (fun _=>by simp) iv).blk (ck_lt ej4).1
 have a7:=lds_one (M:=Mt) (t:=3) k6 T.ag3 (seg_sl enc_int.len mm5 (ck_lt ej4).1)
 simp only [C.f102r1,R,Nat.reduceEqDiff,a3,ia100,ej4,a7]
 refine hJ _ ?_
 refine tk_ret okM ?_
 obtain rfl:=Option.some.inj hm
 exact end_flat (.inl rfl) (vs:=[(.int .i64 (IntKind.i64.wrap ((IntKind.i64.wrap (x0 - (Sl.nth x1 j4))) + 1)))]) (resT' (v:=(.int .i64 (IntKind.i64.wrap ((IntKind.i64.wrap (x0 - (Sl.nth x1 j4))) + 1)))) rfl resN) (fm_cons rfl fm_nil)
end Go.Proofs.YtaadjlpfdajggaaGreatDoor
