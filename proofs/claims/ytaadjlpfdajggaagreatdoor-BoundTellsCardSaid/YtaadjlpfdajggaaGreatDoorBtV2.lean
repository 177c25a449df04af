import Derived.Test.YtaadjlpfdajggaaGreatDoorBtBase
set_option maxRecDepth 100000
set_option linter.unusedVariables false
set_option linter.unusedSimpArgs false
namespace Go.Proofs.YtaadjlpfdajggaaGreatDoor
open Go Go.AM
attribute [local congr] bind_first map_first
def b_bG (c_w:T_bQ) (c_j:T_P) (c_m:T_V) (n:Nat) (q1:Sl Int → Sl Int → Int → Int → Option (Bool)) (x0:(Sl S_a)) (l98:Sl Int) (l100:Sl Int) (x19_102:Int) (x20_103:Int):Option (Bool):=q1 l98 l100 x19_102 (IntKind.i64.wrap (x20_103 + 1))
def b_bn (c_w:T_bQ) (c_j:T_P) (c_m:T_V) (n:Nat) (x0:(Sl S_a)):Nat → Sl Int → Int → Int → Option (Bool)
 | 0,_,_,_=>none
 | k + 1,l253,x38_255,x39_256=>bif decide (x39_256 < x38_255) then ((ck (Sl.l l253).length x39_256).bind fun j282=>(ck (Sl.l x0).length (Sl.nth l253 j282)).bind fun j287=>bif !decide (((Sl.nth x0 j287).f_N) = (IntKind.i64.wrap (x39_256 + 1))) then (some false) else (b_bn c_w c_j c_m n x0 k l253 x38_255 (IntKind.i64.wrap (x39_256 + 1)))) else ((bif decide ((Sl.len l253) ≤ 9) then ((c_m x0 l253).bind fun v295=>some (!v295)) else some false).bind fun y296=>some y296)
def b_2 (c_w:T_bQ) (c_j:T_P) (c_m:T_V) (n:Nat) (x0:(Sl S_a)):Nat → Sl Int → Sl Int → Int → Int → Option (Bool)
 | 0,_,_,_,_=>none
 | k + 1,l63,l65,x19_67,x20_68=>bif decide (x20_68 < x19_67) then ((ck (Sl.l x0).length x20_68).bind fun j133=>bif decide (((Sl.nth x0 j133).f_Kind) = 11) then ((Sl.app 8 l65 (some ([x20_68]:List Int))).bind fun v180=>b_bG c_w c_j c_m n (b_2 c_w c_j c_m n x0 k) x0 l63 v180 x19_67 x20_68) else (b_bG c_w c_j c_m n (b_2 c_w c_j c_m n x0 k) x0 l63 l65 x19_67 x20_68)) else ((c_j l65 l63).bind fun l241=>b_bn c_w c_j c_m n x0 n l241 (Sl.len l65) 0)
def b_dh (c_w:T_bQ) (c_j:T_P) (c_m:T_V) (n:Nat) (x0:(Sl S_a)):Option (Bool):=(c_w x0).bind fun v14=>b_2 c_w c_j c_m n x0 n v14.1 none (Sl.len x0) 0
theorem w_hx {call:CallF} (hok:CallOk Mt call) {n:Nat} {c_w:T_bQ} (z_eO:A_fd call c_w) {c_j:T_P} (z_ef:A_cM call c_j) {c_m:T_V} (z_em:A_c7 call c_m) {H0:Hp} {x0:(Sl S_a)} {b0:Nat} {r:Bool} {ro:Nat} (hro:ro ≤ H0.length) (h0:SlH H0 S_a.c 72 x0 b0) (hm:b_dh c_w c_j c_m n x0 = some r) :
  Pt Mt ro 68 [(vAgg [slV x0 b0])] H0 (.bool (r)) H0 []:=by
 refine pt_new0 okM F68d (by exact Nat.le_of_ble_eq_true rfl) ?_ hro
 intro c hnt hnb hcr
 have hcn:c.ro ≤ c.nb:=by omega
 have l0:x0 ≠ none → b0 < c.nb:=fun h=>by rw [hnb]; exact h0.lt h
 have iv:Iv c.nb [] H0 H0:=by rw [hnb]; exact iv_refl
 rw [show args0 [(vAgg [slV x0 b0])] = [(0,(vAgg [slV x0 b0]))] from rfl]
 rw [b_dh] at hm
 simp only [C.f68,C.f68b0,C.f68b1]
 refine tk_os okM hok fun J hJ=>?_
 obtain ⟨b2,H3,a4,f5,q6,r7,x8,i9⟩:=bx_ok (M:=Mt) (t:=37) (u:=(vAgg [(slV x0 b0)])) (cs:=[(slV x0 b0)]) H0 iv.le T.sz37 vAgg_cells one_sl
 have i10:=i9 _ _ iv
 simp only [C.f68r0,R,Nat.reduceEqDiff,a4]
 refine hJ _ ?_
 refine tk_os okM hok fun J hJ=>?_
 have a12:=ld_agg (M:=Mt) (t:=37) (off:=0) (c:=[(slV x0 b0)]) f5 T.ag37 T.sz37 Seg.refl
 obtain ⟨v14,ev14,hm⟩:=bind_s hm
 have a13:=z_eO c.ro H3 x0 b0 v14 (h0.iv l0 (fun _=>by simp) i10) ev14
 obtain ⟨H15,q16⟩:∃ x,x = H3 ++ slB (cInt .i64) 3 v14.1:=⟨_,rfl⟩
 obtain ⟨b17,q18⟩:∃ b,b = H3.length:=⟨_,rfl⟩
 rw [← q16,← q18] at a13
 have x22:Ex H3 H15:=by rw [q16]; exact ex_app
 have i20:Iv c.nb [] H0 H15:=by rw [q16]; exact i10.app
 have f19:SlO c.nb H15 (cInt .i64) 3 v14.1 b17:=by rw [q16,q18]; exact slB_own i10.le
 have r21:c.nb ≤ b17:=by rw [q18]; exact i10.le
 have f23:=x22 _ _ f5
 obtain ⟨b25,H26,a27,f28,q29,r30,x31,i32⟩:=al_ok H15 100 [.slice none 0 0] i20.le
 have i33:=i32 _ _ i20
 have f34:=x31 _ _ f23
 have f35:=f19.ex x31
 obtain ⟨H37,a38,f39,u40⟩:=st_ok (M:=Mt) (t:=100) (off:=0) (ro:=c.ro) (v:=(slV v14.1 b17)) (c:=[(slV v14.1 b17)]) (cs':=[(slV v14.1 b17)]) f28 T.sz100 cells_sl one_sl (Nat.le_trans hcn r30) (Nat.le_refl _) rfl
 have i41:=i33.up u40 r30
 have f42:=(u40.get _ (ne_len f23 q29)).trans f34
 have f43:=f35.up u40 (f19.h.ne q29)
 simp only [C.f68r1,R,Nat.reduceEqDiff,a12,c_fn F62,a13,(show zc Mt.P 100 = _ from T.zc100),a27,a38]
 refine hJ _ ?_
 refine tk_os okM hok fun J hJ=>?_
 obtain ⟨b44,H45,a46,f47,q48,r49,x50,i51⟩:=al_ok H37 100 [.slice none 0 0] i41.le
 have i52:=i51 _ _ i41
 have f53:=x50 _ _ f42
 have f54:=f43.ex x50
 have f55:=x50 _ _ f39
 simp only [C.f68r2,R,Nat.reduceEqDiff,(show zc Mt.P 100 = _ from T.zc100),a46]
 refine hJ _ ?_
 refine tk_seq_k fun K n57 x58=>?_
 refine tk_os okM hok fun J hJ=>?_
 have a59:=ld_one (M:=Mt) (t:=35) (off:=0 + 0) f53 T.ag35 Seg.refl
 simp only [C.f68r3,R,Nat.reduceEqDiff,fa37_0,a59,ln35]
 refine hJ _ ?_
 refine tk_block_k fun K n60 e61 x62=>?_
 refine tk_loop_k (n:=n) (fun k1 ⟨σ,H,_⟩=>∃ l63 l65 x19_67 x20_68 b64 b66,b_2 c_w c_j c_m n x0 k1 l63 l65 x19_67 x20_68 = some r ∧ Lk σ 1 (.pointer (some ⟨b2,0,none⟩)) ∧ Lk σ 3 (.pointer (some ⟨b25,0,none⟩)) ∧ Lk σ 5 (.pointer (some ⟨b44,0,none⟩)) ∧ Lk σ 18 (slV x0 b0) ∧ Lk σ 19 (.int .i64 x19_67) ∧ Lk σ 20 (.int .i64 x20_68) ∧ H[b2]? = some (.cells [(slV x0 b0)] 37) ∧ SlO c.nb H (cInt .i64) 3 l63 b64 ∧ H[b25]? = some (.cells [(slV l63 b64)] 100) ∧ SlO c.nb H (cInt .i64) 3 l65 b66 ∧ H[b44]? = some (.cells [(slV l65 b66)] 100) ∧ (l63 ≠ none → b64 ≠ b2) ∧ (l63 ≠ none → b64 ≠ b25) ∧ (l63 ≠ none → b64 ≠ b44) ∧ (l65 ≠ none → b66 ≠ b2) ∧ (l65 ≠ none → b66 ≠ b25) ∧ (l65 ≠ none → b66 ≠ b44) ∧ (l63 ≠ none → l65 ≠ none → b64 ≠ b66) ∧ Iv c.nb [] H0 H) ?_ ?_ ?_
 ·exact ⟨v14.1,none,Sl.len x0,0,b17,0,hm,rfl,rfl,rfl,rfl,rfl,rfl,f53,f54,f55,slO_nil,f47,(fun _=>(ne_len f5 q18).symm),(f19.h.ne q29),(f43.h.ne q48),(fun h=>absurd rfl h),(fun h=>absurd rfl h),(fun h=>absurd rfl h),(fun _ h=>absurd rfl h),i52⟩
 ·rintro ⟨σ,H,d⟩ ⟨_,_,_,_,_,_,hm,_⟩
  cases hm
 ·intro k1 K n69 x70
  rintro ⟨σ93,H71,d94⟩ ⟨l63,l65,x19_67,x20_68,b64,b66,hm,h74,h75,h76,h77,h78,h79,f80,f81,f82,f83,f84,n85,n86,n87,n88,n89,n90,n91,i92⟩
  rw [b_2.eq_2] at hm
  refine tk_os okM hok fun J hJ=>?_
  simp only [C.f68r4,R,Nat.reduceEqDiff,h79,h78]
  refine hJ _ ?_
  refine tk_seq_k fun K n95 x96=>?_
  refine tk_cond (t:=decide (x20_68 < x19_67)) rfl (fun g97=>?_) (fun g97=>?_)
  ·replace hm:=cond_t hm g97
   refine tk_skip okM ?_
   refine n95 _ ?_
   refine tk_seq_j (fun ⟨σ,H,_⟩=>∃ l98 l100 x19_102 x20_103 b99 b101,b_bG c_w c_j c_m n (b_2 c_w c_j c_m n x0 k1) x0 l98 l100 x19_102 x20_103 = some r ∧ Lk σ 1 (.pointer (some ⟨b2,0,none⟩)) ∧ Lk σ 3 (.pointer (some ⟨b25,0,none⟩)) ∧ Lk σ 5 (.pointer (some ⟨b44,0,none⟩)) ∧ Lk σ 18 (slV x0 b0) ∧ Lk σ 19 (.int .i64 x19_102) ∧ Lk σ 20 (.int .i64 x20_103) ∧ H[b2]? = some (.cells [(slV x0 b0)] 37) ∧ SlO c.nb H (cInt .i64) 3 l98 b99 ∧ H[b25]? = some (.cells [(slV l98 b99)] 100) ∧ SlO c.nb H (cInt .i64) 3 l100 b101 ∧ H[b44]? = some (.cells [(slV l100 b101)] 100) ∧ (l98 ≠ none → b99 ≠ b2) ∧ (l98 ≠ none → b99 ≠ b25) ∧ (l98 ≠ none → b99 ≠ b44) ∧ (l100 ≠ none → b101 ≠ b2) ∧ (l100 ≠ none → b101 ≠ b25) ∧ (l100 ≠ none → b101 ≠ b44) ∧ (l98 ≠ none → l100 ≠ none → b99 ≠ b101) ∧ Iv c.nb [] H0 H) ?_ ?_
   ·skip
    rintro ⟨σ126,H104,d127⟩ ⟨l98,l100,x19_102,x20_103,b99,b101,hm,h107,h108,h109,h110,h111,h112,f113,f114,f115,f116,f117,n118,n119,n120,n121,n122,n123,n124,i125⟩
    rw [b_bG] at hm
    refine tk_oe okM hok fun J hJ=>?_
    simp only [C.f68r8,R,Nat.reduceEqDiff,h112]
    refine hJ _ ?_
    refine n69 _ ?_
    exact ⟨l98,l100,x19_102,IntKind.i64.wrap (x20_103 + 1),b99,b101,hm,h107,h108,h109,h110,h111,rfl,f113,f114,f115,f116,f117,n118,n119,n120,n121,n122,n123,n124,i125⟩
   ·refine fun K n128 x129=>?_
    refine tk_block_k fun K n130 e131 x132=>?_
    refine tk_os okM hok fun J hJ=>?_
    obtain ⟨j133,ej133,hm⟩:=bind_s hm
    obtain ⟨mm134,k135⟩:=(h0.iv l0 (fun _=>by simp) i92).blk (ck_lt ej133).1
    have a136:=lds_agg (M:=Mt) (t:=72) k135 T.ag72 (by rw [S_a.enc.len]; exact T.sz72) (seg_sl S_a.enc.len mm134 (ck_lt ej133).1)
    obtain ⟨b137,H138,a139,f140,q141,r142,x143,i144⟩:=al_ok H71 72 (S_a.c S_a.zero) i92.le
    have i145:=i144 _ _ i92
    have f146:=x143 _ _ f80
    have f147:=f81.ex x143
    have f148:=x143 _ _ f82
    have f149:=f83.ex x143
    have f150:=x143 _ _ f84
    obtain ⟨H152,a153,f154,u155⟩:=st_ok (M:=Mt) (t:=72) (v:=(vAgg (S_a.c (Sl.nth x0 j133)))) (c:=S_a.c (Sl.nth x0 j133)) (cs':=S_a.c (Sl.nth x0 j133)) f140 (by rw [S_a.enc.len]; exact T.sz72) vAgg_cells (S_a.enc.one _) (Nat.le_trans hcn r142) (le0 S_a.enc.len) (wrs_all (eqL S_a.enc.len))
    have i156:=i145.up u155 r142
    have f157:=(u155.get _ (ne_len f80 q141)).trans f146
    have f158:=f147.up u155 (f81.h.ne q141)
    have f159:=(u155.get _ (ne_len f82 q141)).trans f148
    have f160:=f149.up u155 (f83.h.ne q141)
    have f161:=(u155.get _ (ne_len f84 q141)).trans f150
    simp only [C.f68r5,R,Nat.reduceEqDiff,h79,ia35,ej133,h77,a136,zs72,a139,a153]
    refine hJ _ ?_
    refine tk_os okM hok fun J hJ=>?_
    have a162:=ld_one (M:=Mt) (t:=3) f154 T.ag3 (Seg.refl.sub (S_a.seg0 (Sl.nth x0 j133)))
    simp only [C.f68r6,R,Nat.reduceEqDiff,fa72_0,a162]
    refine hJ _ ?_
    refine tk_cond (t:=decide (((Sl.nth x0 j133).f_Kind) = 11)) rfl (fun g163=>?_) (fun g163=>?_)
    ·replace hm:=cond_t hm g163
     refine tk_oe okM hok fun J hJ=>?_
     have a164:=ld_one (M:=Mt) (t:=100) f161 T.ag100 Seg.refl
     obtain ⟨b165,H166,a167,f168,q169,r170,x171,i172⟩:=bs_ok (M:=Mt) (t:=100) (e:=3) (c:=(cInt .i64)) (l:=([x20_68]:List Int)) (ps:=[(0,(.int .i64 (x20_68)))]) (n:=1) H152 i156.le Tryz.underlying100 (zs3) rfl (by simp only [List.length_cons,List.length_nil]; decide) (fun _=>rfl) enc_int.one rfl rfl
     have i173:=i172 _ _ i156
     have f174:=x171 _ _ f157
     have f175:=f158.ex x171
     have f176:=x171 _ _ f159
     have f177:=f160.ex x171
     have f178:=x171 _ _ f161
     obtain ⟨v180,ev180,hm⟩:=bind_s hm
     obtain ⟨b181,H182,a183,f184,mv185,i186,nw187⟩:=app_ok (M:=Mt) (t:=100) (u:=100) (nb:=c.nb) (x:=l65) (y:=some ([x20_68]:List Int)) (b:=b66) (b2:=b165) Tryz.underlying100 Tryz.underlying100 T.sz3 T.by3 zs3 (by decide) (by decide) enc_int.len enc_int.one i173.le hcn f177 f168.h ev180
     have i188:=i186 _ _ i173
     have n189:=nw187 b2 (get_lt f174) n88
     have n190:=fun (h:l63 ≠ none)=>nw187 b64 (f175.h.lt h) (fun h'=>(n91 h h').symm)
     have n191:=nw187 b25 (get_lt f176) n89
     have n192:=nw187 b44 (get_lt f178) n90
     have f193:=mv185.2 _ _ (fun h=>(n88 h).symm) f174
     have f194:=f175.mv mv185 n91
     have f195:=mv185.2 _ _ (fun h=>(n89 h).symm) f176
     have f196:=mv185.2 _ _ (fun h=>(n90 h).symm) f178
     obtain ⟨H198,a199,f200,u201⟩:=st_ok (M:=Mt) (t:=100) (off:=0) (ro:=c.ro) (v:=(slV v180 b181)) (c:=[(slV v180 b181)]) (cs':=[(slV v180 b181)]) f196 T.sz100 cells_sl one_sl (Nat.le_trans hcn r49) (Nat.le_refl _) rfl
     have i202:=i188.up u201 r49
     have f203:=(u201.get _ (ne_len f42 q48)).trans f193
     have f204:=f194.up u201 n87
     have f205:=(u201.get _ (ne_len f39 q48)).trans f195
     have f206:=f184.up u201 n192
     simp only [C.f68r7,R,Nat.reduceEqDiff,a164,h76,a167,a183,a199]
     refine hJ _ ?_
     refine n130 _ ?_
     refine n128 _ ?_
     exact ⟨l63,v180,x19_67,x20_68,b64,b181,hm,h74,h75,h76,h77,h78,h79,f203,f204,f205,f206,f200,n85,n86,n87,n189,n191,n192,(fun h h'=>(n190 h h').symm),i202⟩
    ·replace hm:=cond_f hm g163
     refine tk_skip okM ?_
     refine n130 _ ?_
     refine n128 _ ?_
     exact ⟨l63,l65,x19_67,x20_68,b64,b66,hm,h74,h75,h76,h77,h78,h79,f157,f158,f159,f160,f161,n85,n86,n87,n88,n89,n90,n91,i156⟩
  ·replace hm:=cond_f hm g97
   refine tk_exit okM ?_
   refine x96 _ _ (by simp) ?_
   refine x70 _ _ (by simp) ?_
   refine e61 _ ?_
   refine n57 _ ?_
   refine tk_os okM hok fun J hJ=>?_
   obtain ⟨b207,H208,a209,f210,q211,r212,x213,i214⟩:=al_ok H71 99 [.nilFunc] i92.le
   have i215:=i214 _ _ i92
   have f216:=x213 _ _ f80
   have f217:=f81.ex x213
   have f218:=x213 _ _ f82
   have f219:=f83.ex x213
   have f220:=x213 _ _ f84
   obtain ⟨H222,a223,f224,u225⟩:=st_ok (M:=Mt) (t:=99) (off:=0) (ro:=c.ro) (v:=(.func (.func 102) [].toArray [(.pointer (some ⟨b25,0,none⟩))].toArray)) (c:=[(.func (.func 102) [].toArray [(.pointer (some ⟨b25,0,none⟩))].toArray)]) (cs':=[(.func (.func 102) [].toArray [(.pointer (some ⟨b25,0,none⟩))].toArray)]) f210 T.sz99 rfl (one_v rfl) (Nat.le_trans hcn r212) (Nat.le_refl _) rfl
   have i226:=i215.up u225 r212
   have f227:=(u225.get _ (ne_len f80 q211)).trans f216
   have f228:=f217.up u225 (f81.h.ne q211)
   have f229:=(u225.get _ (ne_len f82 q211)).trans f218
   have f230:=f219.up u225 (f83.h.ne q211)
   have f231:=(u225.get _ (ne_len f84 q211)).trans f220
   simp only [C.f68r9,R,Nat.reduceEqDiff,o_makeFunc,mf_ok,h75,(show zc Mt.P 99 = _ from T.zc99),a209,a223]
   refine hJ _ ?_
   refine tk_os okM hok fun J hJ=>?_
   have a232:=ld_one (M:=Mt) (t:=100) f231 T.ag100 Seg.refl
   obtain ⟨l241,el241,hm⟩:=bind_s hm
   obtain ⟨H236,a237,f238,u239,sv233,sn234,sl235⟩:=z_ef c.ro c.nb H222 l65 b66 l63 b207 b25 b64 l241 hcn f230 f224 f229 f228.h (fun h=>((f83.h.ne q211) h)) (fun h=>(n89 h)) (fun h h'=>(n91 h' h).symm) el241
   have i240:=i226.upS u239 (fun h=>(f230.own h))
   have f242:=u239.get b2 (fun h=>(n88 h)) f227
   have f243:=f228.upS u239 (fun h h'=>((fun h h'=>(n91 h' h).symm) h' h).symm)
   have f244:=u239.get b25 (fun h=>(n89 h)) f229
   have f245:=u239.get b44 (fun h=>(n90 h)) f231
   have f246:=u239.get b207 (fun h=>((f83.h.ne q211) h)) f224
   simp only [C.f68r10,R,Nat.reduceEqDiff,a232,h76,o_makeFunc,mf_ok,h75,c_fn F103,a237]
   refine hJ _ ?_
   refine tk_seq_k fun K n247 x248=>?_
   refine tk_os okM hok fun J hJ=>?_
   have a249:=ld_one (M:=Mt) (t:=100) f245 T.ag100 Seg.refl
   simp only [C.f68r11,R,Nat.reduceEqDiff,a249,h76,ln100]
   refine hJ _ ?_
   refine tk_block_k fun K n250 e251 x252=>?_
   refine tk_loop_k (n:=n) (fun k3 ⟨σ,H,_⟩=>∃ l253 x38_255 x39_256 b254,b_bn c_w c_j c_m n x0 k3 l253 x38_255 x39_256 = some r ∧ Lk σ 1 (.pointer (some ⟨b2,0,none⟩)) ∧ Lk σ 5 (.pointer (some ⟨b44,0,none⟩)) ∧ Lk σ 37 (slV l253 b254) ∧ Lk σ 38 (.int .i64 x38_255) ∧ Lk σ 39 (.int .i64 x39_256) ∧ H[b2]? = some (.cells [(slV x0 b0)] 37) ∧ SlO c.nb H (cInt .i64) 3 l253 b254 ∧ H[b44]? = some (.cells [(slV l253 b254)] 100) ∧ (l253 ≠ none → b254 ≠ b2) ∧ (l253 ≠ none → b254 ≠ b44) ∧ Iv c.nb [] H0 H) ?_ ?_ ?_
   ·exact ⟨l241,Sl.len l65,0,b66,hm,h74,h76,(lk_eq (by simp only [slV_put,slV_copy,sv233]) rfl),rfl,rfl,f242,f238,(by simp only [slV_put,slV_copy,sv233]; exact f245),(fun h=>n88 (by simpa only [Sl.put_none,Sl.copy_none,sn234] using h)),(fun h=>n90 (by simpa only [Sl.put_none,Sl.copy_none,sn234] using h)),i240⟩
   ·rintro ⟨σ,H,d⟩ ⟨_,_,_,_,hm,_⟩
    cases hm
   ·intro k3 K n257 x258
    rintro ⟨σ272,H259,d273⟩ ⟨l253,x38_255,x39_256,b254,hm,h261,h262,h263,h264,h265,f266,f267,f268,n269,n270,i271⟩
    rw [b_bn.eq_2] at hm
    refine tk_os okM hok fun J hJ=>?_
    simp only [C.f68r12,R,Nat.reduceEqDiff,h265,h264]
    refine hJ _ ?_
    refine tk_seq_k fun K n274 x275=>?_
    refine tk_cond (t:=decide (x39_256 < x38_255)) rfl (fun g276=>?_) (fun g276=>?_)
    ·replace hm:=cond_t hm g276
     refine tk_skip okM ?_
     refine n274 _ ?_
     refine tk_seq_k fun K n277 x278=>?_
     refine tk_block_k fun K n279 e280 x281=>?_
     refine tk_os okM hok fun J hJ=>?_
     obtain ⟨j282,ej282,hm⟩:=bind_s hm
     obtain ⟨mm283,k284⟩:=f267.h.blk (ck_lt ej282).1
     have a285:=lds_one (M:=Mt) (t:=3) k284 T.ag3 (seg_sl enc_int.len mm283 (ck_lt ej282).1)
     simp only [C.f68r13,R,Nat.reduceEqDiff,h265,ia100,ej282,h263,a285]
     refine hJ _ ?_
     refine tk_os okM hok fun J hJ=>?_
     have a286:=ld_one (M:=Mt) (t:=35) (off:=0 + 0) f266 T.ag35 Seg.refl
     obtain ⟨j287,ej287,hm⟩:=bind_s hm
     obtain ⟨mm288,k289⟩:=(h0.iv l0 (fun _=>by simp) i271).blk (ck_lt ej287).1
     have a290:=lds_one (M:=Mt) (t:=3) k289 T.ag3 ((seg_sl S_a.enc.len mm288 (ck_lt ej287).1).sub (S_a.seg7 (Sl.nth x0 j287)))
     simp only [C.f68r14,R,Nat.reduceEqDiff,fa37_0,h261,a286,ia35,ej287,fa72_7,a290]
     refine hJ _ ?_
     refine tk_cond (t:=!decide (((Sl.nth x0 j287).f_N) = (IntKind.i64.wrap (x39_256 + 1)))) rfl (fun g291=>?_) (fun g291=>?_)
     ·replace hm:=cond_t hm g291
      refine tk_os okM hok fun J hJ=>?_
      simp only [C.f68r15,R,Nat.reduceEqDiff]
      refine hJ _ ?_
      refine tk_ret okM ?_
      refine x281 _ _ (by simp) (by simp) ?_
      refine x278 _ _ (by simp) ?_
      refine x258 _ _ (by simp) ?_
      refine x252 _ _ (by simp) (by simp) ?_
      refine x248 _ _ (by simp) ?_
      obtain rfl:=Option.some.inj hm
      exact end_flat (.inl rfl) (vs:=[(.bool (false))]) (resT' (v:=(.bool (false))) rfl resN) (fm_cons rfl fm_nil)
     ·replace hm:=cond_f hm g291
      refine tk_skip okM ?_
      refine n279 _ ?_
      refine n277 _ ?_
      refine tk_oe okM hok fun J hJ=>?_
      simp only [C.f68r16,R,Nat.reduceEqDiff,h265]
      refine hJ _ ?_
      refine n257 _ ?_
      exact ⟨l253,x38_255,IntKind.i64.wrap (x39_256 + 1),b254,hm,h261,h262,h263,h264,rfl,f266,f267,f268,n269,n270,i271⟩
    ·replace hm:=cond_f hm g276
     refine tk_exit okM ?_
     refine x275 _ _ (by simp) ?_
     refine x258 _ _ (by simp) ?_
     refine e251 _ ?_
     refine n247 _ ?_
     refine tk_os okM hok fun J hJ=>?_
     simp only [C.f68r17,R,Nat.reduceEqDiff,o_makeFunc,mf_ok,h262]
     refine hJ _ ?_
     refine tk_os okM hok fun J hJ=>?_
     rw [C.f68r18]
     have a292:=ld_one (M:=Mt) (t:=100) f268 T.ag100 Seg.refl
     obtain ⟨y296,ey296,hm⟩:=bind_s hm
     refine rn_app_k (fun ⟨σ,H,_⟩=>Lk σ 64 (.bool (y296)) ∧ Iv c.nb [] H0 H) (fun J hJ=>?_) ?_
     ·skip
      cases g300:decide ((Sl.len l253) ≤ 9)
      ·skip
       have ey296:=cond_f ey296 g300
       obtain rfl:=Option.some.inj ey296
       simp only [C.f68r18p0,R,Nat.reduceEqDiff,a292,h262,ln100,g300]
       refine hJ _ ?_
       exact ⟨(by first | rfl | (simp only [g300]; rfl) | simp only [g300,Lk,RB,Nat.reduceEqDiff,not_false_eq_true]),i271⟩
      ·skip
       have ey296:=cond_t ey296 g300
       have a301:=ld_one (M:=Mt) (t:=35) (off:=0 + 0) f266 T.ag35 Seg.refl
       obtain ⟨v303,ev303,ey296⟩:=bind_s ey296
       have a302:=z_em c.ro H259 x0 b0 l253 b44 b254 v303 (h0.iv l0 (fun _=>by simp) i271) f268 f267.h ev303
       obtain rfl:=Option.some.inj ey296
       simp only [C.f68r18p0,R,Nat.reduceEqDiff,a292,h262,ln100,g300,fa37_0,h261,a301,c_fn F106,a302]
       refine hJ _ ?_
       exact ⟨(by first | rfl | (simp only [g300]; rfl) | simp only [g300,Lk,RB,Nat.reduceEqDiff,not_false_eq_true]),i271⟩
     rintro ⟨σ304,H297,d305⟩ ⟨h298,i299⟩
     simp only [C.f68r18p1,R,Nat.reduceEqDiff,h298]
     refine hJ _ ?_
     refine tk_ret okM ?_
     obtain rfl:=Option.some.inj hm
     exact end_flat (.inl rfl) (vs:=[(.bool (y296))]) (resT' (v:=(.bool (y296))) rfl resN) (fm_cons rfl fm_nil)
def b_cb (n:Nat) (x5_12:Int):Option (Int):=some (IntKind.i64.wrap (x5_12 + 1))
def b_dd (n:Nat) (x0:S_a) (x1:Int):Option (Int):=bif !decide (x0.f_Max = ((-1))) then (b_cb n (min (IntKind.i64.wrap (x0.f_Min + x1)) x0.f_Max)) else (b_cb n (IntKind.i64.wrap (x0.f_Min + x1)))
theorem w_ho {call:CallF} (hok:CallOk Mt call) {n:Nat} {H0:Hp} {x0:S_a} {x1:Int} {r:Int} {ro:Nat} (hro:ro ≤ H0.length) (hm:b_dd n x0 x1 = some r) :
  Pt Mt ro 79 [(vAgg (S_a.c x0)),(.int .i64 x1)] H0 (.int .i64 (r)) H0 []:=by
 refine pt_new0 okM F79d (by exact Nat.le_of_ble_eq_true rfl) ?_ hro
 intro c hnt hnb hcr
 have hcn:c.ro ≤ c.nb:=by omega
 have iv:Iv c.nb [] H0 H0:=by rw [hnb]; exact iv_refl
 rw [show args0 [(vAgg (S_a.c x0)),(.int .i64 x1)] = [(0,(vAgg (S_a.c x0))),(1,(.int .i64 x1))] from rfl]
 rw [b_dd] at hm
 simp only [C.f79]
 refine tk_os okM hok fun J hJ=>?_
 obtain ⟨b1,H2,a3,f4,q5,r6,x7,i8⟩:=bx_ok (M:=Mt) (t:=72) (u:=(vAgg (S_a.c (x0)))) (cs:=S_a.c x0) H0 iv.le (by rw [S_a.enc.len]; exact T.sz72) vAgg_cells (S_a.enc.one _)
 have i9:=i8 _ _ iv
 simp only [C.f79r0,R,Nat.reduceEqDiff,a3]
 refine hJ _ ?_
 refine tk_os okM hok fun J hJ=>?_
 have a11:=ld_one (M:=Mt) (t:=3) f4 T.ag3 (Seg.refl.sub (S_a.seg4 x0))
 simp only [C.f79r1,R,Nat.reduceEqDiff,fa72_4,a11]
 refine hJ _ ?_
 refine tk_seq_j (fun ⟨σ,H,_⟩=>∃ x5_12,b_cb n x5_12 = some r ∧ Lk σ 5 (.int .i64 x5_12) ∧ Iv c.nb [] H0 H) ?_ ?_
 ·skip
  rintro ⟨σ16,H13,d17⟩ ⟨x5_12,hm,h14,i15⟩
  rw [b_cb] at hm
  refine tk_os okM hok fun J hJ=>?_
  simp only [C.f79r4,R,Nat.reduceEqDiff,h14]
  refine hJ _ ?_
  refine tk_ret okM ?_
  obtain rfl:=Option.some.inj hm
  exact end_flat (.inl rfl) (vs:=[(.int .i64 (IntKind.i64.wrap (x5_12 + 1)))]) (resT' (v:=(.int .i64 (IntKind.i64.wrap (x5_12 + 1)))) rfl resN) (fm_cons rfl fm_nil)
 ·refine fun K n18 x19=>?_
  refine tk_os okM hok fun J hJ=>?_
  have a20:=ld_one (M:=Mt) (t:=3) f4 T.ag3 (Seg.refl.sub (S_a.seg5 x0))
  simp only [C.f79r2,R,Nat.reduceEqDiff,fa72_5,a20]
  refine hJ _ ?_
  refine tk_cond (t:=!decide (x0.f_Max = ((-1)))) rfl (fun g21=>?_) (fun g21=>?_)
  ·replace hm:=cond_t hm g21
   refine tk_oe okM hok fun J hJ=>?_
   have a22:=ld_one (M:=Mt) (t:=3) f4 T.ag3 (Seg.refl.sub (S_a.seg5 x0))
   simp only [C.f79r3,R,Nat.reduceEqDiff,fa72_5,a22]
   refine hJ _ ?_
   refine n18 _ ?_
   exact ⟨min (IntKind.i64.wrap (x0.f_Min + x1)) x0.f_Max,hm,rfl,i9⟩
  ·replace hm:=cond_f hm g21
   refine tk_skip okM ?_
   refine n18 _ ?_
   exact ⟨IntKind.i64.wrap (x0.f_Min + x1),hm,rfl,i9⟩
def b_c4 (c_dy:T_eG) (n:Nat) (x0:(Sl S_b)):Option (Int):=bif decide (500 < (Sl.len x0)) then (some 4) else ((c_dy x0).bind fun v8=>bif decide (v8 = 0) then (some 3) else (bif decide (40 < v8) then (some 4) else (some 0)))
theorem w_hd {call:CallF} (hok:CallOk Mt call) {n:Nat} {c_dy:T_eG} (z_fx:A_fO call c_dy) {H0:Hp} {x0:(Sl S_b)} {b0:Nat} {r:Int} {ro:Nat} (hro:ro ≤ H0.length) (h0:SlH H0 S_b.c 97 x0 b0) (hm:b_c4 c_dy n x0 = some r) :
  Pt Mt ro 80 [(slV x0 b0)] H0 (.int .i64 (r)) H0 []:=by
 refine pt_new0 okM F80d (by exact Nat.le_of_ble_eq_true rfl) ?_ hro
 intro c hnt hnb hcr
 have hcn:c.ro ≤ c.nb:=by omega
 have l0:x0 ≠ none → b0 < c.nb:=fun h=>by rw [hnb]; exact h0.lt h
 have iv:Iv c.nb [] H0 H0:=by rw [hnb]; exact iv_refl
 rw [show args0 [(slV x0 b0)] = [(0,(slV x0 b0))] from rfl]
 rw [b_c4] at hm
 simp only [C.f80]
 refine tk_os okM hok fun J hJ=>?_
 simp only [C.f80r0,R,Nat.reduceEqDiff]
 refine hJ _ ?_
 refine tk_seq_k fun K n2 x3=>?_
 refine tk_os okM hok fun J hJ=>?_
 simp only [C.f80r1,R,Nat.reduceEqDiff,ln39]
 refine hJ _ ?_
 refine tk_cond (t:=decide (500 < (Sl.len x0))) rfl (fun g4=>?_) (fun g4=>?_)
 ·replace hm:=cond_t hm g4
  refine tk_os okM hok fun J hJ=>?_
  simp only [C.f80r2,R,Nat.reduceEqDiff]
  refine hJ _ ?_
  refine tk_ret okM ?_
  refine x3 _ _ (by simp) ?_
  obtain rfl:=Option.some.inj hm
  exact end_flat (.inl rfl) (vs:=[(.int .i64 (4))]) (resT' (v:=(.int .i64 (4))) rfl resN) (fm_cons rfl fm_nil)
 ·replace hm:=cond_f hm g4
  refine tk_skip okM ?_
  refine n2 _ ?_
  refine tk_seq_k fun K n5 x6=>?_
  refine tk_os okM hok fun J hJ=>?_
  obtain ⟨v8,ev8,hm⟩:=bind_s hm
  have a7:=z_fx c.ro H0 x0 b0 v8 (h0.iv l0 (fun _=>by simp) iv) ev8
  simp only [C.f80r3,R,Nat.reduceEqDiff,c_fn F116,a7]
  refine hJ _ ?_
  refine tk_cond (t:=decide (v8 = 0)) rfl (fun g9=>?_) (fun g9=>?_)
  ·replace hm:=cond_t hm g9
   refine tk_os okM hok fun J hJ=>?_
   simp only [C.f80r4,R,Nat.reduceEqDiff]
   refine hJ _ ?_
   refine tk_ret okM ?_
   refine x6 _ _ (by simp) ?_
   obtain rfl:=Option.some.inj hm
   exact end_flat (.inl rfl) (vs:=[(.int .i64 (3))]) (resT' (v:=(.int .i64 (3))) rfl resN) (fm_cons rfl fm_nil)
  ·replace hm:=cond_f hm g9
   refine tk_skip okM ?_
   refine n5 _ ?_
   refine tk_seq_k fun K n10 x11=>?_
   refine tk_os okM hok fun J hJ=>?_
   have a12:=z_fx c.ro H0 x0 b0 v8 (h0.iv l0 (fun _=>by simp) iv) ev8
   simp only [C.f80r5,R,Nat.reduceEqDiff,c_fn F116,a12]
   refine hJ _ ?_
   refine tk_cond (t:=decide (40 < v8)) rfl (fun g13=>?_) (fun g13=>?_)
   ·replace hm:=cond_t hm g13
    refine tk_os okM hok fun J hJ=>?_
    simp only [C.f80r6,R,Nat.reduceEqDiff]
    refine hJ _ ?_
    refine tk_ret okM ?_
    refine x11 _ _ (by simp) ?_
    obtain rfl:=Option.some.inj hm
    exact end_flat (.inl rfl) (vs:=[(.int .i64 (4))]) (resT' (v:=(.int .i64 (4))) rfl resN) (fm_cons rfl fm_nil)
   ·replace hm:=cond_f hm g13
    refine tk_skip okM ?_
    refine n10 _ ?_
    refine tk_os okM hok fun J hJ=>?_
    simp only [C.f80r7,R,Nat.reduceEqDiff]
    refine hJ _ ?_
    refine tk_ret okM ?_
    obtain rfl:=Option.some.inj hm
    exact end_flat (.inl rfl) (vs:=[(.int .i64 (0))]) (resT' (v:=(.int .i64 (0))) rfl resN) (fm_cons rfl fm_nil)
def b_7 (c_h:T_D) (c_n:T_Q) (n:Nat) (x0:(Sl S_b)) (l44:Sl Int):Option ((Sl Int)):=some l44
def b_8 (c_h:T_D) (c_n:T_Q) (n:Nat) (x0:(Sl S_b)) (x1_30:Int) (l31:Sl Int) (x6_33:Int):Option ((Sl Int)):=bif decide (x6_33 = 2) then ((ck (Sl.l x0).length x1_30).bind fun j56=>(c_h x0 ((Sl.nth x0 j56).f_B)).bind fun v61=>(Sl.app 8 l31 v61).bind fun v72=>b_7 c_h c_n n x0 v72) else (b_7 c_h c_n n x0 l31)
def b_0 (c_h:T_D) (c_n:T_Q) (n:Nat) (x0:(Sl S_b)) (x1_12:Int) (l13:Sl Int):Option ((Sl Int)):=(ck (Sl.l x0).length x1_12).bind fun j24=>(c_n ((Sl.nth x0 j24).f_Kind)).bind fun v29=>bif decide (1 ≤ v29) then ((c_h x0 ((Sl.nth x0 j24).f_A)).bind fun v89=>(Sl.app 8 l13 v89).bind fun v100=>b_8 c_h c_n n x0 x1_12 v100 v29) else (b_8 c_h c_n n x0 x1_12 l13 v29)
def b_bF (c_h:T_D) (c_n:T_Q) (n:Nat) (x0:(Sl S_b)) (x1:Int):Option ((Sl Int)):=(ck (Sl.l x0).length x1).bind fun j112=>bif decide (((Sl.nth x0 j112).f_Kind) = 11) then ((Sl.app 8 (some ([]:List Int)) (some ([(Sl.nth x0 j112).f_N]:List Int))).bind fun v131=>b_0 c_h c_n n x0 x1 v131) else (b_0 c_h c_n n x0 x1 (some ([]:List Int)))
theorem w_gS {call:CallF} (hok:CallOk Mt call) {n:Nat} {c_h:T_D} (z_cv:A_dC call c_h) {c_n:T_Q} (z_bH:A_cX call c_n) {H0:Hp} {x0:(Sl S_b)} {b0:Nat} {x1:Int} {r:(Sl Int)} {ro:Nat} (hro:ro ≤ H0.length) (h0:SlH H0 S_b.c 97 x0 b0) (hm:b_bF c_h c_n n x0 x1 = some r) :
  Pt Mt ro 81 [(slV x0 b0),(.int .i64 x1)] H0 (slV r H0.length) (H0 ++ slB (cInt .i64) 3 r) []:=by
 refine pt_new okM F81d (by exact Nat.le_of_ble_eq_true rfl) ?_ hro
 intro c hnt hnb hcr
 have hcn:c.ro ≤ c.nb:=by omega
 have l0:x0 ≠ none → b0 < c.nb:=fun h=>by rw [hnb]; exact h0.lt h
 have iv:Iv c.nb [] H0 H0:=by rw [hnb]; exact iv_refl
 rw [show args0 [(slV x0 b0),(.int .i64 x1)] = [(0,(slV x0 b0)),(1,(.int .i64 x1))] from rfl]
 rw [b_bF] at hm
 simp only [C.f81]
 refine tk_os okM hok fun J hJ=>?_
 simp only [C.f81r0,R,Nat.reduceEqDiff]
 refine hJ _ ?_
 refine tk_os okM hok fun J hJ=>?_
 obtain ⟨b2,H3,a4,f5,q6,r7,x8,i9⟩:=bs_ok (M:=Mt) (t:=100) (e:=3) (c:=(cInt .i64)) (l:=([]:List Int)) (ps:=[]) (n:=0) H0 iv.le Tryz.underlying100 (zs3) rfl (by simp only [List.length_cons,List.length_nil]; decide) (fun _=>rfl) enc_int.one rfl rfl
 have i10:=i9 _ _ iv
 simp only [C.f81r1,R,Nat.reduceEqDiff,a4]
 refine hJ _ ?_
 refine tk_seq_j (fun ⟨σ,H,_⟩=>∃ x1_12 l13 b14,b_0 c_h c_n n x0 x1_12 l13 = some r ∧ Lk σ 0 (slV x0 b0) ∧ Lk σ 1 (.int .i64 x1_12) ∧ Lk σ 5 (slV l13 b14) ∧ SlO c.nb H (cInt .i64) 3 l13 b14 ∧ Iv c.nb [] H0 H) ?_ ?_
 ·skip
  rintro ⟨σ22,H15,d23⟩ ⟨x1_12,l13,b14,hm,h17,h18,h19,f20,i21⟩
  rw [b_0] at hm
  refine tk_os okM hok fun J hJ=>?_
  obtain ⟨j24,ej24,hm⟩:=bind_s hm
  obtain ⟨mm25,k26⟩:=(h0.iv l0 (fun _=>by simp) i21).blk (ck_lt ej24).1
  have a27:=lds_one (M:=Mt) (t:=3) k26 T.ag3 ((seg_sl S_b.enc.len mm25 (ck_lt ej24).1).sub (S_b.seg0 (Sl.nth x0 j24)))
  obtain ⟨v29,ev29,hm⟩:=bind_s hm
  have a28:=z_bH c.ro H15 ((Sl.nth x0 j24).f_Kind) v29 ev29
  simp only [C.f81r4,R,Nat.reduceEqDiff,h17,h18,ia39,ej24,fa97_0,a27,c_fn F83,a28]
  refine hJ _ ?_
  refine tk_seq_j (fun ⟨σ,H,_⟩=>∃ x1_30 l31 x6_33 b32,b_8 c_h c_n n x0 x1_30 l31 x6_33 = some r ∧ Lk σ 0 (slV x0 b0) ∧ Lk σ 1 (.int .i64 x1_30) ∧ Lk σ 5 (slV l31 b32) ∧ Lk σ 6 (.int .i64 x6_33) ∧ SlO c.nb H (cInt .i64) 3 l31 b32 ∧ Iv c.nb [] H0 H) ?_ ?_
  ·skip
   rintro ⟨σ42,H34,d43⟩ ⟨x1_30,l31,x6_33,b32,hm,h36,h37,h38,h39,f40,i41⟩
   rw [b_8] at hm
   refine tk_seq_j (fun ⟨σ,H,_⟩=>∃ l44 b45,b_7 c_h c_n n x0 l44 = some r ∧ Lk σ 5 (slV l44 b45) ∧ SlO c.nb H (cInt .i64) 3 l44 b45 ∧ Iv c.nb [] H0 H) ?_ ?_
   ·skip
    rintro ⟨σ51,H46,d52⟩ ⟨l44,b45,hm,h48,f49,i50⟩
    rw [b_7] at hm
    refine tk_os okM hok fun J hJ=>?_
    simp only [C.f81r9,R,Nat.reduceEqDiff,h48]
    refine hJ _ ?_
    refine tk_ret okM ?_
    obtain rfl:=Option.some.inj hm
    exact end_sl1 (P:=Mt.P) (rs:=[(.tmp 4)]) (pre:=[]) (post:=[]) (x:=l44) (b:=b45) (nb:=H0.length) (.inl rfl) (by rw [← hnb]; exact f49) enc_int fm_nil fm_nil (resT' (v:=(slV l44 b45)) rfl resN)
   ·refine fun K n53 x54=>?_
    refine tk_os okM hok fun J hJ=>?_
    simp only [C.f81r7,R,Nat.reduceEqDiff,h39]
    refine hJ _ ?_
    refine tk_cond (t:=decide (x6_33 = 2)) rfl (fun g55=>?_) (fun g55=>?_)
    ·replace hm:=cond_t hm g55
     refine tk_oe okM hok fun J hJ=>?_
     obtain ⟨j56,ej56,hm⟩:=bind_s hm
     obtain ⟨mm57,k58⟩:=(h0.iv l0 (fun _=>by simp) i41).blk (ck_lt ej56).1
     have a59:=lds_one (M:=Mt) (t:=3) k58 T.ag3 ((seg_sl S_b.enc.len mm57 (ck_lt ej56).1).sub (S_b.seg2 (Sl.nth x0 j56)))
     obtain ⟨v61,ev61,hm⟩:=bind_s hm
     have a60:=z_cv c.ro H34 x0 b0 ((Sl.nth x0 j56).f_B) v61 (h0.iv l0 (fun _=>by simp) i41) ev61
     obtain ⟨H62,q63⟩:∃ x,x = H34 ++ slB (cInt .i64) 3 v61:=⟨_,rfl⟩
     obtain ⟨b64,q65⟩:∃ b,b = H34.length:=⟨_,rfl⟩
     rw [← q63,← q65] at a60
     have x69:Ex H34 H62:=by rw [q63]; exact ex_app
     have i67:Iv c.nb [] H0 H62:=by rw [q63]; exact i41.app
     have f66:SlO c.nb H62 (cInt .i64) 3 v61 b64:=by rw [q63,q65]; exact slB_own i41.le
     have r68:c.nb ≤ b64:=by rw [q65]; exact i41.le
     have f70:=f40.ex x69
     obtain ⟨v72,ev72,hm⟩:=bind_s hm
     obtain ⟨b73,H74,a75,f76,mv77,i78,nw79⟩:=app_ok (M:=Mt) (t:=100) (u:=100) (nb:=c.nb) (x:=l31) (y:=v61) (b:=b32) (b2:=b64) Tryz.underlying100 Tryz.underlying100 T.sz3 T.by3 zs3 (by decide) (by decide) enc_int.len enc_int.one i67.le hcn f70 f66.h ev72
     have i80:=i78 _ _ i67
     simp only [C.f81r8,R,Nat.reduceEqDiff,h38,h36,h37,ia39,ej56,fa97_2,a59,c_fn F81,a60,a75]
     refine hJ _ ?_
     refine n53 _ ?_
     exact ⟨v72,b73,hm,rfl,f76,i80⟩
    ·replace hm:=cond_f hm g55
     refine tk_skip okM ?_
     refine n53 _ ?_
     exact ⟨l31,b32,hm,h38,f40,i41⟩
  ·refine fun K n82 x83=>?_
   refine tk_os okM hok fun J hJ=>?_
   simp only [C.f81r5,R,Nat.reduceEqDiff]
   refine hJ _ ?_
   refine tk_cond (t:=decide (1 ≤ v29)) rfl (fun g84=>?_) (fun g84=>?_)
   ·replace hm:=cond_t hm g84
    refine tk_oe okM hok fun J hJ=>?_
    obtain ⟨mm85,k86⟩:=(h0.iv l0 (fun _=>by simp) i21).blk (ck_lt ej24).1
    have a87:=lds_one (M:=Mt) (t:=3) k86 T.ag3 ((seg_sl S_b.enc.len mm85 (ck_lt ej24).1).sub (S_b.seg1 (Sl.nth x0 j24)))
    obtain ⟨v89,ev89,hm⟩:=bind_s hm
    have a88:=z_cv c.ro H15 x0 b0 ((Sl.nth x0 j24).f_A) v89 (h0.iv l0 (fun _=>by simp) i21) ev89
    obtain ⟨H90,q91⟩:∃ x,x = H15 ++ slB (cInt .i64) 3 v89:=⟨_,rfl⟩
    obtain ⟨b92,q93⟩:∃ b,b = H15.length:=⟨_,rfl⟩
    rw [← q91,← q93] at a88
    have x97:Ex H15 H90:=by rw [q91]; exact ex_app
    have i95:Iv c.nb [] H0 H90:=by rw [q91]; exact i21.app
    have f94:SlO c.nb H90 (cInt .i64) 3 v89 b92:=by rw [q91,q93]; exact slB_own i21.le
    have r96:c.nb ≤ b92:=by rw [q93]; exact i21.le
    have f98:=f20.ex x97
    obtain ⟨v100,ev100,hm⟩:=bind_s hm
    obtain ⟨b101,H102,a103,f104,mv105,i106,nw107⟩:=app_ok (M:=Mt) (t:=100) (u:=100) (nb:=c.nb) (x:=l13) (y:=v89) (b:=b14) (b2:=b92) Tryz.underlying100 Tryz.underlying100 T.sz3 T.by3 zs3 (by decide) (by decide) enc_int.len enc_int.one i95.le hcn f98 f94.h ev100
    have i108:=i106 _ _ i95
    simp only [C.f81r6,R,Nat.reduceEqDiff,h19,h17,h18,ia39,ej24,fa97_1,a87,c_fn F81,a88,a103]
    refine hJ _ ?_
    refine n82 _ ?_
    exact ⟨x1_12,v100,v29,b101,hm,h17,h18,rfl,rfl,f104,i108⟩
   ·replace hm:=cond_f hm g84
    refine tk_skip okM ?_
    refine n82 _ ?_
    exact ⟨x1_12,l13,v29,b14,hm,h17,h18,h19,rfl,f20,i21⟩
 ·refine fun K n110 x111=>?_
  refine tk_os okM hok fun J hJ=>?_
  obtain ⟨j112,ej112,hm⟩:=bind_s hm
  obtain ⟨mm113,k114⟩:=(h0.iv l0 (fun _=>by simp) i10).blk (ck_lt ej112).1
  have a115:=lds_one (M:=Mt) (t:=3) k114 T.ag3 ((seg_sl S_b.enc.len mm113 (ck_lt ej112).1).sub (S_b.seg0 (Sl.nth x0 j112)))
  simp only [C.f81r2,R,Nat.reduceEqDiff,ia39,ej112,fa97_0,a115]
  refine hJ _ ?_
  refine tk_cond (t:=decide (((Sl.nth x0 j112).f_Kind) = 11)) rfl (fun g116=>?_) (fun g116=>?_)
  ·replace hm:=cond_t hm g116
   refine tk_oe okM hok fun J hJ=>?_
   obtain ⟨mm117,k118⟩:=(h0.iv l0 (fun _=>by simp) i10).blk (ck_lt ej112).1
   have a119:=lds_one (M:=Mt) (t:=3) k118 T.ag3 ((seg_sl S_b.enc.len mm117 (ck_lt ej112).1).sub (S_b.seg7 (Sl.nth x0 j112)))
   obtain ⟨b120,H121,a122,f123,q124,r125,x126,i127⟩:=bs_ok (M:=Mt) (t:=100) (e:=3) (c:=(cInt .i64)) (l:=([(Sl.nth x0 j112).f_N]:List Int)) (ps:=[(0,(.int .i64 ((Sl.nth x0 j112).f_N)))]) (n:=1) H3 i10.le Tryz.underlying100 (zs3) rfl (by simp only [List.length_cons,List.length_nil]; decide) (fun _=>rfl) enc_int.one rfl rfl
   have i128:=i127 _ _ i10
   have f129:=f5.ex x126
   obtain ⟨v131,ev131,hm⟩:=bind_s hm
   obtain ⟨b132,H133,a134,f135,mv136,i137,nw138⟩:=app_ok (M:=Mt) (t:=100) (u:=100) (nb:=c.nb) (x:=some ([]:List Int)) (y:=some ([(Sl.nth x0 j112).f_N]:List Int)) (b:=b2) (b2:=b120) Tryz.underlying100 Tryz.underlying100 T.sz3 T.by3 zs3 (by decide) (by decide) enc_int.len enc_int.one i128.le hcn f129 f123.h ev131
   have i139:=i137 _ _ i128
   simp only [C.f81r3,R,Nat.reduceEqDiff,ia39,ej112,fa97_7,a119,a122,a134]
   refine hJ _ ?_
   refine n110 _ ?_
   exact ⟨x1,v131,b132,hm,rfl,rfl,rfl,f135,i139⟩
  ·replace hm:=cond_f hm g116
   refine tk_skip okM ?_
   refine n110 _ ?_
   exact ⟨x1,some ([]:List Int),b2,hm,rfl,rfl,rfl,f5,i10⟩
def b_bg (c_k:T_W) (c_T:T_cW) (c_L:T_cF) (n:Nat) (x0:(Sl S_b)) (x79:S_b) (x81_80:Bool):Option (Int × Int):=bif x81_80 then ((c_k x0 x79.f_A).bind fun v92=>some (v92.1,v92.2)) else (some (0,0))
def b_bf (c_k:T_W) (c_T:T_cW) (c_L:T_cF) (n:Nat) (x0:(Sl S_b)) (x29:S_b) (x18_30:Int) (x23_31:Bool):Option (Int × Int):=bif x23_31 then ((c_k x0 x29.f_A).bind fun v44=>(c_k x0 x29.f_B).bind fun v47=>bif decide (x29.f_Kind = 8) then ((c_T v44.1 v47.1).bind fun v53=>(c_T v44.2 v47.2).bind fun v55=>some (v53,v55)) else (bif (decide (v44.2 < 0)) || (decide (v47.2 < 0)) then (some (min v44.1 v47.1,(-1))) else (some (min v44.1 v47.1,max v44.2 v47.2)))) else (bif decide (x18_30 = 10) then ((c_k x0 x29.f_A).bind fun v72=>(c_L v72.1 x29.f_Min).bind fun v75=>(c_L v72.2 x29.f_Max).bind fun v78=>some (v75,v78)) else (bif decide (x18_30 = 11) then (b_bg c_k c_T c_L n x0 x29 (decide (x18_30 = 11))) else (b_bg c_k c_T c_L n x0 x29 (decide (x18_30 = 17)))))
def b_cp (c_k:T_W) (c_T:T_cW) (c_L:T_cF) (n:Nat) (x0:(Sl S_b)) (x1:Int):Option (Int × Int):=(ck (Sl.l x0).length x1).bind fun j2=>bif decide (((Sl.nth x0 j2).f_Kind) = 1) then (some (1,1)) else (bif decide (((Sl.nth x0 j2).f_Kind) = 12) then (some (0,(-1))) else (bif decide (((Sl.nth x0 j2).f_Kind) = 8) then (b_bf c_k c_T c_L n x0 (Sl.nth x0 j2) ((Sl.nth x0 j2).f_Kind) (decide (((Sl.nth x0 j2).f_Kind) = 8))) else (b_bf c_k c_T c_L n x0 (Sl.nth x0 j2) ((Sl.nth x0 j2).f_Kind) (decide (((Sl.nth x0 j2).f_Kind) = 9)))))
theorem w_hR {call:CallF} (hok:CallOk Mt call) {n:Nat} {c_k:T_W} (z_b6:A_ey call c_k) {c_T:T_cW} (z_fH:A_fY call c_T) {c_L:T_cF} (z_fl:A_fD call c_L) {H0:Hp} {x0:(Sl S_b)} {b0:Nat} {x1:Int} {r:Int × Int} {ro:Nat} (hro:ro ≤ H0.length) (h0:SlH H0 S_b.c 97 x0 b0) (hm:b_cp c_k c_T c_L n x0 x1 = some r) :
  Pt Mt ro 82 [(slV x0 b0),(.int .i64 x1)] H0 (.tuple [(.int .i64 (r.1)),(.int .i64 (r.2))].toArray) H0 []:=by
 refine pt_new0 okM F82d (by exact Nat.le_of_ble_eq_true rfl) ?_ hro
 intro c hnt hnb hcr
 have hcn:c.ro ≤ c.nb:=by omega
 have l0:x0 ≠ none → b0 < c.nb:=fun h=>by rw [hnb]; exact h0.lt h
 have iv:Iv c.nb [] H0 H0:=by rw [hnb]; exact iv_refl
 rw [show args0 [(slV x0 b0),(.int .i64 x1)] = [(0,(slV x0 b0)),(1,(.int .i64 x1))] from rfl]
 rw [b_cp] at hm
 simp only [C.f82]
 refine tk_os okM hok fun J hJ=>?_
 simp only [C.f82r0,R,Nat.reduceEqDiff]
 refine hJ _ ?_
 refine tk_os okM hok fun J hJ=>?_
 obtain ⟨j2,ej2,hm⟩:=bind_s hm
 obtain ⟨mm3,k4⟩:=(h0.iv l0 (fun _=>by simp) iv).blk (ck_lt ej2).1
 have a5:=lds_agg (M:=Mt) (t:=97) k4 T.ag97 (by rw [S_b.enc.len]; exact T.sz97) (seg_sl S_b.enc.len mm3 (ck_lt ej2).1)
 obtain ⟨b6,H7,a8,f9,q10,r11,x12,i13⟩:=al_ok H0 97 (S_b.c S_b.zero) iv.le
 have i14:=i13 _ _ iv
 obtain ⟨H16,a17,f18,u19⟩:=st_ok (M:=Mt) (t:=97) (v:=(vAgg (S_b.c (Sl.nth x0 j2)))) (c:=S_b.c (Sl.nth x0 j2)) (cs':=S_b.c (Sl.nth x0 j2)) f9 (by rw [S_b.enc.len]; exact T.sz97) vAgg_cells (S_b.enc.one _) (Nat.le_trans hcn r11) (le0 S_b.enc.len) (wrs_all (eqL S_b.enc.len))
 have i20:=i14.up u19 r11
 simp only [C.f82r1,R,Nat.reduceEqDiff,ia39,ej2,a5,zs97,a8,a17]
 refine hJ _ ?_
 refine tk_seq_k fun K n21 x22=>?_
 refine tk_os okM hok fun J hJ=>?_
 have a23:=ld_one (M:=Mt) (t:=3) f18 T.ag3 (Seg.refl.sub (S_b.seg0 (Sl.nth x0 j2)))
 simp only [C.f82r2,R,Nat.reduceEqDiff,fa97_0,a23]
 refine hJ _ ?_
 refine tk_block_k fun K n24 e25 x26=>?_
 refine tk_os okM hok fun J hJ=>?_
 simp only [C.f82r3,R,Nat.reduceEqDiff]
 refine hJ _ ?_
 refine tk_cond (t:=decide (((Sl.nth x0 j2).f_Kind) = 1)) rfl (fun g27=>?_) (fun g27=>?_)
 ·replace hm:=cond_t hm g27
  refine tk_os okM hok fun J hJ=>?_
  simp only [C.f82r4,R,Nat.reduceEqDiff]
  refine hJ _ ?_
  refine tk_ret okM ?_
  refine x26 _ _ (by simp) (by simp) ?_
  refine x22 _ _ (by simp) ?_
  obtain rfl:=Option.some.inj hm
  exact end_flat (.inl rfl) (vs:=[(.int .i64 (1)),(.int .i64 (1))]) (resT' (v:=(.int .i64 (1))) rfl (resT' (v:=(.int .i64 (1))) rfl resN)) (fm_cons rfl (fm_cons rfl fm_nil))
 ·replace hm:=cond_f hm g27
  refine tk_os okM hok fun J hJ=>?_
  simp only [C.f82r5,R,Nat.reduceEqDiff]
  refine hJ _ ?_
  refine tk_cond (t:=decide (((Sl.nth x0 j2).f_Kind) = 12)) rfl (fun g28=>?_) (fun g28=>?_)
  ·replace hm:=cond_t hm g28
   refine tk_os okM hok fun J hJ=>?_
   simp only [C.f82r6,R,Nat.reduceEqDiff]
   refine hJ _ ?_
   refine tk_ret okM ?_
   refine x26 _ _ (by simp) (by simp) ?_
   refine x22 _ _ (by simp) ?_
   obtain rfl:=Option.some.inj hm
   exact end_flat (.inl rfl) (vs:=[(.int .i64 (0)),(.int .i64 ((-1)))]) (resT' (v:=(.int .i64 (0))) rfl (resT' (v:=(.int .i64 ((-1)))) rfl resN)) (fm_cons rfl (fm_cons rfl fm_nil))
  ·replace hm:=cond_f hm g28
   refine tk_seq_j (fun ⟨σ,H,_⟩=>∃ x29 x18_30 x23_31,b_bf c_k c_T c_L n x0 x29 x18_30 x23_31 = some r ∧ Lk σ 0 (slV x0 b0) ∧ Lk σ 6 (.pointer (some ⟨b6,0,none⟩)) ∧ Lk σ 18 (.int .i64 x18_30) ∧ Lk σ 23 (.bool x23_31) ∧ H[b6]? = some (.cells (S_b.c x29) 97) ∧ Iv c.nb [] H0 H) ?_ ?_
   ·skip
    rintro ⟨σ39,H32,d40⟩ ⟨x29,x18_30,x23_31,hm,h33,h34,h35,h36,f37,i38⟩
    rw [b_bf] at hm
    refine tk_cond (t:=x23_31) h36 (fun g41=>?_) (fun g41=>?_)
    ·replace hm:=cond_t hm g41
     refine tk_os okM hok fun J hJ=>?_
     have a42:=ld_one (M:=Mt) (t:=3) f37 T.ag3 (Seg.refl.sub (S_b.seg1 x29))
     obtain ⟨v44,ev44,hm⟩:=bind_s hm
     have a43:=z_b6 c.ro H32 x0 b0 x29.f_A v44 (h0.iv l0 (fun _=>by simp) i38) ev44
     simp only [C.f82r9,R,Nat.reduceEqDiff,h33,fa97_1,h34,a42,c_fn F82,a43]
     refine hJ _ ?_
     refine tk_os okM hok fun J hJ=>?_
     have a45:=ld_one (M:=Mt) (t:=3) f37 T.ag3 (Seg.refl.sub (S_b.seg2 x29))
     obtain ⟨v47,ev47,hm⟩:=bind_s hm
     have a46:=z_b6 c.ro H32 x0 b0 x29.f_B v47 (h0.iv l0 (fun _=>by simp) i38) ev47
     simp only [C.f82r10,R,Nat.reduceEqDiff,h33,fa97_2,h34,a45,c_fn F82,a46]
     refine hJ _ ?_
     refine tk_seq_k fun K n48 x49=>?_
     refine tk_os okM hok fun J hJ=>?_
     have a50:=ld_one (M:=Mt) (t:=3) f37 T.ag3 (Seg.refl.sub (S_b.seg0 x29))
     simp only [C.f82r11,R,Nat.reduceEqDiff,fa97_0,h34,a50]
     refine hJ _ ?_
     refine tk_cond (t:=decide (x29.f_Kind = 8)) rfl (fun g51=>?_) (fun g51=>?_)
     ·replace hm:=cond_t hm g51
      refine tk_os okM hok fun J hJ=>?_
      obtain ⟨v53,ev53,hm⟩:=bind_s hm
      have a52:=z_fH c.ro H32 v44.1 v47.1 v53 ev53
      obtain ⟨v55,ev55,hm⟩:=bind_s hm
      have a54:=z_fH c.ro H32 v44.2 v47.2 v55 ev55
      simp only [C.f82r12,R,Nat.reduceEqDiff,c_fn F117,a52,a54]
      refine hJ _ ?_
      refine tk_ret okM ?_
      refine x49 _ _ (by simp) ?_
      refine x26 _ _ (by simp) (by simp) ?_
      refine x22 _ _ (by simp) ?_
      obtain rfl:=Option.some.inj hm
      exact end_flat (.inl rfl) (vs:=[(.int .i64 (v53)),(.int .i64 (v55))]) (resT' (v:=(.int .i64 (v53))) rfl (resT' (v:=(.int .i64 (v55))) rfl resN)) (fm_cons rfl (fm_cons rfl fm_nil))
     ·replace hm:=cond_f hm g51
      refine tk_skip okM ?_
      refine n48 _ ?_
      refine tk_seq_k fun K n56 x57=>?_
      refine tk_os okM hok fun J hJ=>?_
      refine rn_k (fun ⟨σ,H,_⟩=>Lk σ 7 (.int .i64 (v44.1)) ∧ Lk σ 8 (.int .i64 (v44.2)) ∧ Lk σ 9 (.int .i64 (v47.1)) ∧ Lk σ 10 (.int .i64 (v47.2)) ∧ Lk σ 54 (.bool ((decide (v44.2 < 0)) || (decide (v47.2 < 0)))) ∧ Iv c.nb [] H0 H) (fun J hJ=>?_) ?_
      ·skip
       cases g65:decide (v44.2 < 0)
       ·skip
        simp only [C.f82r13,R,Nat.reduceEqDiff,g65]
        refine hJ _ ?_
        exact ⟨(by first | rfl | (simp only [g65]; rfl) | simp only [g65,Lk,RB,Nat.reduceEqDiff,not_false_eq_true]),(by first | rfl | (simp only [g65]; rfl) | simp only [g65,Lk,RB,Nat.reduceEqDiff,not_false_eq_true]),(by first | rfl | (simp only [g65]; rfl) | simp only [g65,Lk,RB,Nat.reduceEqDiff,not_false_eq_true]),(by first | rfl | (simp only [g65]; rfl) | simp only [g65,Lk,RB,Nat.reduceEqDiff,not_false_eq_true]),(by first | rfl | (simp only [g65]; rfl) | simp only [g65,Lk,RB,Nat.reduceEqDiff,not_false_eq_true]),i38⟩
       ·skip
        simp only [C.f82r13,R,Nat.reduceEqDiff,g65]
        refine hJ _ ?_
        exact ⟨(by first | rfl | (simp only [g65]; rfl) | simp only [g65,Lk,RB,Nat.reduceEqDiff,not_false_eq_true]),(by first | rfl | (simp only [g65]; rfl) | simp only [g65,Lk,RB,Nat.reduceEqDiff,not_false_eq_true]),(by first | rfl | (simp only [g65]; rfl) | simp only [g65,Lk,RB,Nat.reduceEqDiff,not_false_eq_true]),(by first | rfl | (simp only [g65]; rfl) | simp only [g65,Lk,RB,Nat.reduceEqDiff,not_false_eq_true]),(by first | rfl | (simp only [g65]; rfl) | simp only [g65,Lk,RB,Nat.reduceEqDiff,not_false_eq_true]),i38⟩
      rintro ⟨σ66,H58,d67⟩ ⟨h59,h60,h61,h62,h63,i64⟩
      refine hJ _ ?_
      refine tk_cond (t:=(decide (v44.2 < 0)) || (decide (v47.2 < 0))) h63 (fun g68=>?_) (fun g68=>?_)
      ·replace hm:=cond_t hm g68
       refine tk_os okM hok fun J hJ=>?_
       simp only [C.f82r14,R,Nat.reduceEqDiff,h59,h61]
       refine hJ _ ?_
       refine tk_ret okM ?_
       refine x57 _ _ (by simp) ?_
       refine x26 _ _ (by simp) (by simp) ?_
       refine x22 _ _ (by simp) ?_
       obtain rfl:=Option.some.inj hm
       exact end_flat (.inl rfl) (vs:=[(.int .i64 (min v44.1 v47.1)),(.int .i64 ((-1)))]) (resT' (v:=(.int .i64 (min v44.1 v47.1))) rfl (resT' (v:=(.int .i64 ((-1)))) rfl resN)) (fm_cons rfl (fm_cons rfl fm_nil))
      ·replace hm:=cond_f hm g68
       refine tk_skip okM ?_
       refine n56 _ ?_
       refine tk_os okM hok fun J hJ=>?_
       simp only [C.f82r15,R,Nat.reduceEqDiff,h59,h61,h60,h62]
       refine hJ _ ?_
       refine tk_ret okM ?_
       refine x26 _ _ (by simp) (by simp) ?_
       refine x22 _ _ (by simp) ?_
       obtain rfl:=Option.some.inj hm
       exact end_flat (.inl rfl) (vs:=[(.int .i64 (min v44.1 v47.1)),(.int .i64 (max v44.2 v47.2))]) (resT' (v:=(.int .i64 (min v44.1 v47.1))) rfl (resT' (v:=(.int .i64 (max v44.2 v47.2))) rfl resN)) (fm_cons rfl (fm_cons rfl fm_nil))
    ·replace hm:=cond_f hm g41
     refine tk_os okM hok fun J hJ=>?_
     simp only [C.f82r16,R,Nat.reduceEqDiff,h35]
     refine hJ _ ?_
     refine tk_cond (t:=decide (x18_30 = 10)) rfl (fun g69=>?_) (fun g69=>?_)
     ·replace hm:=cond_t hm g69
      refine tk_os okM hok fun J hJ=>?_
      have a70:=ld_one (M:=Mt) (t:=3) f37 T.ag3 (Seg.refl.sub (S_b.seg1 x29))
      obtain ⟨v72,ev72,hm⟩:=bind_s hm
      have a71:=z_b6 c.ro H32 x0 b0 x29.f_A v72 (h0.iv l0 (fun _=>by simp) i38) ev72
      simp only [C.f82r17,R,Nat.reduceEqDiff,h33,fa97_1,h34,a70,c_fn F82,a71]
      refine hJ _ ?_
      refine tk_os okM hok fun J hJ=>?_
      have a73:=ld_one (M:=Mt) (t:=3) f37 T.ag3 (Seg.refl.sub (S_b.seg4 x29))
      obtain ⟨v75,ev75,hm⟩:=bind_s hm
      have a74:=z_fl H32.length H32 v72.1 x29.f_Min v75 ev75
      have a76:=ld_one (M:=Mt) (t:=3) f37 T.ag3 (Seg.refl.sub (S_b.seg5 x29))
      obtain ⟨v78,ev78,hm⟩:=bind_s hm
      have a77:=z_fl H32.length H32 v72.2 x29.f_Max v78 ev78
      simp only [C.f82r18,R,Nat.reduceEqDiff,s_pt,s_gt,isW,Bool.false_eq_true,if_false,if_true,reduceIte,fa97_4,h34,a73,c_fn F118,a74,fa97_5,a76,a77]
      refine hJ _ ?_
      refine tk_ret okM ?_
      refine x26 _ _ (by simp) (by simp) ?_
      refine x22 _ _ (by simp) ?_
      obtain rfl:=Option.some.inj hm
      exact end_flat (.inl rfl) (vs:=[(.int .i64 (v75)),(.int .i64 (v78))]) (resT' (v:=(.int .i64 (v75))) rfl (resT' (v:=(.int .i64 (v78))) rfl resN)) (fm_cons rfl (fm_cons rfl fm_nil))
     ·replace hm:=cond_f hm g69
      refine tk_seq_j (fun ⟨σ,H,_⟩=>∃ x79 x81_80,b_bg c_k c_T c_L n x0 x79 x81_80 = some r ∧ Lk σ 0 (slV x0 b0) ∧ Lk σ 6 (.pointer (some ⟨b6,0,none⟩)) ∧ Lk σ 81 (.bool x81_80) ∧ H[b6]? = some (.cells (S_b.c x79) 97) ∧ Iv c.nb [] H0 H) ?_ ?_
      ·skip
       rintro ⟨σ87,H81,d88⟩ ⟨x79,x81_80,hm,h82,h83,h84,f85,i86⟩
       rw [b_bg] at hm
       refine tk_cond (t:=x81_80) h84 (fun g89=>?_) (fun g89=>?_)
       ·replace hm:=cond_t hm g89
        refine tk_os okM hok fun J hJ=>?_
        have a90:=ld_one (M:=Mt) (t:=3) f85 T.ag3 (Seg.refl.sub (S_b.seg1 x79))
        obtain ⟨v92,ev92,hm⟩:=bind_s hm
        have a91:=z_b6 c.ro H81 x0 b0 x79.f_A v92 (h0.iv l0 (fun _=>by simp) i86) ev92
        simp only [C.f82r21,R,Nat.reduceEqDiff,h82,fa97_1,h83,a90,c_fn F82,a91]
        refine hJ _ ?_
        refine tk_ret okM ?_
        refine x26 _ _ (by simp) (by simp) ?_
        refine x22 _ _ (by simp) ?_
        obtain rfl:=Option.some.inj hm
        exact end_flat (.inl rfl) (vs:=[(.int .i64 (v92.1)),(.int .i64 (v92.2))]) (resT' (v:=(.int .i64 (v92.1))) rfl (resT' (v:=(.int .i64 (v92.2))) rfl resN)) (fm_cons rfl (fm_cons rfl fm_nil))
       ·replace hm:=cond_f hm g89
        refine tk_skip okM ?_
        refine n24 _ ?_
        refine n21 _ ?_
        refine tk_os okM hok fun J hJ=>?_
        simp only [C.f82r22,R,Nat.reduceEqDiff]
        refine hJ _ ?_
        refine tk_ret okM ?_
        obtain rfl:=Option.some.inj hm
        exact end_flat (.inl rfl) (vs:=[(.int .i64 (0)),(.int .i64 (0))]) (resT' (v:=(.int .i64 (0))) rfl (resT' (v:=(.int .i64 (0))) rfl resN)) (fm_cons rfl (fm_cons rfl fm_nil))
      ·refine fun K n93 x94=>?_
       refine tk_os okM hok fun J hJ=>?_
       simp only [C.f82r19,R,Nat.reduceEqDiff,h35]
       refine hJ _ ?_
       refine tk_cond (t:=decide (x18_30 = 11)) rfl (fun g95=>?_) (fun g95=>?_)
       ·replace hm:=cond_t hm g95
        refine tk_skip okM ?_
        refine n93 _ ?_
        exact ⟨x29,decide (x18_30 = 11),hm,h33,h34,rfl,f37,i38⟩
       ·replace hm:=cond_f hm g95
        refine tk_oe okM hok fun J hJ=>?_
        simp only [C.f82r20,R,Nat.reduceEqDiff,h35]
        refine hJ _ ?_
        refine n93 _ ?_
        exact ⟨x29,decide (x18_30 = 17),hm,h33,h34,rfl,f37,i38⟩
   ·refine fun K n96 x97=>?_
    refine tk_os okM hok fun J hJ=>?_
    simp only [C.f82r7,R,Nat.reduceEqDiff]
    refine hJ _ ?_
    refine tk_cond (t:=decide (((Sl.nth x0 j2).f_Kind) = 8)) rfl (fun g98=>?_) (fun g98=>?_)
    ·replace hm:=cond_t hm g98
     refine tk_skip okM ?_
     refine n96 _ ?_
     exact ⟨Sl.nth x0 j2,(Sl.nth x0 j2).f_Kind,decide (((Sl.nth x0 j2).f_Kind) = 8),hm,rfl,rfl,rfl,rfl,f18,i20⟩
    ·replace hm:=cond_f hm g98
     refine tk_oe okM hok fun J hJ=>?_
     simp only [C.f82r8,R,Nat.reduceEqDiff]
     refine hJ _ ?_
     refine n96 _ ?_
     exact ⟨Sl.nth x0 j2,(Sl.nth x0 j2).f_Kind,decide (((Sl.nth x0 j2).f_Kind) = 9),hm,rfl,rfl,rfl,rfl,f18,i20⟩
def b_dq (n:Nat) (x0:Int):Option (Int):=bif (decide (x0 = 8)) || (decide (x0 = 9)) then (some 2) else (bif ((decide (x0 = 10)) || (decide (x0 = 11))) || ((decide (13 ≤ x0)) && (decide (x0 ≤ 17))) then (some 1) else (some 0))
theorem w_hP {call:CallF} (hok:CallOk Mt call) {n:Nat} {H0:Hp} {x0:Int} {r:Int} {ro:Nat} (hro:ro ≤ H0.length) (hm:b_dq n x0 = some r) :
  Pt Mt ro 83 [(.int .i64 x0)] H0 (.int .i64 (r)) H0 []:=by
 refine pt_new0 okM F83d (by exact Nat.le_of_ble_eq_true rfl) ?_ hro
 intro c hnt hnb hcr
 have hcn:c.ro ≤ c.nb:=by omega
 have iv:Iv c.nb [] H0 H0:=by rw [hnb]; exact iv_refl
 rw [show args0 [(.int .i64 x0)] = [(0,(.int .i64 x0))] from rfl]
 rw [b_dq] at hm
 simp only [C.f83]
 refine tk_os okM hok fun J hJ=>?_
 simp only [C.f83r0,R,Nat.reduceEqDiff]
 refine hJ _ ?_
 refine tk_seq_k fun K n1 x2=>?_
 refine tk_os okM hok fun J hJ=>?_
 refine rn_k (fun ⟨σ,H,_⟩=>Lk σ 0 (.int .i64 (x0)) ∧ Lk σ 8 (.bool ((decide (x0 = 8)) || (decide (x0 = 9)))) ∧ Iv c.nb [] H0 H) (fun J hJ=>?_) ?_
 ·skip
  cases g7:decide (x0 = 8)
  ·skip
   simp only [C.f83r1,R,Nat.reduceEqDiff,g7]
   refine hJ _ ?_
   exact ⟨(by first | rfl | (simp only [g7]; rfl) | simp only [g7,Lk,RB,Nat.reduceEqDiff,not_false_eq_true]),(by first | rfl | (simp only [g7]; rfl) | simp only [g7,Lk,RB,Nat.reduceEqDiff,not_false_eq_true]),iv⟩
  ·skip
   simp only [C.f83r1,R,Nat.reduceEqDiff,g7]
   refine hJ _ ?_
   exact ⟨(by first | rfl | (simp only [g7]; rfl) | simp only [g7,Lk,RB,Nat.reduceEqDiff,not_false_eq_true]),(by first | rfl | (simp only [g7]; rfl) | simp only [g7,Lk,RB,Nat.reduceEqDiff,not_false_eq_true]),iv⟩
 rintro ⟨σ8,H3,d9⟩ ⟨h4,h5,i6⟩
 refine hJ _ ?_
 refine tk_cond (t:=(decide (x0 = 8)) || (decide (x0 = 9))) h5 (fun g10=>?_) (fun g10=>?_)
 ·replace hm:=cond_t hm g10
  refine tk_os okM hok fun J hJ=>?_
  simp only [C.f83r2,R,Nat.reduceEqDiff]
  refine hJ _ ?_
  refine tk_ret okM ?_
  refine x2 _ _ (by simp) ?_
  obtain rfl:=Option.some.inj hm
  exact end_flat (.inl rfl) (vs:=[(.int .i64 (2))]) (resT' (v:=(.int .i64 (2))) rfl resN) (fm_cons rfl fm_nil)
 ·replace hm:=cond_f hm g10
  refine tk_skip okM ?_
  refine n1 _ ?_
  refine tk_seq_k fun K n11 x12=>?_
  refine tk_os okM hok fun J hJ=>?_
  rw [C.f83r3]
  refine rn_app_k (fun ⟨σ,H,_⟩=>Lk σ 0 (.int .i64 (x0)) ∧ Lk σ 14 (.bool ((decide (x0 = 10)) || (decide (x0 = 11)))) ∧ Iv c.nb [] H0 H) (fun J hJ=>?_) ?_
  ·skip
   cases g17:decide (x0 = 10)
   ·skip
    simp only [C.f83r3p0,R,Nat.reduceEqDiff,h4,g17]
    refine hJ _ ?_
    exact ⟨h4,(by first | rfl | (simp only [g17]; rfl) | simp only [g17,Lk,RB,Nat.reduceEqDiff,not_false_eq_true]),i6⟩
   ·skip
    simp only [C.f83r3p0,R,Nat.reduceEqDiff,h4,g17]
    refine hJ _ ?_
    exact ⟨h4,(by first | rfl | (simp only [g17]; rfl) | simp only [g17,Lk,RB,Nat.reduceEqDiff,not_false_eq_true]),i6⟩
  rintro ⟨σ18,H13,d19⟩ ⟨h14,h15,i16⟩
  refine rn_k (fun ⟨σ,H,_⟩=>Lk σ 22 (.bool (((decide (x0 = 10)) || (decide (x0 = 11))) || ((decide (13 ≤ x0)) && (decide (x0 ≤ 17))))) ∧ Iv c.nb [] H0 H) (fun J hJ=>?_) ?_
  ·skip
   cases g23:(decide (x0 = 10)) || (decide (x0 = 11))
   ·skip
    cases g24:decide (13 ≤ x0)
    ·skip
     simp only [C.f83r3p1,R,Nat.reduceEqDiff,h15,↓g23,h14,g24]
     refine hJ _ ?_
     exact ⟨(by first | rfl | (simp only [↓g23,g24]; rfl) | simp only [↓g23,g24,Lk,RB,Nat.reduceEqDiff,not_false_eq_true]),i16⟩
    ·skip
     simp only [C.f83r3p1,R,Nat.reduceEqDiff,h15,↓g23,h14,g24]
     refine hJ _ ?_
     exact ⟨(by first | rfl | (simp only [↓g23,g24]; rfl) | simp only [↓g23,g24,Lk,RB,Nat.reduceEqDiff,not_false_eq_true]),i16⟩
   ·skip
    simp only [C.f83r3p1,R,Nat.reduceEqDiff,h15,↓g23]
    refine hJ _ ?_
    exact ⟨(by first | rfl | (simp only [↓g23]; rfl) | simp only [↓g23,Lk,RB,Nat.reduceEqDiff,not_false_eq_true]),i16⟩
  rintro ⟨σ25,H20,d26⟩ ⟨h21,i22⟩
  refine hJ _ ?_
  refine tk_cond (t:=((decide (x0 = 10)) || (decide (x0 = 11))) || ((decide (13 ≤ x0)) && (decide (x0 ≤ 17)))) h21 (fun g27=>?_) (fun g27=>?_)
  ·replace hm:=cond_t hm g27
   refine tk_os okM hok fun J hJ=>?_
   simp only [C.f83r4,R,Nat.reduceEqDiff]
   refine hJ _ ?_
   refine tk_ret okM ?_
   refine x12 _ _ (by simp) ?_
   obtain rfl:=Option.some.inj hm
   exact end_flat (.inl rfl) (vs:=[(.int .i64 (1))]) (resT' (v:=(.int .i64 (1))) rfl resN) (fm_cons rfl fm_nil)
  ·replace hm:=cond_f hm g27
   refine tk_skip okM ?_
   refine n11 _ ?_
   refine tk_os okM hok fun J hJ=>?_
   simp only [C.f83r5,R,Nat.reduceEqDiff]
   refine hJ _ ?_
   refine tk_ret okM ?_
   obtain rfl:=Option.some.inj hm
   exact end_flat (.inl rfl) (vs:=[(.int .i64 (0))]) (resT' (v:=(.int .i64 (0))) rfl resN) (fm_cons rfl fm_nil)
def b_fw (n:Nat) (x0:Nat):Option (Nat):=some (fBits (andNI .u64 (bitsF x0) 9223372036854775808))
theorem w_ik {call:CallF} (hok:CallOk Mt call) {n:Nat} {H0:Hp} {x0:Nat} {r:Nat} {ro:Nat} (hro:ro ≤ H0.length) (hm:b_fw n x0 = some r) :
  Pt Mt ro 84 [(.float .f64 x0)] H0 (.float .f64 (r)) H0 []:=by
 refine pt_new0 okM F84d (by exact Nat.le_of_ble_eq_true rfl) ?_ hro
 intro c hnt hnb hcr
 have hcn:c.ro ≤ c.nb:=by omega
 have iv:Iv c.nb [] H0 H0:=by rw [hnb]; exact iv_refl
 rw [show args0 [(.float .f64 x0)] = [(0,(.float .f64 x0))] from rfl]
 rw [b_fw] at hm
 simp only [C.f84]
 refine tk_os okM hok fun J hJ=>?_
 simp only [C.f84r0,R,Nat.reduceEqDiff]
 refine hJ _ ?_
 refine tk_os okM hok fun J hJ=>?_
 simp only [C.f84r1,R,Nat.reduceEqDiff,c_x (show Mt.F 119 = none from rfl),x119,bin_andn,c_x (show Mt.F 85 = none from rfl),x85]
 refine hJ _ ?_
 refine tk_ret okM ?_
 obtain rfl:=Option.some.inj hm
 exact end_flat (.inl rfl) (vs:=[(.float .f64 (fBits (andNI .u64 (bitsF x0) 9223372036854775808)))]) (resT' (v:=(.float .f64 (fBits (andNI .u64 (bitsF x0) 9223372036854775808)))) rfl resN) (fm_cons rfl fm_nil)
def b_cK (c_cd:T_dw) (c_c2:T_dL) (n:Nat) (x0:S_a):Option (Bool):=(bif (decide (x0.f_Kind < 0)) || (decide (18 ≤ x0.f_Kind)) then some true else ((c_cd x0).bind fun v26=>(c_c2 x0).bind fun v29=>(c_cd v29).bind fun v31=>some (!decide (v26 = v31)))).bind fun y32=>bif y32 then (some false) else (bif !decide (x0.f_Kind = 10) then (some true) else (some (((((decide (0 ≤ x0.f_Min)) && (decide (x0.f_Min ≤ 100))) && ((decide (x0.f_Max = ((-1)))) || ((decide (x0.f_Min ≤ x0.f_Max)) && (decide (x0.f_Max ≤ 100))))) && (decide (0 ≤ x0.f_Mode))) && (decide (x0.f_Mode ≤ 2)))))
theorem w_gw {call:CallF} (hok:CallOk Mt call) {n:Nat} {c_cd:T_dw} (z_eJ:A_eV call c_cd) {c_c2:T_dL} (z_gN:A_fh call c_c2) {H0:Hp} {x0:S_a} {r:Bool} {ro:Nat} (hro:ro ≤ H0.length) (hm:b_cK c_cd c_c2 n x0 = some r) :
  Pt Mt ro 97 [(vAgg (S_a.c x0))] H0 (.bool (r)) H0 []:=by
 refine pt_new0 okM F97d (by exact Nat.le_of_ble_eq_true rfl) ?_ hro
 intro c hnt hnb hcr
 have hcn:c.ro ≤ c.nb:=by omega
 have iv:Iv c.nb [] H0 H0:=by rw [hnb]; exact iv_refl
 rw [show args0 [(vAgg (S_a.c x0))] = [(0,(vAgg (S_a.c x0)))] from rfl]
 rw [b_cK] at hm
 simp only [C.f97]
 refine tk_os okM hok fun J hJ=>?_
 obtain ⟨b1,H2,a3,f4,q5,r6,x7,i8⟩:=bx_ok (M:=Mt) (t:=72) (u:=(vAgg (S_a.c (x0)))) (cs:=S_a.c x0) H0 iv.le (by rw [S_a.enc.len]; exact T.sz72) vAgg_cells (S_a.enc.one _)
 have i9:=i8 _ _ iv
 simp only [C.f97r0,R,Nat.reduceEqDiff,a3]
 refine hJ _ ?_
 refine tk_seq_k fun K n11 x12=>?_
 refine tk_os okM hok fun J hJ=>?_
 rw [C.f97r1]
 have a13:=ld_one (M:=Mt) (t:=3) f4 T.ag3 (Seg.refl.sub (S_a.seg0 x0))
 refine rn_app_k (fun ⟨σ,H,_⟩=>Lk σ 1 (.pointer (some ⟨b1,0,none⟩)) ∧ Lk σ 10 (.bool ((decide (x0.f_Kind < 0)) || (decide (18 ≤ x0.f_Kind)))) ∧ H[b1]? = some (.cells (S_a.c x0) 72) ∧ Iv c.nb [] H0 H) (fun J hJ=>?_) ?_
 ·skip
  cases g20:decide (x0.f_Kind < 0)
  ·skip
   have a21:=ld_one (M:=Mt) (t:=3) f4 T.ag3 (Seg.refl.sub (S_a.seg0 x0))
   simp only [C.f97r1p0,R,Nat.reduceEqDiff,s_pt,s_gt,isW,Bool.false_eq_true,if_false,if_true,reduceIte,fa72_0,a13,g20,a21]
   refine hJ _ ?_
   exact ⟨rfl,(by first | rfl | (simp only [g20]; rfl) | simp only [g20,Lk,RB,Nat.reduceEqDiff,not_false_eq_true]),f4,i9⟩
  ·skip
   simp only [C.f97r1p0,R,Nat.reduceEqDiff,s_pt,s_gt,isW,Bool.false_eq_true,if_false,if_true,reduceIte,fa72_0,a13,g20]
   refine hJ _ ?_
   exact ⟨rfl,(by first | rfl | (simp only [g20]; rfl) | simp only [g20,Lk,RB,Nat.reduceEqDiff,not_false_eq_true]),f4,i9⟩
 rintro ⟨σ22,H15,d23⟩ ⟨h16,h17,f18,i19⟩
 obtain ⟨y32,ey32,hm⟩:=bind_s hm
 refine rn_k (fun ⟨σ,H,_⟩=>Lk σ 1 (.pointer (some ⟨b1,0,none⟩)) ∧ Lk σ 18 (.bool (y32)) ∧ H[b1]? = some (.cells (S_a.c x0) 72) ∧ Iv c.nb [] H0 H) (fun J hJ=>?_) ?_
 ·skip
  cases g38:(decide (x0.f_Kind < 0)) || (decide (18 ≤ x0.f_Kind))
  ·skip
   have ey32:=cond_f ey32 g38
   have a39:=ld_agg (M:=Mt) (t:=72) f18 T.ag72 (by rw [S_a.enc.len]; exact T.sz72) Seg.refl
   obtain ⟨v41,ev41,ey32⟩:=bind_s ey32
   have a40:=z_eJ H15.length H15 x0 v41 ev41
   have a42:=ld_agg (M:=Mt) (t:=72) f18 T.ag72 (by rw [S_a.enc.len]; exact T.sz72) Seg.refl
   obtain ⟨v44,ev44,ey32⟩:=bind_s ey32
   have a43:=z_gN H15.length H15 x0 v44 ev44
   obtain ⟨v46,ev46,ey32⟩:=bind_s ey32
   have a45:=z_eJ H15.length H15 v44 v46 ev46
   obtain rfl:=Option.some.inj ey32
   simp only [C.f97r1p1,R,Nat.reduceEqDiff,s_pt,s_gt,isW,Bool.false_eq_true,if_false,if_true,reduceIte,h17,↓g38,a39,h16,c_fn F124,a40,a42,c_fn F125,a43,a45,neq72]
   refine hJ _ ?_
   exact ⟨h16,(by first | rfl | (simp only [↓g38]; rfl) | simp only [↓g38,Lk,RB,Nat.reduceEqDiff,not_false_eq_true]),f18,i19⟩
  ·skip
   have ey32:=cond_t ey32 g38
   obtain rfl:=Option.some.inj ey32
   simp only [C.f97r1p1,R,Nat.reduceEqDiff,s_pt,s_gt,isW,Bool.false_eq_true,if_false,if_true,reduceIte,h17,↓g38]
   refine hJ _ ?_
   exact ⟨h16,(by first | rfl | (simp only [↓g38]; rfl) | simp only [↓g38,Lk,RB,Nat.reduceEqDiff,not_false_eq_true]),f18,i19⟩
 rintro ⟨σ47,H33,d48⟩ ⟨h34,h35,f36,i37⟩
 refine hJ _ ?_
 refine tk_cond (t:=y32) h35 (fun g49=>?_) (fun g49=>?_)
 ·replace hm:=cond_t hm g49
  refine tk_os okM hok fun J hJ=>?_
  simp only [C.f97r2,R,Nat.reduceEqDiff]
  refine hJ _ ?_
  refine tk_ret okM ?_
  refine x12 _ _ (by simp) ?_
  obtain rfl:=Option.some.inj hm
  exact end_flat (.inl rfl) (vs:=[(.bool (false))]) (resT' (v:=(.bool (false))) rfl resN) (fm_cons rfl fm_nil)
 ·replace hm:=cond_f hm g49
  refine tk_skip okM ?_
  refine n11 _ ?_
  refine tk_seq_k fun K n50 x51=>?_
  refine tk_os okM hok fun J hJ=>?_
  have a52:=ld_one (M:=Mt) (t:=3) f36 T.ag3 (Seg.refl.sub (S_a.seg0 x0))
  simp only [C.f97r3,R,Nat.reduceEqDiff,fa72_0,h34,a52]
  refine hJ _ ?_
  refine tk_cond (t:=!decide (x0.f_Kind = 10)) rfl (fun g53=>?_) (fun g53=>?_)
  ·replace hm:=cond_t hm g53
   refine tk_os okM hok fun J hJ=>?_
   simp only [C.f97r4,R,Nat.reduceEqDiff]
   refine hJ _ ?_
   refine tk_ret okM ?_
   refine x51 _ _ (by simp) ?_
   obtain rfl:=Option.some.inj hm
   exact end_flat (.inl rfl) (vs:=[(.bool (true))]) (resT' (v:=(.bool (true))) rfl resN) (fm_cons rfl fm_nil)
  ·replace hm:=cond_f hm g53
   refine tk_skip okM ?_
   refine n50 _ ?_
   refine tk_os okM hok fun J hJ=>?_
   rw [C.f97r5]
   have a54:=ld_one (M:=Mt) (t:=3) f36 T.ag3 (Seg.refl.sub (S_a.seg4 x0))
   refine rn_app_k (fun ⟨σ,H,_⟩=>Lk σ 1 (.pointer (some ⟨b1,0,none⟩)) ∧ Lk σ 29 (.bool ((decide (0 ≤ x0.f_Min)) && (decide (x0.f_Min ≤ 100)))) ∧ H[b1]? = some (.cells (S_a.c x0) 72) ∧ Iv c.nb [] H0 H) (fun J hJ=>?_) ?_
   ·skip
    cases g61:decide (0 ≤ x0.f_Min)
    ·skip
     simp only [C.f97r5p0,R,Nat.reduceEqDiff,fa72_4,h34,a54,g61]
     refine hJ _ ?_
     exact ⟨h34,(by first | rfl | (simp only [g61]; rfl) | simp only [g61,Lk,RB,Nat.reduceEqDiff,not_false_eq_true]),f36,i37⟩
    ·skip
     have a62:=ld_one (M:=Mt) (t:=3) f36 T.ag3 (Seg.refl.sub (S_a.seg4 x0))
     simp only [C.f97r5p0,R,Nat.reduceEqDiff,fa72_4,h34,a54,g61,a62]
     refine hJ _ ?_
     exact ⟨h34,(by first | rfl | (simp only [g61]; rfl) | simp only [g61,Lk,RB,Nat.reduceEqDiff,not_false_eq_true]),f36,i37⟩
   rintro ⟨σ63,H56,d64⟩ ⟨h57,h58,f59,i60⟩
   refine rn_app_k (fun ⟨σ,H,_⟩=>Lk σ 1 (.pointer (some ⟨b1,0,none⟩)) ∧ Lk σ 46 (.bool (((decide (0 ≤ x0.f_Min)) && (decide (x0.f_Min ≤ 100))) && ((decide (x0.f_Max = ((-1)))) || ((decide (x0.f_Min ≤ x0.f_Max)) && (decide (x0.f_Max ≤ 100)))))) ∧ H[b1]? = some (.cells (S_a.c x0) 72) ∧ Iv c.nb [] H0 H) (fun J hJ=>?_) ?_
   ·skip
    cases g74:(decide (0 ≤ x0.f_Min)) && (decide (x0.f_Min ≤ 100))
    ·skip
     simp only [C.f97r5p1,R,Nat.reduceEqDiff,h58,↓g74]
     refine hJ _ ?_
     exact ⟨h57,(by first | rfl | (simp only [↓g74]; rfl) | simp only [↓g74,Lk,RB,Nat.reduceEqDiff,not_false_eq_true]),f59,i60⟩
    ·skip
     have a75:=ld_one (M:=Mt) (t:=3) f59 T.ag3 (Seg.refl.sub (S_a.seg5 x0))
     cases g79:decide (x0.f_Max = ((-1)))
     ·skip
      have a80:=ld_one (M:=Mt) (t:=3) f59 T.ag3 (Seg.refl.sub (S_a.seg5 x0))
      have a81:=ld_one (M:=Mt) (t:=3) f59 T.ag3 (Seg.refl.sub (S_a.seg4 x0))
      cases g83:decide (x0.f_Min ≤ x0.f_Max)
      ·skip
       simp only [C.f97r5p1,R,Nat.reduceEqDiff,h58,↓g74,fa72_5,h57,a75,g79,a80,fa72_4,a81,g83]
       refine hJ _ ?_
       exact ⟨h57,(by first | rfl | (simp only [↓g74,g79,g83]; rfl) | simp only [↓g74,g79,g83,Lk,RB,Nat.reduceEqDiff,not_false_eq_true]),f59,i60⟩
      ·skip
       have a84:=ld_one (M:=Mt) (t:=3) f59 T.ag3 (Seg.refl.sub (S_a.seg5 x0))
       simp only [C.f97r5p1,R,Nat.reduceEqDiff,h58,↓g74,fa72_5,h57,a75,g79,a80,fa72_4,a81,g83,a84]
       refine hJ _ ?_
       exact ⟨h57,(by first | rfl | (simp only [↓g74,g79,g83]; rfl) | simp only [↓g74,g79,g83,Lk,RB,Nat.reduceEqDiff,not_false_eq_true]),f59,i60⟩
     ·skip
      simp only [C.f97r5p1,R,Nat.reduceEqDiff,h58,↓g74,fa72_5,h57,a75,g79]
      refine hJ _ ?_
      exact ⟨h57,(by first | rfl | (simp only [↓g74,g79]; rfl) | simp only [↓g74,g79,Lk,RB,Nat.reduceEqDiff,not_false_eq_true]),f59,i60⟩
   rintro ⟨σ85,H69,d86⟩ ⟨h70,h71,f72,i73⟩
   refine rn_app_k (fun ⟨σ,H,_⟩=>Lk σ 1 (.pointer (some ⟨b1,0,none⟩)) ∧ Lk σ 51 (.bool ((((decide (0 ≤ x0.f_Min)) && (decide (x0.f_Min ≤ 100))) && ((decide (x0.f_Max = ((-1)))) || ((decide (x0.f_Min ≤ x0.f_Max)) && (decide (x0.f_Max ≤ 100))))) && (decide (0 ≤ x0.f_Mode)))) ∧ H[b1]? = some (.cells (S_a.c x0) 72) ∧ Iv c.nb [] H0 H) (fun J hJ=>?_) ?_
   ·skip
    cases g93:((decide (0 ≤ x0.f_Min)) && (decide (x0.f_Min ≤ 100))) && ((decide (x0.f_Max = ((-1)))) || ((decide (x0.f_Min ≤ x0.f_Max)) && (decide (x0.f_Max ≤ 100))))
    ·skip
     simp only [C.f97r5p2,R,Nat.reduceEqDiff,h71,↓g93]
     refine hJ _ ?_
     exact ⟨h70,(by first | rfl | (simp only [↓g93]; rfl) | simp only [↓g93,Lk,RB,Nat.reduceEqDiff,not_false_eq_true]),f72,i73⟩
    ·skip
     have a94:=ld_one (M:=Mt) (t:=3) f72 T.ag3 (Seg.refl.sub (S_a.seg6 x0))
     simp only [C.f97r5p2,R,Nat.reduceEqDiff,h71,↓g93,fa72_6,h70,a94]
     refine hJ _ ?_
     exact ⟨h70,(by first | rfl | (simp only [↓g93]; rfl) | simp only [↓g93,Lk,RB,Nat.reduceEqDiff,not_false_eq_true]),f72,i73⟩
   rintro ⟨σ95,H88,d96⟩ ⟨h89,h90,f91,i92⟩
   refine rn_app_k (fun ⟨σ,H,_⟩=>Lk σ 56 (.bool (((((decide (0 ≤ x0.f_Min)) && (decide (x0.f_Min ≤ 100))) && ((decide (x0.f_Max = ((-1)))) || ((decide (x0.f_Min ≤ x0.f_Max)) && (decide (x0.f_Max ≤ 100))))) && (decide (0 ≤ x0.f_Mode))) && (decide (x0.f_Mode ≤ 2)))) ∧ Iv c.nb [] H0 H) (fun J hJ=>?_) ?_
   ·skip
    cases g101:(((decide (0 ≤ x0.f_Min)) && (decide (x0.f_Min ≤ 100))) && ((decide (x0.f_Max = ((-1)))) || ((decide (x0.f_Min ≤ x0.f_Max)) && (decide (x0.f_Max ≤ 100))))) && (decide (0 ≤ x0.f_Mode))
    ·skip
     simp only [C.f97r5p3,R,Nat.reduceEqDiff,h90,↓g101]
     refine hJ _ ?_
     exact ⟨(by first | rfl | (simp only [↓g101]; rfl) | simp only [↓g101,Lk,RB,Nat.reduceEqDiff,not_false_eq_true]),i92⟩
    ·skip
     have a102:=ld_one (M:=Mt) (t:=3) f91 T.ag3 (Seg.refl.sub (S_a.seg6 x0))
     simp only [C.f97r5p3,R,Nat.reduceEqDiff,h90,↓g101,fa72_6,h89,a102]
     refine hJ _ ?_
     exact ⟨(by first | rfl | (simp only [↓g101]; rfl) | simp only [↓g101,Lk,RB,Nat.reduceEqDiff,not_false_eq_true]),i92⟩
   rintro ⟨σ103,H98,d104⟩ ⟨h99,i100⟩
   simp only [C.f97r5p4,R,Nat.reduceEqDiff,h99]
   refine hJ _ ?_
   refine tk_ret okM ?_
   obtain rfl:=Option.some.inj hm
   exact end_flat (.inl rfl) (vs:=[(.bool (((((decide (0 ≤ x0.f_Min)) && (decide (x0.f_Min ≤ 100))) && ((decide (x0.f_Max = ((-1)))) || ((decide (x0.f_Min ≤ x0.f_Max)) && (decide (x0.f_Max ≤ 100))))) && (decide (0 ≤ x0.f_Mode))) && (decide (x0.f_Mode ≤ 2))))]) (resT' (v:=(.bool (((((decide (0 ≤ x0.f_Min)) && (decide (x0.f_Min ≤ 100))) && ((decide (x0.f_Max = ((-1)))) || ((decide (x0.f_Min ≤ x0.f_Max)) && (decide (x0.f_Max ≤ 100))))) && (decide (0 ≤ x0.f_Mode))) && (decide (x0.f_Mode ≤ 2))))) rfl resN) (fm_cons rfl fm_nil)
def b_O (n:Nat) (x0:(Sl Int)):Nat → Int → Int → Option (Int)
 | 0,_,_=>none
 | k + 1,x3_16,x4_17=>bif decide (x4_17 < (Sl.len x0)) then ((ck (Sl.l x0).length x4_17).bind fun j35=>b_O n x0 k (max x3_16 (Sl.nth x0 j35)) (IntKind.i64.wrap (x4_17 + 1))) else (some x3_16)
def b_bA (n:Nat) (x0:(Sl Int)):Option (Int):=(ck (Sl.l x0).length 0).bind fun j7=>b_O n x0 n (Sl.nth x0 j7) 1
def b_bL (n:Nat) (x0:(Sl Int)):Option (Int):=bif decide ((Sl.len x0) < 1) then (none) else (b_bA n x0)
theorem w_fr {call:CallF} (hok:CallOk Mt call) {n:Nat} {H0:Hp} {x0:(Sl Int)} {b0:Nat} {r:Int} {ro:Nat} (hro:ro ≤ H0.length) (h0:SlH H0 (cInt .i64) 3 x0 b0) (hm:b_bL n x0 = some r) :
  Pt Mt ro 98 [(slV x0 b0)] H0 (.int .i64 (r)) H0 []:=by
 refine pt_new0 okM F98d (by exact Nat.le_of_ble_eq_true rfl) ?_ hro
 intro c hnt hnb hcr
 have hcn:c.ro ≤ c.nb:=by omega
 have l0:x0 ≠ none → b0 < c.nb:=fun h=>by rw [hnb]; exact h0.lt h
 have iv:Iv c.nb [] H0 H0:=by rw [hnb]; exact iv_refl
 rw [show args0 [(slV x0 b0)] = [(0,(slV x0 b0))] from rfl]
 rw [b_bL] at hm
 simp only [C.f98,C.f98b0]
 refine tk_os okM hok fun J hJ=>?_
 simp only [C.f98r0,R,Nat.reduceEqDiff]
 refine hJ _ ?_
 refine tk_seq_j (fun ⟨σ,H,_⟩=>b_bA n x0 = some r ∧ Lk σ 0 (slV x0 b0) ∧ Iv c.nb [] H0 H) ?_ ?_
 ·skip
  rintro ⟨σ5,H2,d6⟩ ⟨hm,h3,i4⟩
  rw [b_bA] at hm
  refine tk_os okM hok fun J hJ=>?_
  obtain ⟨j7,ej7,hm⟩:=bind_s hm
  obtain ⟨mm8,k9⟩:=(h0.iv l0 (fun _=>by simp) i4).blk (ck_lt ej7).1
  have a10:=lds_one (M:=Mt) (t:=3) k9 T.ag3 (seg_sl enc_int.len mm8 (ck_lt ej7).1)
  simp only [C.f98r3,R,Nat.reduceEqDiff,h3,ia100,ej7,a10]
  refine hJ _ ?_
  refine tk_seq_k fun K n11 x12=>?_
  refine tk_os okM hok fun J hJ=>?_
  simp only [C.f98r4,R,Nat.reduceEqDiff]
  refine hJ _ ?_
  refine tk_block_k fun K n13 e14 x15=>?_
  refine tk_loop_k (n:=n) (fun k2 ⟨σ,H,_⟩=>∃ x3_16 x4_17,b_O n x0 k2 x3_16 x4_17 = some r ∧ Lk σ 0 (slV x0 b0) ∧ Lk σ 3 (.int .i64 x3_16) ∧ Lk σ 4 (.int .i64 x4_17) ∧ Iv c.nb [] H0 H) ?_ ?_ ?_
  ·exact ⟨Sl.nth x0 j7,1,hm,h3,rfl,rfl,i4⟩
  ·rintro ⟨σ,H,d⟩ ⟨_,_,hm,_⟩
   cases hm
  ·intro k2 K n18 x19
   rintro ⟨σ25,H20,d26⟩ ⟨x3_16,x4_17,hm,h21,h22,h23,i24⟩
   rw [b_O.eq_2] at hm
   refine tk_seq_k fun K n27 x28=>?_
   refine tk_os okM hok fun J hJ=>?_
   simp only [C.f98r5,R,Nat.reduceEqDiff,h23,h21,ln100]
   refine hJ _ ?_
   refine tk_cond (t:=decide (x4_17 < (Sl.len x0))) rfl (fun g29=>?_) (fun g29=>?_)
   ·replace hm:=cond_t hm g29
    refine tk_skip okM ?_
    refine n27 _ ?_
    refine tk_seq_k fun K n30 x31=>?_
    refine tk_block_k fun K n32 e33 x34=>?_
    refine tk_oe okM hok fun J hJ=>?_
    obtain ⟨j35,ej35,hm⟩:=bind_s hm
    obtain ⟨mm36,k37⟩:=(h0.iv l0 (fun _=>by simp) i24).blk (ck_lt ej35).1
    have a38:=lds_one (M:=Mt) (t:=3) k37 T.ag3 (seg_sl enc_int.len mm36 (ck_lt ej35).1)
    simp only [C.f98r7,R,Nat.reduceEqDiff,h22,h21,h23,ia100,ej35,a38]
    refine hJ _ ?_
    refine n32 _ ?_
    refine n30 _ ?_
    refine tk_oe okM hok fun J hJ=>?_
    simp only [C.f98r6,R,Nat.reduceEqDiff,h23]
    refine hJ _ ?_
    refine n18 _ ?_
    exact ⟨max x3_16 (Sl.nth x0 j35),IntKind.i64.wrap (x4_17 + 1),hm,h21,rfl,rfl,i24⟩
   ·replace hm:=cond_f hm g29
    refine tk_exit okM ?_
    refine x28 _ _ (by simp) ?_
    refine x19 _ _ (by simp) ?_
    refine e14 _ ?_
    refine n11 _ ?_
    refine tk_os okM hok fun J hJ=>?_
    simp only [C.f98r8,R,Nat.reduceEqDiff,h22]
    refine hJ _ ?_
    refine tk_ret okM ?_
    obtain rfl:=Option.some.inj hm
    exact end_flat (.inl rfl) (vs:=[(.int .i64 (x3_16))]) (resT' (v:=(.int .i64 (x3_16))) rfl resN) (fm_cons rfl fm_nil)
 ·refine fun K n39 x40=>?_
  refine tk_os okM hok fun J hJ=>?_
  simp only [C.f98r1,R,Nat.reduceEqDiff,ln100]
  refine hJ _ ?_
  refine tk_cond (t:=decide ((Sl.len x0) < 1)) rfl (fun g41=>?_) (fun g41=>?_)
  ·replace hm:=cond_t hm g41
   cases hm
  ·replace hm:=cond_f hm g41
   refine tk_skip okM ?_
   refine n39 _ ?_
   exact ⟨hm,rfl,iv⟩
def b_ej (n:Nat) (x0:Int) (x1:Int):Option (Int):=bif (decide (x0 = ((-1)))) || (decide (x1 = ((-1)))) then (some ((-1))) else (some (min (IntKind.i64.wrap (x0 + x1)) 1048576))
theorem w_ij {call:CallF} (hok:CallOk Mt call) {n:Nat} {H0:Hp} {x0:Int} {x1:Int} {r:Int} {ro:Nat} (hro:ro ≤ H0.length) (hm:b_ej n x0 x1 = some r) :
  Pt Mt ro 99 [(.int .i64 x0),(.int .i64 x1)] H0 (.int .i64 (r)) H0 []:=by
 refine pt_new0 okM F99d (by exact Nat.le_of_ble_eq_true rfl) ?_ hro
 intro c hnt hnb hcr
 have hcn:c.ro ≤ c.nb:=by omega
 have iv:Iv c.nb [] H0 H0:=by rw [hnb]; exact iv_refl
 rw [show args0 [(.int .i64 x0),(.int .i64 x1)] = [(0,(.int .i64 x0)),(1,(.int .i64 x1))] from rfl]
 rw [b_ej] at hm
 simp only [C.f99]
 refine tk_os okM hok fun J hJ=>?_
 simp only [C.f99r0,R,Nat.reduceEqDiff]
 refine hJ _ ?_
 refine tk_seq_k fun K n1 x2=>?_
 refine tk_os okM hok fun J hJ=>?_
 refine rn_k (fun ⟨σ,H,_⟩=>Lk σ 0 (.int .i64 (x0)) ∧ Lk σ 1 (.int .i64 (x1)) ∧ Lk σ 10 (.bool ((decide (x0 = ((-1)))) || (decide (x1 = ((-1)))))) ∧ Iv c.nb [] H0 H) (fun J hJ=>?_) ?_
 ·skip
  cases g8:decide (x0 = ((-1)))
  ·skip
   simp only [C.f99r1,R,Nat.reduceEqDiff,g8]
   refine hJ _ ?_
   exact ⟨(by first | rfl | (simp only [g8]; rfl) | simp only [g8,Lk,RB,Nat.reduceEqDiff,not_false_eq_true]),(by first | rfl | (simp only [g8]; rfl) | simp only [g8,Lk,RB,Nat.reduceEqDiff,not_false_eq_true]),(by first | rfl | (simp only [g8]; rfl) | simp only [g8,Lk,RB,Nat.reduceEqDiff,not_false_eq_true]),iv⟩
  ·skip
   simp only [C.f99r1,R,Nat.reduceEqDiff,g8]
   refine hJ _ ?_
   exact ⟨(by first | rfl | (simp only [g8]; rfl) | simp only [g8,Lk,RB,Nat.reduceEqDiff,not_false_eq_true]),(by first | rfl | (simp only [g8]; rfl) | simp only [g8,Lk,RB,Nat.reduceEqDiff,not_false_eq_true]),(by first | rfl | (simp only [g8]; rfl) | simp only [g8,Lk,RB,Nat.reduceEqDiff,not_false_eq_true]),iv⟩
 rintro ⟨σ9,H3,d10⟩ ⟨h4,h5,h6,i7⟩
 refine hJ _ ?_
 refine tk_cond (t:=(decide (x0 = ((-1)))) || (decide (x1 = ((-1))))) h6 (fun g11=>?_) (fun g11=>?_)
 ·replace hm:=cond_t hm g11
  refine tk_os okM hok fun J hJ=>?_
  simp only [C.f99r2,R,Nat.reduceEqDiff]
  refine hJ _ ?_
  refine tk_ret okM ?_
  refine x2 _ _ (by simp) ?_
  obtain rfl:=Option.some.inj hm
  exact end_flat (.inl rfl) (vs:=[(.int .i64 ((-1)))]) (resT' (v:=(.int .i64 ((-1)))) rfl resN) (fm_cons rfl fm_nil)
 ·replace hm:=cond_f hm g11
  refine tk_skip okM ?_
  refine n1 _ ?_
  refine tk_os okM hok fun J hJ=>?_
  simp only [C.f99r3,R,Nat.reduceEqDiff,h4,h5]
  refine hJ _ ?_
  refine tk_ret okM ?_
  obtain rfl:=Option.some.inj hm
  exact end_flat (.inl rfl) (vs:=[(.int .i64 (min (IntKind.i64.wrap (x0 + x1)) 1048576))]) (resT' (v:=(.int .i64 (min (IntKind.i64.wrap (x0 + x1)) 1048576))) rfl resN) (fm_cons rfl fm_nil)
def b_dR (n:Nat) (x0:Int) (x1:Int):Option (Int):=bif (decide (x0 = 0)) || (decide (x1 = 0)) then (some 0) else (bif (decide (x0 = ((-1)))) || (decide (x1 = ((-1)))) then (some ((-1))) else (some (min (IntKind.i64.wrap (x0 * x1)) 1048576)))
theorem w_h8 {call:CallF} (hok:CallOk Mt call) {n:Nat} {H0:Hp} {x0:Int} {x1:Int} {r:Int} {ro:Nat} (hro:ro ≤ H0.length) (hm:b_dR n x0 x1 = some r) :
  Pt Mt ro 100 [(.int .i64 x0),(.int .i64 x1)] H0 (.int .i64 (r)) H0 []:=by
 refine pt_new0 okM F100d (by exact Nat.le_of_ble_eq_true rfl) ?_ hro
 intro c hnt hnb hcr
 have hcn:c.ro ≤ c.nb:=by omega
 have iv:Iv c.nb [] H0 H0:=by rw [hnb]; exact iv_refl
 rw [show args0 [(.int .i64 x0),(.int .i64 x1)] = [(0,(.int .i64 x0)),(1,(.int .i64 x1))] from rfl]
 rw [b_dR] at hm
 simp only [C.f100]
 refine tk_os okM hok fun J hJ=>?_
 simp only [C.f100r0,R,Nat.reduceEqDiff]
 refine hJ _ ?_
 refine tk_seq_k fun K n1 x2=>?_
 refine tk_block_k fun K n3 e4 x5=>?_
 refine tk_os okM hok fun J hJ=>?_
 rw [C.f100r1]
 refine rn_app_k (fun ⟨σ,H,_⟩=>Lk σ 0 (.int .i64 (x0)) ∧ Lk σ 1 (.int .i64 (x1)) ∧ Lk σ 11 (.bool ((decide (x0 = 0)) || (decide (x1 = 0)))) ∧ Iv c.nb [] H0 H) (fun J hJ=>?_) ?_
 ·skip
  cases g11:decide (x0 = 0)
  ·skip
   simp only [C.f100r1p0,R,Nat.reduceEqDiff,g11]
   refine hJ _ ?_
   exact ⟨(by first | rfl | (simp only [g11]; rfl) | simp only [g11,Lk,RB,Nat.reduceEqDiff,not_false_eq_true]),(by first | rfl | (simp only [g11]; rfl) | simp only [g11,Lk,RB,Nat.reduceEqDiff,not_false_eq_true]),(by first | rfl | (simp only [g11]; rfl) | simp only [g11,Lk,RB,Nat.reduceEqDiff,not_false_eq_true]),iv⟩
  ·skip
   simp only [C.f100r1p0,R,Nat.reduceEqDiff,g11]
   refine hJ _ ?_
   exact ⟨(by first | rfl | (simp only [g11]; rfl) | simp only [g11,Lk,RB,Nat.reduceEqDiff,not_false_eq_true]),(by first | rfl | (simp only [g11]; rfl) | simp only [g11,Lk,RB,Nat.reduceEqDiff,not_false_eq_true]),(by first | rfl | (simp only [g11]; rfl) | simp only [g11,Lk,RB,Nat.reduceEqDiff,not_false_eq_true]),iv⟩
 rintro ⟨σ12,H6,d13⟩ ⟨h7,h8,h9,i10⟩
 simp only [C.f100r1p1,R,Nat.reduceEqDiff,h9]
 refine hJ _ ?_
 refine tk_cond (t:=(decide (x0 = 0)) || (decide (x1 = 0))) rfl (fun g14=>?_) (fun g14=>?_)
 ·replace hm:=cond_t hm g14
  refine tk_os okM hok fun J hJ=>?_
  simp only [C.f100r2,R,Nat.reduceEqDiff]
  refine hJ _ ?_
  refine tk_ret okM ?_
  refine x5 _ _ (by simp) (by simp) ?_
  refine x2 _ _ (by simp) ?_
  obtain rfl:=Option.some.inj hm
  exact end_flat (.inl rfl) (vs:=[(.int .i64 (0))]) (resT' (v:=(.int .i64 (0))) rfl resN) (fm_cons rfl fm_nil)
 ·replace hm:=cond_f hm g14
  refine tk_os okM hok fun J hJ=>?_
  rw [C.f100r3]
  refine rn_app_k (fun ⟨σ,H,_⟩=>Lk σ 0 (.int .i64 (x0)) ∧ Lk σ 1 (.int .i64 (x1)) ∧ Lk σ 18 (.bool ((decide (x0 = ((-1)))) || (decide (x1 = ((-1)))))) ∧ Iv c.nb [] H0 H) (fun J hJ=>?_) ?_
  ·skip
   cases g20:decide (x0 = ((-1)))
   ·skip
    simp only [C.f100r3p0,R,Nat.reduceEqDiff,h7,g20,h8]
    refine hJ _ ?_
    exact ⟨h7,h8,(by first | rfl | (simp only [g20]; rfl) | simp only [g20,Lk,RB,Nat.reduceEqDiff,not_false_eq_true]),i10⟩
   ·skip
    simp only [C.f100r3p0,R,Nat.reduceEqDiff,h7,g20]
    refine hJ _ ?_
    exact ⟨h7,h8,(by first | rfl | (simp only [g20]; rfl) | simp only [g20,Lk,RB,Nat.reduceEqDiff,not_false_eq_true]),i10⟩
  rintro ⟨σ21,H15,d22⟩ ⟨h16,h17,h18,i19⟩
  simp only [C.f100r3p1,R,Nat.reduceEqDiff,h18]
  refine hJ _ ?_
  refine tk_cond (t:=(decide (x0 = ((-1)))) || (decide (x1 = ((-1))))) rfl (fun g23=>?_) (fun g23=>?_)
  ·replace hm:=cond_t hm g23
   refine tk_os okM hok fun J hJ=>?_
   simp only [C.f100r4,R,Nat.reduceEqDiff]
   refine hJ _ ?_
   refine tk_ret okM ?_
   refine x5 _ _ (by simp) (by simp) ?_
   refine x2 _ _ (by simp) ?_
   obtain rfl:=Option.some.inj hm
   exact end_flat (.inl rfl) (vs:=[(.int .i64 ((-1)))]) (resT' (v:=(.int .i64 ((-1)))) rfl resN) (fm_cons rfl fm_nil)
  ·replace hm:=cond_f hm g23
   refine tk_skip okM ?_
   refine n3 _ ?_
   refine n1 _ ?_
   refine tk_os okM hok fun J hJ=>?_
   simp only [C.f100r5,R,Nat.reduceEqDiff,h16,h17]
   refine hJ _ ?_
   refine tk_ret okM ?_
   obtain rfl:=Option.some.inj hm
   exact end_flat (.inl rfl) (vs:=[(.int .i64 (min (IntKind.i64.wrap (x0 * x1)) 1048576))]) (resT' (v:=(.int .i64 (min (IntKind.i64.wrap (x0 * x1)) 1048576))) rfl resN) (fm_cons rfl fm_nil)
def b_cw (n:Nat) (x0:Int) (x1:(Sl Int)):Option (Int):=(ck (Sl.l x1).length x0).bind fun j4=>some (IntKind.i64.wrap ((IntKind.i64.wrap (x0 - (Sl.nth x1 j4))) + 1))
theorem w_gv {call:CallF} (hok:CallOk Mt call) {n:Nat} {H0:Hp} {x0:Int} {x1:(Sl Int)} {b1:Nat} {s1:Nat} {r:Int} {ro:Nat} (hro:ro ≤ H0.length) (hb1:H0[b1]? = some (.cells [slV x1 s1] 100)) (h1:SlH H0 (cInt .i64) 3 x1 s1) (hm:b_cw n x0 x1 = some r) :
  Pt Mt ro 102 [(.int .i64 x0),(.pointer (some ⟨b1,0,none⟩))] H0 (.int .i64 (r)) H0 []:=by
 refine pt_new0 okM F102d (by exact Nat.le_of_ble_eq_true rfl) ?_ hro
 intro c hnt hnb hcr
 have hcn:c.ro ≤ c.nb:=by omega
 have lb1:b1 < c.nb:=by rw [hnb]; exact get_lt hb1
 have l1:x1 ≠ none → s1 < c.nb:=fun h=>by rw [hnb]; exact h1.lt h
 have iv:Iv c.nb [] H0 H0:=by rw [hnb]; exact iv_refl
 rw [show args0 [(.int .i64 x0),(.pointer (some ⟨b1,0,none⟩))] = [(0,(.int .i64 x0)),(1,(.pointer (some ⟨b1,0,none⟩)))] from rfl]
 rw [b_cw] at hm
 simp only [C.f102]
 refine tk_os okM hok fun J hJ=>?_
 simp only [C.f102r0,R,Nat.reduceEqDiff]
 refine hJ _ ?_
 refine tk_os okM hok fun J hJ=>?_
 have a3:=ld_one (M:=Mt) (t:=100) ((iv.old b1 lb1 (by simp)).trans hb1) T.ag100 Seg.refl
 obtain ⟨j4,ej4,hm⟩:=bind_s hm
 obtain ⟨mm5,k6⟩:=(h1.iv l1 (fun _=>by simp) iv).blk (ck_lt ej4).1
 have a7:=lds_one (M:=Mt) (t:=3) k6 T.ag3 (seg_sl enc_int.len mm5 (ck_lt ej4).1)
 simp only [C.f102r1,R,Nat.reduceEqDiff,a3,ia100,ej4,a7]
 refine hJ _ ?_
 refine tk_ret okM ?_
 obtain rfl:=Option.some.inj hm
 exact end_flat (.inl rfl) (vs:=[(.int .i64 (IntKind.i64.wrap ((IntKind.i64.wrap (x0 - (Sl.nth x1 j4))) + 1)))]) (resT' (v:=(.int .i64 (IntKind.i64.wrap ((IntKind.i64.wrap (x0 - (Sl.nth x1 j4))) + 1)))) rfl resN) (fm_cons rfl fm_nil)
def b_ct (c_bY:T_dn) (n:Nat) (x0:Int) (x1:Int) (x2:(Sl Int)) (x3:(Sl Int)):Option (Int):=(c_bY x0 x2).bind fun v10=>(c_bY x1 x2).bind fun v13=>bif !decide ((IntKind.i64.wrap (v10 - v13)) = 0) then (some (IntKind.i64.wrap (v10 - v13))) else ((ck (Sl.l x3).length x1).bind fun j16=>(ck (Sl.l x3).length x0).bind fun j21=>some (IntKind.i64.wrap ((Sl.nth x3 j16) - (Sl.nth x3 j21))))
theorem w_gk {call:CallF} (hok:CallOk Mt call) {n:Nat} {c_bY:T_dn} (z_eg:A_eA call c_bY) {H0:Hp} {x0:Int} {x1:Int} {x2:(Sl Int)} {d2:Nat} {b2:Nat} {s2:Nat} {x3:(Sl Int)} {b3:Nat} {s3:Nat} {r:Int} {ro:Nat} (hro:ro ≤ H0.length) (hd2:H0[d2]? = some (.cells [.func (.func 102) [].toArray [(.pointer (some ⟨b2,0,none⟩))].toArray] 99)) (hb2:H0[b2]? = some (.cells [slV x2 s2] 100)) (h2:SlH H0 (cInt .i64) 3 x2 s2) (hb3:H0[b3]? = some (.cells [slV x3 s3] 100)) (h3:SlH H0 (cInt .i64) 3 x3 s3) (hm:b_ct c_bY n x0 x1 x2 x3 = some r) :
  Pt Mt ro 104 [(.int .i64 x0),(.int .i64 x1),(.pointer (some ⟨d2,0,none⟩)),(.pointer (some ⟨b3,0,none⟩))] H0 (.int .i64 (r)) H0 []:=by
 refine pt_new0 okM F104d (by exact Nat.le_of_ble_eq_true rfl) ?_ hro
 intro c hnt hnb hcr
 have hcn:c.ro ≤ c.nb:=by omega
 have lb2:b2 < c.nb:=by rw [hnb]; exact get_lt hb2
 have l2:x2 ≠ none → s2 < c.nb:=fun h=>by rw [hnb]; exact h2.lt h
 have ld2:d2 < c.nb:=by rw [hnb]; exact get_lt hd2
 have lb3:b3 < c.nb:=by rw [hnb]; exact get_lt hb3
 have l3:x3 ≠ none → s3 < c.nb:=fun h=>by rw [hnb]; exact h3.lt h
 have iv:Iv c.nb [] H0 H0:=by rw [hnb]; exact iv_refl
 rw [show args0 [(.int .i64 x0),(.int .i64 x1),(.pointer (some ⟨d2,0,none⟩)),(.pointer (some ⟨b3,0,none⟩))] = [(0,(.int .i64 x0)),(1,(.int .i64 x1)),(2,(.pointer (some ⟨d2,0,none⟩))),(3,(.pointer (some ⟨b3,0,none⟩)))] from rfl]
 rw [b_ct] at hm
 simp only [C.f104]
 refine tk_os okM hok fun J hJ=>?_
 simp only [C.f104r0,R,Nat.reduceEqDiff]
 refine hJ _ ?_
 refine tk_seq_k fun K n6 x7=>?_
 refine tk_os okM hok fun J hJ=>?_
 have a8:=ld_one (M:=Mt) (t:=99) ((iv.old d2 ld2 (by simp)).trans hd2) T.ag99 Seg.refl
 obtain ⟨v10,ev10,hm⟩:=bind_s hm
 have a9:=z_eg H0.length H0 x0 x2 b2 s2 v10 ((iv.old b2 lb2 (by simp)).trans hb2) (h2.iv l2 (fun _=>by simp) iv) ev10
 have a11:=ld_one (M:=Mt) (t:=99) ((iv.old d2 ld2 (by simp)).trans hd2) T.ag99 Seg.refl
 obtain ⟨v13,ev13,hm⟩:=bind_s hm
 have a12:=z_eg H0.length H0 x1 x2 b2 s2 v13 ((iv.old b2 lb2 (by simp)).trans hb2) (h2.iv l2 (fun _=>by simp) iv) ev13
 simp only [C.f104r1,R,Nat.reduceEqDiff,s_pt,s_gt,isW,Bool.false_eq_true,if_false,if_true,reduceIte,a8,c_cl,cl_fn F102,List.toList_toArray,List.nil_append,List.append_nil,List.cons_append,a9,a11,a12]
 refine hJ _ ?_
 refine tk_os okM hok fun J hJ=>?_
 simp only [C.f104r2,R,Nat.reduceEqDiff]
 refine hJ _ ?_
 refine tk_cond (t:=!decide ((IntKind.i64.wrap (v10 - v13)) = 0)) rfl (fun g14=>?_) (fun g14=>?_)
 ·replace hm:=cond_t hm g14
  refine tk_os okM hok fun J hJ=>?_
  simp only [C.f104r3,R,Nat.reduceEqDiff]
  refine hJ _ ?_
  refine tk_ret okM ?_
  refine x7 _ _ (by simp) ?_
  obtain rfl:=Option.some.inj hm
  exact end_flat (.inl rfl) (vs:=[(.int .i64 (IntKind.i64.wrap (v10 - v13)))]) (resT' (v:=(.int .i64 (IntKind.i64.wrap (v10 - v13)))) rfl resN) (fm_cons rfl fm_nil)
 ·replace hm:=cond_f hm g14
  refine tk_skip okM ?_
  refine n6 _ ?_
  refine tk_os okM hok fun J hJ=>?_
  have a15:=ld_one (M:=Mt) (t:=100) ((iv.old b3 lb3 (by simp)).trans hb3) T.ag100 Seg.refl
  obtain ⟨j16,ej16,hm⟩:=bind_s hm
  obtain ⟨mm17,k18⟩:=(h3.iv l3 (fun _=>by simp) iv).blk (ck_lt ej16).1
  have a19:=lds_one (M:=Mt) (t:=3) k18 T.ag3 (seg_sl enc_int.len mm17 (ck_lt ej16).1)
  have a20:=ld_one (M:=Mt) (t:=100) ((iv.old b3 lb3 (by simp)).trans hb3) T.ag100 Seg.refl
  obtain ⟨j21,ej21,hm⟩:=bind_s hm
  obtain ⟨mm22,k23⟩:=(h3.iv l3 (fun _=>by simp) iv).blk (ck_lt ej21).1
  have a24:=lds_one (M:=Mt) (t:=3) k23 T.ag3 (seg_sl enc_int.len mm22 (ck_lt ej21).1)
  simp only [C.f104r4,R,Nat.reduceEqDiff,s_pt,s_gt,isW,Bool.false_eq_true,if_false,if_true,reduceIte,a15,ia100,ej16,a19,a20,ej21,a24]
  refine hJ _ ?_
  refine tk_ret okM ?_
  obtain rfl:=Option.some.inj hm
  exact end_flat (.inl rfl) (vs:=[(.int .i64 (IntKind.i64.wrap ((Sl.nth x3 j16) - (Sl.nth x3 j21))))]) (resT' (v:=(.int .i64 (IntKind.i64.wrap ((Sl.nth x3 j16) - (Sl.nth x3 j21))))) rfl resN) (fm_cons rfl fm_nil)
def b_cx (n:Nat) (x0:S_a) (x1:(Sl Int)):Option (Bool):=some ((decide (x0.f_Kind = 12)) && ((decide (x0.f_N < 1)) || (decide ((Sl.len x1) < x0.f_N))))
theorem w_gl {call:CallF} (hok:CallOk Mt call) {n:Nat} {H0:Hp} {x0:S_a} {x1:(Sl Int)} {b1:Nat} {s1:Nat} {r:Bool} {ro:Nat} (hro:ro ≤ H0.length) (hb1:H0[b1]? = some (.cells [slV x1 s1] 100)) (h1:SlH H0 (cInt .i64) 3 x1 s1) (hm:b_cx n x0 x1 = some r) :
  Pt Mt ro 105 [(vAgg (S_a.c x0)),(.pointer (some ⟨b1,0,none⟩))] H0 (.bool (r)) H0 []:=by
 refine pt_new0 okM F105d (by exact Nat.le_of_ble_eq_true rfl) ?_ hro
 intro c hnt hnb hcr
 have hcn:c.ro ≤ c.nb:=by omega
 have lb1:b1 < c.nb:=by rw [hnb]; exact get_lt hb1
 have l1:x1 ≠ none → s1 < c.nb:=fun h=>by rw [hnb]; exact h1.lt h
 have iv:Iv c.nb [] H0 H0:=by rw [hnb]; exact iv_refl
 rw [show args0 [(vAgg (S_a.c x0)),(.pointer (some ⟨b1,0,none⟩))] = [(0,(vAgg (S_a.c x0))),(1,(.pointer (some ⟨b1,0,none⟩)))] from rfl]
 rw [b_cx] at hm
 simp only [C.f105]
 refine tk_os okM hok fun J hJ=>?_
 obtain ⟨b3,H4,a5,f6,q7,r8,x9,i10⟩:=bx_ok (M:=Mt) (t:=72) (u:=(vAgg (S_a.c (x0)))) (cs:=S_a.c x0) H0 iv.le (by rw [S_a.enc.len]; exact T.sz72) vAgg_cells (S_a.enc.one _)
 have i11:=i10 _ _ iv
 simp only [C.f105r0,R,Nat.reduceEqDiff,a5]
 refine hJ _ ?_
 refine tk_os okM hok fun J hJ=>?_
 rw [C.f105r1]
 have a13:=ld_one (M:=Mt) (t:=3) f6 T.ag3 (Seg.refl.sub (S_a.seg0 x0))
 refine rn_app_k (fun ⟨σ,H,_⟩=>Lk σ 18 (.bool ((decide (x0.f_Kind = 12)) && ((decide (x0.f_N < 1)) || (decide ((Sl.len x1) < x0.f_N))))) ∧ Iv c.nb [] H0 H) (fun J hJ=>?_) ?_
 ·skip
  cases g20:decide (x0.f_Kind = 12)
  ·skip
   simp only [C.f105r1p0,R,Nat.reduceEqDiff,fa72_0,a13,g20]
   refine hJ _ ?_
   exact ⟨(by first | rfl | (simp only [g20]; rfl) | simp only [g20,Lk,RB,Nat.reduceEqDiff,not_false_eq_true]),i11⟩
  ·skip
   have a21:=ld_one (M:=Mt) (t:=3) f6 T.ag3 (Seg.refl.sub (S_a.seg7 x0))
   cases g24:decide (x0.f_N < 1)
   ·skip
    have a25:=ld_one (M:=Mt) (t:=3) f6 T.ag3 (Seg.refl.sub (S_a.seg7 x0))
    have a26:=ld_one (M:=Mt) (t:=100) ((i11.old b1 lb1 (by simp)).trans hb1) T.ag100 Seg.refl
    simp only [C.f105r1p0,R,Nat.reduceEqDiff,fa72_0,a13,g20,fa72_7,a21,g24,a25,a26,ln100]
    refine hJ _ ?_
    exact ⟨(by first | rfl | (simp only [g20,g24]; rfl) | simp only [g20,g24,Lk,RB,Nat.reduceEqDiff,not_false_eq_true]),i11⟩
   ·skip
    simp only [C.f105r1p0,R,Nat.reduceEqDiff,fa72_0,a13,g20,fa72_7,a21,g24]
    refine hJ _ ?_
    exact ⟨(by first | rfl | (simp only [g20,g24]; rfl) | simp only [g20,g24,Lk,RB,Nat.reduceEqDiff,not_false_eq_true]),i11⟩
 rintro ⟨σ27,H17,d28⟩ ⟨h18,i19⟩
 simp only [C.f105r1p1,R,Nat.reduceEqDiff,h18]
 refine hJ _ ?_
 refine tk_ret okM ?_
 obtain rfl:=Option.some.inj hm
 exact end_flat (.inl rfl) (vs:=[(.bool ((decide (x0.f_Kind = 12)) && ((decide (x0.f_N < 1)) || (decide ((Sl.len x1) < x0.f_N)))))]) (resT' (v:=(.bool ((decide (x0.f_Kind = 12)) && ((decide (x0.f_N < 1)) || (decide ((Sl.len x1) < x0.f_N)))))) rfl resN) (fm_cons rfl fm_nil)
def b_bw (c_bv:T_b3) (n:Nat) (x0:(Sl S_a)) (x1:(Sl Int)):Option (Bool):=(c_bv x0 x1).bind fun v5=>some (decide (0 ≤ v5))
theorem w_eT {call:CallF} (hok:CallOk Mt call) {n:Nat} {c_bv:T_b3} (z_er:A_c8 call c_bv) {H0:Hp} {x0:(Sl S_a)} {b0:Nat} {x1:(Sl Int)} {b1:Nat} {s1:Nat} {r:Bool} {ro:Nat} (hro:ro ≤ H0.length) (h0:SlH H0 S_a.c 72 x0 b0) (hb1:H0[b1]? = some (.cells [slV x1 s1] 100)) (h1:SlH H0 (cInt .i64) 3 x1 s1) (hm:b_bw c_bv n x0 x1 = some r) :
  Pt Mt ro 106 [(slV x0 b0),(.func (.func 105) [].toArray [(.pointer (some ⟨b1,0,none⟩))].toArray)] H0 (.bool (r)) H0 []:=by
 refine pt_new0 okM F106d (by exact Nat.le_of_ble_eq_true rfl) ?_ hro
 intro c hnt hnb hcr
 have hcn:c.ro ≤ c.nb:=by omega
 have l0:x0 ≠ none → b0 < c.nb:=fun h=>by rw [hnb]; exact h0.lt h
 have lb1:b1 < c.nb:=by rw [hnb]; exact get_lt hb1
 have l1:x1 ≠ none → s1 < c.nb:=fun h=>by rw [hnb]; exact h1.lt h
 have iv:Iv c.nb [] H0 H0:=by rw [hnb]; exact iv_refl
 rw [show args0 [(slV x0 b0),(.func (.func 105) [].toArray [(.pointer (some ⟨b1,0,none⟩))].toArray)] = [(0,(slV x0 b0)),(1,(.func (.func 105) [].toArray [(.pointer (some ⟨b1,0,none⟩))].toArray))] from rfl]
 rw [b_bw] at hm
 simp only [C.f106]
 refine tk_os okM hok fun J hJ=>?_
 simp only [C.f106r0,R,Nat.reduceEqDiff]
 refine hJ _ ?_
 refine tk_os okM hok fun J hJ=>?_
 obtain ⟨v5,ev5,hm⟩:=bind_s hm
 have a4:=z_er c.ro H0 x0 b0 x1 b1 s1 v5 (h0.iv l0 (fun _=>by simp) iv) ((iv.old b1 lb1 (by simp)).trans hb1) (h1.iv l1 (fun _=>by simp) iv) ev5
 simp only [C.f106r1,R,Nat.reduceEqDiff,c_fn F138,a4]
 refine hJ _ ?_
 refine tk_ret okM ?_
 obtain rfl:=Option.some.inj hm
 exact end_flat (.inl rfl) (vs:=[(.bool (decide (0 ≤ v5)))]) (resT' (v:=(.bool (decide (0 ≤ v5)))) rfl resN) (fm_cons rfl fm_nil)
def b_dE (c_bb:T_cP) (c_3:T_cO) (n:Nat) (x0:(Sl S_b)):Option (Int):=(bif (decide ((Sl.len x0) = 0)) || (decide (500 < (Sl.len x0))) then some true else ((c_bb x0 (IntKind.i64.wrap ((Sl.len x0) - 1))).bind fun v12=>some (!decide (v12 = (Sl.len x0))))).bind fun y13=>bif y13 then (some 0) else ((c_3 x0 (IntKind.i64.wrap ((Sl.len x0) - 1))).bind fun v25=>some v25)
theorem w_hI {call:CallF} (hok:CallOk Mt call) {n:Nat} {c_bb:T_cP} (z_dg:A_ez call c_bb) {c_3:T_cO} (z_cI:A_eM call c_3) {H0:Hp} {x0:(Sl S_b)} {b0:Nat} {r:Int} {ro:Nat} (hro:ro ≤ H0.length) (h0:SlH H0 S_b.c 97 x0 b0) (hm:b_dE c_bb c_3 n x0 = some r) :
  Pt Mt ro 116 [(slV x0 b0)] H0 (.int .i64 (r)) H0 []:=by
 refine pt_new0 okM F116d (by exact Nat.le_of_ble_eq_true rfl) ?_ hro
 intro c hnt hnb hcr
 have hcn:c.ro ≤ c.nb:=by omega
 have l0:x0 ≠ none → b0 < c.nb:=fun h=>by rw [hnb]; exact h0.lt h
 have iv:Iv c.nb [] H0 H0:=by rw [hnb]; exact iv_refl
 rw [show args0 [(slV x0 b0)] = [(0,(slV x0 b0))] from rfl]
 rw [b_dE] at hm
 simp only [C.f116]
 refine tk_os okM hok fun J hJ=>?_
 simp only [C.f116r0,R,Nat.reduceEqDiff]
 refine hJ _ ?_
 refine tk_seq_k fun K n2 x3=>?_
 refine tk_os okM hok fun J hJ=>?_
 rw [C.f116r1]
 refine rn_app_k (fun ⟨σ,H,_⟩=>Lk σ 0 (slV x0 b0) ∧ Lk σ 10 (.bool ((decide ((Sl.len x0) = 0)) || (decide (500 < (Sl.len x0))))) ∧ Iv c.nb [] H0 H) (fun J hJ=>?_) ?_
 ·skip
  cases g8:decide ((Sl.len x0) = 0)
  ·skip
   simp only [C.f116r1p0,R,Nat.reduceEqDiff,ln39,g8]
   refine hJ _ ?_
   exact ⟨rfl,(by first | rfl | (simp only [g8]; rfl) | simp only [g8,Lk,RB,Nat.reduceEqDiff,not_false_eq_true]),iv⟩
  ·skip
   simp only [C.f116r1p0,R,Nat.reduceEqDiff,ln39,g8]
   refine hJ _ ?_
   exact ⟨rfl,(by first | rfl | (simp only [g8]; rfl) | simp only [g8,Lk,RB,Nat.reduceEqDiff,not_false_eq_true]),iv⟩
 rintro ⟨σ9,H4,d10⟩ ⟨h5,h6,i7⟩
 obtain ⟨y13,ey13,hm⟩:=bind_s hm
 refine rn_k (fun ⟨σ,H,_⟩=>Lk σ 0 (slV x0 b0) ∧ Lk σ 20 (.bool (y13)) ∧ Iv c.nb [] H0 H) (fun J hJ=>?_) ?_
 ·skip
  cases g18:(decide ((Sl.len x0) = 0)) || (decide (500 < (Sl.len x0)))
  ·skip
   have ey13:=cond_f ey13 g18
   obtain ⟨v20,ev20,ey13⟩:=bind_s ey13
   have a19:=z_dg c.ro H4 x0 b0 (IntKind.i64.wrap ((Sl.len x0) - 1)) v20 (h0.iv l0 (fun _=>by simp) i7) ev20
   obtain rfl:=Option.some.inj ey13
   simp only [C.f116r1p1,R,Nat.reduceEqDiff,h6,↓g18,h5,ln39,c_fn F150,a19]
   refine hJ _ ?_
   exact ⟨h5,(by first | rfl | (simp only [↓g18]; rfl) | simp only [↓g18,Lk,RB,Nat.reduceEqDiff,not_false_eq_true]),i7⟩
  ·skip
   have ey13:=cond_t ey13 g18
   obtain rfl:=Option.some.inj ey13
   simp only [C.f116r1p1,R,Nat.reduceEqDiff,h6,↓g18]
   refine hJ _ ?_
   exact ⟨h5,(by first | rfl | (simp only [↓g18]; rfl) | simp only [↓g18,Lk,RB,Nat.reduceEqDiff,not_false_eq_true]),i7⟩
 rintro ⟨σ21,H14,d22⟩ ⟨h15,h16,i17⟩
 refine hJ _ ?_
 refine tk_cond (t:=y13) h16 (fun g23=>?_) (fun g23=>?_)
 ·replace hm:=cond_t hm g23
  refine tk_os okM hok fun J hJ=>?_
  simp only [C.f116r2,R,Nat.reduceEqDiff]
  refine hJ _ ?_
  refine tk_ret okM ?_
  refine x3 _ _ (by simp) ?_
  obtain rfl:=Option.some.inj hm
  exact end_flat (.inl rfl) (vs:=[(.int .i64 (0))]) (resT' (v:=(.int .i64 (0))) rfl resN) (fm_cons rfl fm_nil)
 ·replace hm:=cond_f hm g23
  refine tk_skip okM ?_
  refine n2 _ ?_
  refine tk_os okM hok fun J hJ=>?_
  obtain ⟨v25,ev25,hm⟩:=bind_s hm
  have a24:=z_cI c.ro H14 x0 b0 (IntKind.i64.wrap ((Sl.len x0) - 1)) v25 (h0.iv l0 (fun _=>by simp) i17) ev25
  simp only [C.f116r3,R,Nat.reduceEqDiff,h15,ln39,c_fn F151,a24]
  refine hJ _ ?_
  refine tk_ret okM ?_
  obtain rfl:=Option.some.inj hm
  exact end_flat (.inl rfl) (vs:=[(.int .i64 (v25))]) (resT' (v:=(.int .i64 (v25))) rfl resN) (fm_cons rfl fm_nil)
def b_du (n:Nat) (x0:Int) (x1:Int):Option (Int):=bif (decide (x0 < 0)) || (decide (x1 < 0)) then (some ((-1))) else (some (min (IntKind.i64.wrap (x0 + x1)) 1048576))
theorem w_hW {call:CallF} (hok:CallOk Mt call) {n:Nat} {H0:Hp} {x0:Int} {x1:Int} {r:Int} {ro:Nat} (hro:ro ≤ H0.length) (hm:b_du n x0 x1 = some r) :
  Pt Mt ro 117 [(.int .i64 x0),(.int .i64 x1)] H0 (.int .i64 (r)) H0 []:=by
 refine pt_new0 okM F117d (by exact Nat.le_of_ble_eq_true rfl) ?_ hro
 intro c hnt hnb hcr
 have hcn:c.ro ≤ c.nb:=by omega
 have iv:Iv c.nb [] H0 H0:=by rw [hnb]; exact iv_refl
 rw [show args0 [(.int .i64 x0),(.int .i64 x1)] = [(0,(.int .i64 x0)),(1,(.int .i64 x1))] from rfl]
 rw [b_du] at hm
 simp only [C.f117]
 refine tk_os okM hok fun J hJ=>?_
 simp only [C.f117r0,R,Nat.reduceEqDiff]
 refine hJ _ ?_
 refine tk_seq_k fun K n1 x2=>?_
 refine tk_os okM hok fun J hJ=>?_
 refine rn_k (fun ⟨σ,H,_⟩=>Lk σ 0 (.int .i64 (x0)) ∧ Lk σ 1 (.int .i64 (x1)) ∧ Lk σ 10 (.bool ((decide (x0 < 0)) || (decide (x1 < 0)))) ∧ Iv c.nb [] H0 H) (fun J hJ=>?_) ?_
 ·skip
  cases g8:decide (x0 < 0)
  ·skip
   simp only [C.f117r1,R,Nat.reduceEqDiff,g8]
   refine hJ _ ?_
   exact ⟨(by first | rfl | (simp only [g8]; rfl) | simp only [g8,Lk,RB,Nat.reduceEqDiff,not_false_eq_true]),(by first | rfl | (simp only [g8]; rfl) | simp only [g8,Lk,RB,Nat.reduceEqDiff,not_false_eq_true]),(by first | rfl | (simp only [g8]; rfl) | simp only [g8,Lk,RB,Nat.reduceEqDiff,not_false_eq_true]),iv⟩
  ·skip
   simp only [C.f117r1,R,Nat.reduceEqDiff,g8]
   refine hJ _ ?_
   exact ⟨(by first | rfl | (simp only [g8]; rfl) | simp only [g8,Lk,RB,Nat.reduceEqDiff,not_false_eq_true]),(by first | rfl | (simp only [g8]; rfl) | simp only [g8,Lk,RB,Nat.reduceEqDiff,not_false_eq_true]),(by first | rfl | (simp only [g8]; rfl) | simp only [g8,Lk,RB,Nat.reduceEqDiff,not_false_eq_true]),iv⟩
 rintro ⟨σ9,H3,d10⟩ ⟨h4,h5,h6,i7⟩
 refine hJ _ ?_
 refine tk_cond (t:=(decide (x0 < 0)) || (decide (x1 < 0))) h6 (fun g11=>?_) (fun g11=>?_)
 ·replace hm:=cond_t hm g11
  refine tk_os okM hok fun J hJ=>?_
  simp only [C.f117r2,R,Nat.reduceEqDiff]
  refine hJ _ ?_
  refine tk_ret okM ?_
  refine x2 _ _ (by simp) ?_
  obtain rfl:=Option.some.inj hm
  exact end_flat (.inl rfl) (vs:=[(.int .i64 ((-1)))]) (resT' (v:=(.int .i64 ((-1)))) rfl resN) (fm_cons rfl fm_nil)
 ·replace hm:=cond_f hm g11
  refine tk_skip okM ?_
  refine n1 _ ?_
  refine tk_os okM hok fun J hJ=>?_
  simp only [C.f117r3,R,Nat.reduceEqDiff,h4,h5]
  refine hJ _ ?_
  refine tk_ret okM ?_
  obtain rfl:=Option.some.inj hm
  exact end_flat (.inl rfl) (vs:=[(.int .i64 (min (IntKind.i64.wrap (x0 + x1)) 1048576))]) (resT' (v:=(.int .i64 (min (IntKind.i64.wrap (x0 + x1)) 1048576))) rfl resN) (fm_cons rfl fm_nil)
def b_dj (n:Nat) (x0:Int) (x1:Int):Option (Int):=bif (decide (x0 = 0)) || (decide (x1 = 0)) then (some 0) else (bif (decide (x0 < 0)) || (decide (x1 < 0)) then (some ((-1))) else (some (min (IntKind.i64.wrap (x0 * x1)) 1048576)))
theorem w_hl {call:CallF} (hok:CallOk Mt call) {n:Nat} {H0:Hp} {x0:Int} {x1:Int} {r:Int} {ro:Nat} (hro:ro ≤ H0.length) (hm:b_dj n x0 x1 = some r) :
  Pt Mt ro 118 [(.int .i64 x0),(.int .i64 x1)] H0 (.int .i64 (r)) H0 []:=by
 refine pt_new0 okM F118d (by exact Nat.le_of_ble_eq_true rfl) ?_ hro
 intro c hnt hnb hcr
 have hcn:c.ro ≤ c.nb:=by omega
 have iv:Iv c.nb [] H0 H0:=by rw [hnb]; exact iv_refl
 rw [show args0 [(.int .i64 x0),(.int .i64 x1)] = [(0,(.int .i64 x0)),(1,(.int .i64 x1))] from rfl]
 rw [b_dj] at hm
 simp only [C.f118]
 refine tk_os okM hok fun J hJ=>?_
 simp only [C.f118r0,R,Nat.reduceEqDiff]
 refine hJ _ ?_
 refine tk_seq_k fun K n1 x2=>?_
 refine tk_os okM hok fun J hJ=>?_
 refine rn_k (fun ⟨σ,H,_⟩=>Lk σ 0 (.int .i64 (x0)) ∧ Lk σ 1 (.int .i64 (x1)) ∧ Lk σ 10 (.bool ((decide (x0 = 0)) || (decide (x1 = 0)))) ∧ Iv c.nb [] H0 H) (fun J hJ=>?_) ?_
 ·skip
  cases g8:decide (x0 = 0)
  ·skip
   simp only [C.f118r1,R,Nat.reduceEqDiff,g8]
   refine hJ _ ?_
   exact ⟨(by first | rfl | (simp only [g8]; rfl) | simp only [g8,Lk,RB,Nat.reduceEqDiff,not_false_eq_true]),(by first | rfl | (simp only [g8]; rfl) | simp only [g8,Lk,RB,Nat.reduceEqDiff,not_false_eq_true]),(by first | rfl | (simp only [g8]; rfl) | simp only [g8,Lk,RB,Nat.reduceEqDiff,not_false_eq_true]),iv⟩
  ·skip
   simp only [C.f118r1,R,Nat.reduceEqDiff,g8]
   refine hJ _ ?_
   exact ⟨(by first | rfl | (simp only [g8]; rfl) | simp only [g8,Lk,RB,Nat.reduceEqDiff,not_false_eq_true]),(by first | rfl | (simp only [g8]; rfl) | simp only [g8,Lk,RB,Nat.reduceEqDiff,not_false_eq_true]),(by first | rfl | (simp only [g8]; rfl) | simp only [g8,Lk,RB,Nat.reduceEqDiff,not_false_eq_true]),iv⟩
 rintro ⟨σ9,H3,d10⟩ ⟨h4,h5,h6,i7⟩
 refine hJ _ ?_
 refine tk_cond (t:=(decide (x0 = 0)) || (decide (x1 = 0))) h6 (fun g11=>?_) (fun g11=>?_)
 ·replace hm:=cond_t hm g11
  refine tk_os okM hok fun J hJ=>?_
  simp only [C.f118r2,R,Nat.reduceEqDiff]
  refine hJ _ ?_
  refine tk_ret okM ?_
  refine x2 _ _ (by simp) ?_
  obtain rfl:=Option.some.inj hm
  exact end_flat (.inl rfl) (vs:=[(.int .i64 (0))]) (resT' (v:=(.int .i64 (0))) rfl resN) (fm_cons rfl fm_nil)
 ·replace hm:=cond_f hm g11
  refine tk_skip okM ?_
  refine n1 _ ?_
  refine tk_seq_k fun K n12 x13=>?_
  refine tk_os okM hok fun J hJ=>?_
  refine rn_k (fun ⟨σ,H,_⟩=>Lk σ 0 (.int .i64 (x0)) ∧ Lk σ 1 (.int .i64 (x1)) ∧ Lk σ 16 (.bool ((decide (x0 < 0)) || (decide (x1 < 0)))) ∧ Iv c.nb [] H0 H) (fun J hJ=>?_) ?_
  ·skip
   cases g19:decide (x0 < 0)
   ·skip
    simp only [C.f118r3,R,Nat.reduceEqDiff,h4,g19,h5]
    refine hJ _ ?_
    exact ⟨h4,h5,(by first | rfl | (simp only [g19]; rfl) | simp only [g19,Lk,RB,Nat.reduceEqDiff,not_false_eq_true]),i7⟩
   ·skip
    simp only [C.f118r3,R,Nat.reduceEqDiff,h4,g19]
    refine hJ _ ?_
    exact ⟨h4,h5,(by first | rfl | (simp only [g19]; rfl) | simp only [g19,Lk,RB,Nat.reduceEqDiff,not_false_eq_true]),i7⟩
  rintro ⟨σ20,H14,d21⟩ ⟨h15,h16,h17,i18⟩
  refine hJ _ ?_
  refine tk_cond (t:=(decide (x0 < 0)) || (decide (x1 < 0))) h17 (fun g22=>?_) (fun g22=>?_)
  ·replace hm:=cond_t hm g22
   refine tk_os okM hok fun J hJ=>?_
   simp only [C.f118r4,R,Nat.reduceEqDiff]
   refine hJ _ ?_
   refine tk_ret okM ?_
   refine x13 _ _ (by simp) ?_
   obtain rfl:=Option.some.inj hm
   exact end_flat (.inl rfl) (vs:=[(.int .i64 ((-1)))]) (resT' (v:=(.int .i64 ((-1)))) rfl resN) (fm_cons rfl fm_nil)
  ·replace hm:=cond_f hm g22
   refine tk_skip okM ?_
   refine n12 _ ?_
   refine tk_os okM hok fun J hJ=>?_
   simp only [C.f118r5,R,Nat.reduceEqDiff,h15,h16]
   refine hJ _ ?_
   refine tk_ret okM ?_
   obtain rfl:=Option.some.inj hm
   exact end_flat (.inl rfl) (vs:=[(.int .i64 (min (IntKind.i64.wrap (x0 * x1)) 1048576))]) (resT' (v:=(.int .i64 (min (IntKind.i64.wrap (x0 * x1)) 1048576))) rfl resN) (fm_cons rfl fm_nil)
def b_cL (n:Nat) (x0:S_a):Option (S_a):=some (S_a.w2 (S_a.w1 ({ x0 with f_Kind:=0 }) 0) 0)
theorem w_gF {call:CallF} (hok:CallOk Mt call) {n:Nat} {H0:Hp} {x0:S_a} {r:S_a} {ro:Nat} (hro:ro ≤ H0.length) (hm:b_cL n x0 = some r) :
  Pt Mt ro 124 [(vAgg (S_a.c x0))] H0 (vAgg (S_a.c (r))) H0 []:=by
 refine pt_new0 okM F124d (by exact Nat.le_of_ble_eq_true rfl) ?_ hro
 intro c hnt hnb hcr
 have hcn:c.ro ≤ c.nb:=by omega
 have iv:Iv c.nb [] H0 H0:=by rw [hnb]; exact iv_refl
 rw [show args0 [(vAgg (S_a.c x0))] = [(0,(vAgg (S_a.c x0)))] from rfl]
 rw [b_cL] at hm
 simp only [C.f124]
 refine tk_os okM hok fun J hJ=>?_
 obtain ⟨b1,H2,a3,f4,q5,r6,x7,i8⟩:=bx_ok (M:=Mt) (t:=72) (u:=(vAgg (S_a.c (x0)))) (cs:=S_a.c x0) H0 iv.le (by rw [S_a.enc.len]; exact T.sz72) vAgg_cells (S_a.enc.one _)
 have i9:=i8 _ _ iv
 obtain ⟨b11,H12,a13,f14,q15,r16,x17,i18⟩:=al_ok H2 72 (S_a.c S_a.zero) i9.le
 have i19:=i18 _ _ i9
 have f20:=x17 _ _ f4
 simp only [C.f124r0,R,Nat.reduceEqDiff,a3,zs72,a13]
 refine hJ _ ?_
 refine tk_os okM hok fun J hJ=>?_
 obtain ⟨H22,a23,f24,u25⟩:=st_ok (M:=Mt) (t:=3) (v:=(.int .i64 (0))) (c:=(cInt .i64) 0) (cs':=S_a.c ({ x0 with f_Kind:=0 })) f20 (by rw [enc_int.len]; exact T.sz3) rfl (enc_int.one _) (Nat.le_trans hcn r6) (Nat.le_trans (Nat.le_of_eq (congrArg _ (eqL enc_int.len))) (Seg.refl.sub (S_a.seg0 x0)).2) (by rw [Nat.zero_add,S_a.wr0 x0 0])
 have i26:=i19.up u25 r6
 have f27:=(u25.get _ (ne_len f4 q15).symm).trans f14
 obtain ⟨H28,a29,f30,u31⟩:=st_ok (M:=Mt) (t:=3) (v:=(.int .i64 (0))) (c:=(cInt .i64) 0) (cs':=S_a.c (S_a.w1 ({ x0 with f_Kind:=0 }) 0)) f24 (by rw [enc_int.len]; exact T.sz3) rfl (enc_int.one _) (Nat.le_trans hcn r6) (Nat.le_trans (Nat.le_of_eq (congrArg _ (eqL enc_int.len))) (Seg.refl.sub (S_a.seg1 ({ x0 with f_Kind:=0 }))).2) (by rw [Nat.zero_add,S_a.wr1 ({ x0 with f_Kind:=0 }) 0])
 have i32:=i26.up u31 r6
 have f33:=(u31.get _ (ne_len f4 q15).symm).trans f27
 obtain ⟨H34,a35,f36,u37⟩:=st_ok (M:=Mt) (t:=3) (v:=(.int .i64 (0))) (c:=(cInt .i64) 0) (cs':=S_a.c (S_a.w2 (S_a.w1 ({ x0 with f_Kind:=0 }) 0) 0)) f30 (by rw [enc_int.len]; exact T.sz3) rfl (enc_int.one _) (Nat.le_trans hcn r6) (Nat.le_trans (Nat.le_of_eq (congrArg _ (eqL enc_int.len))) (Seg.refl.sub (S_a.seg2 (S_a.w1 ({ x0 with f_Kind:=0 }) 0))).2) (by rw [Nat.zero_add,S_a.wr2 (S_a.w1 ({ x0 with f_Kind:=0 }) 0) 0])
 have i38:=i32.up u37 r6
 have f39:=(u37.get _ (ne_len f4 q15).symm).trans f33
 simp only [C.f124r1,R,Nat.reduceEqDiff,fa72_0,a23,fa72_1,a29,fa72_2,a35]
 refine hJ _ ?_
 refine tk_os okM hok fun J hJ=>?_
 have a40:=ld_agg (M:=Mt) (t:=72) f36 T.ag72 (by rw [S_a.enc.len]; exact T.sz72) Seg.refl
 obtain ⟨H41,a42,f43,u44⟩:=st_ok (M:=Mt) (t:=72) (v:=(vAgg (S_a.c (S_a.w2 (S_a.w1 ({ x0 with f_Kind:=0 }) 0) 0)))) (c:=S_a.c (S_a.w2 (S_a.w1 ({ x0 with f_Kind:=0 }) 0) 0)) (cs':=S_a.c (S_a.w2 (S_a.w1 ({ x0 with f_Kind:=0 }) 0) 0)) f39 (by rw [S_a.enc.len]; exact T.sz72) vAgg_cells (S_a.enc.one _) (Nat.le_trans hcn r16) (le0 S_a.enc.len) (wrs_all (eqL S_a.enc.len))
 have i45:=i38.up u44 r16
 have f46:=(u44.get _ (ne_len f4 q15)).trans f36
 simp only [C.f124r2,R,Nat.reduceEqDiff,a40,a42]
 refine hJ _ ?_
 refine tk_ret okM ?_
 obtain rfl:=Option.some.inj hm
 exact end_flat (.inl rfl) (vs:=[(vAgg (S_a.c (S_a.w2 (S_a.w1 ({ x0 with f_Kind:=0 }) 0) 0)))]) (resC' (v:=(vAgg (S_a.c (S_a.w2 (S_a.w1 ({ x0 with f_Kind:=0 }) 0) 0)))) rfl (ldv_of (ld_agg (M:=Mt) (t:=72) f43 T.ag72 (by rw [S_a.enc.len]; exact T.sz72) Seg.refl)) resN) (fm_cons (flat_agg S_a.enc _) fm_nil)
def b_E (c_4:T_cs) (n:Nat) (x0:(Sl S_a)) (x1:(Sl Int)):Nat → Int → Int → Option (Int)
 | 0,_,_=>none
 | k + 1,x7_9,x8_10=>bif decide (x8_10 < x7_9) then ((ck (Sl.l x0).length x8_10).bind fun j29=>(c_4 (Sl.nth x0 j29) x1).bind fun v34=>bif v34 then (some x8_10) else (b_E c_4 n x0 x1 k x7_9 (IntKind.i64.wrap (x8_10 + 1)))) else (some ((-1)))
def b_bx (c_4:T_cs) (n:Nat) (x0:(Sl S_a)) (x1:(Sl Int)):Option (Int):=b_E c_4 n x0 x1 n (Sl.len x0) 0
theorem w_eS {call:CallF} (hok:CallOk Mt call) {n:Nat} {c_4:T_cs} (z_f6:A_eC call c_4) {H0:Hp} {x0:(Sl S_a)} {b0:Nat} {x1:(Sl Int)} {b1:Nat} {s1:Nat} {r:Int} {ro:Nat} (hro:ro ≤ H0.length) (h0:SlH H0 S_a.c 72 x0 b0) (hb1:H0[b1]? = some (.cells [slV x1 s1] 100)) (h1:SlH H0 (cInt .i64) 3 x1 s1) (hm:b_bx c_4 n x0 x1 = some r) :
  Pt Mt ro 138 [(slV x0 b0),(.func (.func 105) [].toArray [(.pointer (some ⟨b1,0,none⟩))].toArray)] H0 (.int .i64 (r)) H0 []:=by
 refine pt_new0 okM F138d (by exact Nat.le_of_ble_eq_true rfl) ?_ hro
 intro c hnt hnb hcr
 have hcn:c.ro ≤ c.nb:=by omega
 have l0:x0 ≠ none → b0 < c.nb:=fun h=>by rw [hnb]; exact h0.lt h
 have lb1:b1 < c.nb:=by rw [hnb]; exact get_lt hb1
 have l1:x1 ≠ none → s1 < c.nb:=fun h=>by rw [hnb]; exact h1.lt h
 have iv:Iv c.nb [] H0 H0:=by rw [hnb]; exact iv_refl
 rw [show args0 [(slV x0 b0),(.func (.func 105) [].toArray [(.pointer (some ⟨b1,0,none⟩))].toArray)] = [(0,(slV x0 b0)),(1,(.func (.func 105) [].toArray [(.pointer (some ⟨b1,0,none⟩))].toArray))] from rfl]
 rw [b_bx] at hm
 simp only [C.f138,C.f138b0]
 refine tk_os okM hok fun J hJ=>?_
 simp only [C.f138r0,R,Nat.reduceEqDiff]
 refine hJ _ ?_
 refine tk_seq_k fun K n4 x5=>?_
 refine tk_os okM hok fun J hJ=>?_
 simp only [C.f138r1,R,Nat.reduceEqDiff,ln35]
 refine hJ _ ?_
 refine tk_block_k fun K n6 e7 x8=>?_
 refine tk_loop_k (n:=n) (fun k1 ⟨σ,H,_⟩=>∃ x7_9 x8_10,b_E c_4 n x0 x1 k1 x7_9 x8_10 = some r ∧ Lk σ 0 (slV x0 b0) ∧ Lk σ 1 (.func (.func 105) [].toArray [(.pointer (some ⟨b1,0,none⟩))].toArray) ∧ Lk σ 7 (.int .i64 x7_9) ∧ Lk σ 8 (.int .i64 x8_10) ∧ Iv c.nb [] H0 H) ?_ ?_ ?_
 ·exact ⟨Sl.len x0,0,hm,rfl,rfl,rfl,rfl,iv⟩
 ·rintro ⟨σ,H,d⟩ ⟨_,_,hm,_⟩
  cases hm
 ·intro k1 K n11 x12
  rintro ⟨σ19,H13,d20⟩ ⟨x7_9,x8_10,hm,h14,h15,h16,h17,i18⟩
  rw [b_E.eq_2] at hm
  refine tk_os okM hok fun J hJ=>?_
  simp only [C.f138r2,R,Nat.reduceEqDiff,h17,h16]
  refine hJ _ ?_
  refine tk_seq_k fun K n21 x22=>?_
  refine tk_cond (t:=decide (x8_10 < x7_9)) rfl (fun g23=>?_) (fun g23=>?_)
  ·replace hm:=cond_t hm g23
   refine tk_skip okM ?_
   refine n21 _ ?_
   refine tk_seq_k fun K n24 x25=>?_
   refine tk_block_k fun K n26 e27 x28=>?_
   refine tk_os okM hok fun J hJ=>?_
   simp only [C.f138r3,R,Nat.reduceEqDiff,h17]
   refine hJ _ ?_
   refine tk_os okM hok fun J hJ=>?_
   obtain ⟨j29,ej29,hm⟩:=bind_s hm
   obtain ⟨mm30,k31⟩:=(h0.iv l0 (fun _=>by simp) i18).blk (ck_lt ej29).1
   have a32:=lds_agg (M:=Mt) (t:=72) k31 T.ag72 (by rw [S_a.enc.len]; exact T.sz72) (seg_sl S_a.enc.len mm30 (ck_lt ej29).1)
   obtain ⟨v34,ev34,hm⟩:=bind_s hm
   have a33:=z_f6 c.ro H13 (Sl.nth x0 j29) x1 b1 s1 v34 ((i18.old b1 lb1 (by simp)).trans hb1) (h1.iv l1 (fun _=>by simp) i18) ev34
   simp only [C.f138r4,R,Nat.reduceEqDiff,h15,h14,ia35,ej29,a32,c_cl,cl_fn F105,List.toList_toArray,List.nil_append,List.append_nil,List.cons_append,a33]
   refine hJ _ ?_
   refine tk_cond (t:=v34) rfl (fun g35=>?_) (fun g35=>?_)
   ·replace hm:=cond_t hm g35
    refine tk_os okM hok fun J hJ=>?_
    simp only [C.f138r5,R,Nat.reduceEqDiff]
    refine hJ _ ?_
    refine tk_ret okM ?_
    refine x28 _ _ (by simp) (by simp) ?_
    refine x25 _ _ (by simp) ?_
    refine x12 _ _ (by simp) ?_
    refine x8 _ _ (by simp) (by simp) ?_
    refine x5 _ _ (by simp) ?_
    obtain rfl:=Option.some.inj hm
    exact end_flat (.inl rfl) (vs:=[(.int .i64 (x8_10))]) (resT' (v:=(.int .i64 (x8_10))) rfl resN) (fm_cons rfl fm_nil)
   ·replace hm:=cond_f hm g35
    refine tk_skip okM ?_
    refine n26 _ ?_
    refine n24 _ ?_
    refine tk_oe okM hok fun J hJ=>?_
    simp only [C.f138r6,R,Nat.reduceEqDiff,h17]
    refine hJ _ ?_
    refine n11 _ ?_
    exact ⟨x7_9,IntKind.i64.wrap (x8_10 + 1),hm,h14,h15,h16,rfl,i18⟩
  ·replace hm:=cond_f hm g23
   refine tk_exit okM ?_
   refine x22 _ _ (by simp) ?_
   refine x12 _ _ (by simp) ?_
   refine e7 _ ?_
   refine n4 _ ?_
   refine tk_os okM hok fun J hJ=>?_
   simp only [C.f138r7,R,Nat.reduceEqDiff]
   refine hJ _ ?_
   refine tk_ret okM ?_
   obtain rfl:=Option.some.inj hm
   exact end_flat (.inl rfl) (vs:=[(.int .i64 ((-1)))]) (resT' (v:=(.int .i64 ((-1)))) rfl resN) (fm_cons rfl fm_nil)
end Go.Proofs.YtaadjlpfdajggaaGreatDoor
