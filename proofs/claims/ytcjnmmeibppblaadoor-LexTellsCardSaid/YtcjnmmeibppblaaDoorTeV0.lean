import Derived.Test.YtcjnmmeibppblaaDoorTeBase
set_option maxRecDepth 100000
set_option linter.unusedVariables false
set_option linter.unusedSimpArgs false
namespace Go.Proofs.YtcjnmmeibppblaaDoor
open Go Go.AM
attribute [local congr] bind_first map_first
def b_law06_LexTells (c_lex_Lex:T_lex_Lex) (c_ref06_Lex:T_ref06_Lex) (c_ref06_Same:T_ref06_Same) (c_law06_Ref:T_law06_Ref) (c_law06_fixed:T_law06_fixed) (n:Nat) (x0:ByteArray):Option (Bool):=(sub x0 0 (min ((x0.size:Int)) 1100)).bind fun v1=>(c_lex_Lex v1).bind fun v3=>(c_ref06_Lex v1).bind fun v14=>(c_law06_Ref v3.1).bind fun v26=>(c_ref06_Same v26 v14.1).bind fun v39=>(bif v39 && (decide (v3.2 = v14.2)) then ((c_law06_fixed).bind fun v47=>some v47) else some false).bind fun y48=>some y48
theorem w_law06_LexTells {call:CallF} (hok:CallOk Mt call) {n:Nat} {c_lex_Lex:T_lex_Lex} (ha_lex_Lex:A_lex_Lex call c_lex_Lex) {c_ref06_Lex:T_ref06_Lex} (ha_ref06_Lex:A_ref06_Lex call c_ref06_Lex) {c_ref06_Same:T_ref06_Same} (ha_ref06_Same:A_ref06_Same call c_ref06_Same) {c_law06_Ref:T_law06_Ref} (ha_law06_Ref:A_law06_Ref call c_law06_Ref) {c_law06_fixed:T_law06_fixed} (ha_law06_fixed:A_law06_fixed call c_law06_fixed) {H0:Hp} {x0:ByteArray} {r:Bool} {ro:Nat} (hro:ro ≤ H0.length) (hm:b_law06_LexTells c_lex_Lex c_ref06_Lex c_ref06_Same c_law06_Ref c_law06_fixed n x0 = some r) (hG0:TabH0 H0) :
  Pt Mt ro 3 [(.string x0)] H0 (.bool (r)) H0 []:=by
 refine pt_new0 okM F3d (by exact Nat.le_of_ble_eq_true rfl) ?_ hro
 intro c hnt hnb hcr
 have hcn:c.ro ≤ c.nb:=by omega
 have iv:Iv c.nb [] H0 H0:=by rw [hnb]; exact iv_refl
 rw [show args0 [(.string x0)] = [(0,(.string x0))] from rfl]
 rw [b_law06_LexTells] at hm
 simp only [C.f3]
 refine tk_os okM hok fun J hJ=>?_
 simp only [C.f3r0,R,Nat.reduceEqDiff]
 refine hJ _ ?_
 refine tk_os okM hok fun J hJ=>?_
 obtain ⟨v1,ev1,hm⟩:=bind_s hm
 simp only [C.f3r1,R,Nat.reduceEqDiff,len_str (M:=Mt) Tryd.underlying9,sl_str3 (M:=Mt) Tryd.underlying9,ev1]
 refine hJ _ ?_
 refine tk_os okM hok fun J hJ=>?_
 obtain ⟨v3,ev3,hm⟩:=bind_s hm
 have a2:=ha_lex_Lex c.ro H0 v1 v3 (tabIv0 iv hnb hG0) ev3
 obtain ⟨H4,q5⟩:∃ x,x = H0 ++ slB lex_Token.c 46 v3.1:=⟨_,rfl⟩
 obtain ⟨b6,q7⟩:∃ b,b = H0.length:=⟨_,rfl⟩
 rw [← q5,← q7] at a2
 have x11:Ex H0 H4:=by rw [q5]; exact ex_app
 have i9:Iv c.nb [] H0 H4:=by rw [q5]; exact iv.app
 have f8:SlO c.nb H4 lex_Token.c 46 v3.1 b6:=by rw [q5,q7]; exact slB_own iv.le
 have r10:c.nb ≤ b6:=by rw [q7]; exact iv.le
 simp only [C.f3r2,R,Nat.reduceEqDiff,c_fn F10,a2]
 refine hJ _ ?_
 refine tk_os okM hok fun J hJ=>?_
 obtain ⟨v14,ev14,hm⟩:=bind_s hm
 have a13:=ha_ref06_Lex c.ro H4 v1 v14 ev14
 obtain ⟨H15,q16⟩:∃ x,x = H4 ++ slB ref06_Token.c 59 v14.1:=⟨_,rfl⟩
 obtain ⟨b17,q18⟩:∃ b,b = H4.length:=⟨_,rfl⟩
 rw [← q16,← q18] at a13
 have x22:Ex H4 H15:=by rw [q16]; exact ex_app
 have i20:Iv c.nb [] H0 H15:=by rw [q16]; exact i9.app
 have f19:SlO c.nb H15 ref06_Token.c 59 v14.1 b17:=by rw [q16,q18]; exact slB_own i9.le
 have r21:c.nb ≤ b17:=by rw [q18]; exact i9.le
 have f23:=f8.ex x22
 simp only [C.f3r3,R,Nat.reduceEqDiff,c_fn F11,a13]
 refine hJ _ ?_
 refine tk_os okM hok fun J hJ=>?_
 rw [C.f3r4]
 obtain ⟨v26,ev26,hm⟩:=bind_s hm
 have a25:=ha_law06_Ref c.ro H15 v3.1 b6 v26 f23.h ev26
 obtain ⟨H27,q28⟩:∃ x,x = H15 ++ slB ref06_Token.c 59 v26:=⟨_,rfl⟩
 obtain ⟨b29,q30⟩:∃ b,b = H15.length:=⟨_,rfl⟩
 rw [← q28,← q30] at a25
 have x34:Ex H15 H27:=by rw [q28]; exact ex_app
 have i32:Iv c.nb [] H0 H27:=by rw [q28]; exact i20.app
 have f31:SlO c.nb H27 ref06_Token.c 59 v26 b29:=by rw [q28,q30]; exact slB_own i20.le
 have r33:c.nb ≤ b29:=by rw [q30]; exact i20.le
 have f35:=f23.ex x34
 have f36:=f19.ex x34
 obtain ⟨v39,ev39,hm⟩:=bind_s hm
 have a38:=ha_ref06_Same c.ro H27 v26 b29 v14.1 b17 v39 f31.h f36.h ev39
 refine rn_app_k (fun ⟨σ,H,_⟩=>Lk σ 30 (.bool (v39 && (decide (v3.2 = v14.2)))) ∧ Iv c.nb [] H0 H) (fun J hJ=>?_) ?_
 ·skip
  cases g43:v39
  ·skip
   simp only [C.f3r4p0,R,Nat.reduceEqDiff,c_fn F13,a25,c_fn F12,a38,g43]
   refine hJ _ ?_
   exact ⟨(by first | rfl | (simp only [g43]; rfl) | simp only [g43,Lk,RB,Nat.reduceEqDiff,not_false_eq_true]),i32⟩
  ·skip
   simp only [C.f3r4p0,R,Nat.reduceEqDiff,c_fn F13,a25,c_fn F12,a38,g43]
   refine hJ _ ?_
   exact ⟨(by first | rfl | (simp only [g43]; rfl) | simp only [g43,Lk,RB,Nat.reduceEqDiff,not_false_eq_true]),i32⟩
 rintro ⟨σ44,H40,d45⟩ ⟨h41,i42⟩
 obtain ⟨y48,ey48,hm⟩:=bind_s hm
 refine rn_app_k (fun ⟨σ,H,_⟩=>Lk σ 33 (.bool (y48)) ∧ Iv c.nb [] H0 H) (fun J hJ=>?_) ?_
 ·skip
  cases g52:v39 && (decide (v3.2 = v14.2))
  ·skip
   have ey48:=cond_f ey48 g52
   obtain rfl:=Option.some.inj ey48
   simp only [C.f3r4p1,R,Nat.reduceEqDiff,h41,g52]
   refine hJ _ ?_
   exact ⟨(by first | rfl | (simp only [g52]; rfl) | simp only [g52,Lk,RB,Nat.reduceEqDiff,not_false_eq_true]),i42⟩
  ·skip
   have ey48:=cond_t ey48 g52
   obtain ⟨v54,ev54,ey48⟩:=bind_s ey48
   have a53:=ha_law06_fixed c.ro H40  v54 (tabIv0 i42 hnb hG0) ev54
   obtain rfl:=Option.some.inj ey48
   simp only [C.f3r4p1,R,Nat.reduceEqDiff,h41,g52,c_fn F14,a53]
   refine hJ _ ?_
   exact ⟨(by first | rfl | (simp only [g52]; rfl) | simp only [g52,Lk,RB,Nat.reduceEqDiff,not_false_eq_true]),i42⟩
 rintro ⟨σ55,H49,d56⟩ ⟨h50,i51⟩
 simp only [C.f3r4p2,R,Nat.reduceEqDiff,h50]
 refine hJ _ ?_
 refine tk_ret okM ?_
 obtain rfl:=Option.some.inj hm
 exact end_flat (.inl rfl) (vs:=[(.bool (y48))]) (resT' (v:=(.bool (y48))) rfl resN) (fm_cons rfl fm_nil)
def b_lex_Lex_1 (c_lex_token:T_lex_token) (n:Nat):Nat → ByteArray → Sl lex_Token → Option ((Sl lex_Token) × Int)
 | 0,_,_=>none
 | k + 1,x0_9,l10=>bif !decide (x0_9 = ((⟨#[]⟩:ByteArray))) then ((c_lex_token x0_9).bind fun v29=>bif !decide (v29.2.2 = 0) then (some (none,v29.2.2)) else ((Sl.app 88 l10 (some ([v29.1]:List lex_Token))).bind fun v63=>(sub x0_9 v29.2.1 x0_9.size).bind fun v75=>b_lex_Lex_1 c_lex_token n k v75 v63)) else (some (l10,0))
def b_lex_Lex (c_lex_token:T_lex_token) (n:Nat) (x0:ByteArray):Option ((Sl lex_Token) × Int):=bif decide (1000 < ((x0.size:Int))) then (some (none,4)) else (b_lex_Lex_1 c_lex_token n n x0 none)
theorem w_lex_Lex {call:CallF} (hok:CallOk Mt call) {n:Nat} {c_lex_token:T_lex_token} (ha_lex_token:A_lex_token call c_lex_token) {H0:Hp} {x0:ByteArray} {r:(Sl lex_Token) × Int} {ro:Nat} (hro:ro ≤ H0.length) (hm:b_lex_Lex c_lex_token n x0 = some r) (hG0:TabH0 H0) :
  Pt Mt ro 10 [(.string x0)] H0 (.tuple [(slV r.1 H0.length),(.int .i64 (r.2))].toArray) (H0 ++ slB lex_Token.c 46 r.1) []:=by
 refine pt_new okM F10d (by exact Nat.le_of_ble_eq_true rfl) ?_ hro
 intro c hnt hnb hcr
 have hcn:c.ro ≤ c.nb:=by omega
 have iv:Iv c.nb [] H0 H0:=by rw [hnb]; exact iv_refl
 rw [show args0 [(.string x0)] = [(0,(.string x0))] from rfl]
 rw [b_lex_Lex] at hm
 simp only [C.f10,C.f10b0]
 refine tk_os okM hok fun J hJ=>?_
 simp only [C.f10r0,R,Nat.reduceEqDiff]
 refine hJ _ ?_
 refine tk_seq_k fun K n1 x2=>?_
 refine tk_os okM hok fun J hJ=>?_
 simp only [C.f10r1,R,Nat.reduceEqDiff,len_str (M:=Mt) Tryd.underlying9]
 refine hJ _ ?_
 refine tk_cond (t:=decide (1000 < ((x0.size:Int)))) rfl (fun g3=>?_) (fun g3=>?_)
 ·replace hm:=cond_t hm g3
  refine tk_os okM hok fun J hJ=>?_
  simp only [C.f10r2,R,Nat.reduceEqDiff]
  refine hJ _ ?_
  refine tk_ret okM ?_
  refine x2 _ _ (by simp) ?_
  obtain rfl:=Option.some.inj hm
  exact end_sl1 (P:=Mt.P) (rs:=[(.tmp 2),(.tmp 3)]) (pre:=[]) (post:=[(.int .i64 (4))]) (x:=none) (b:=0) (nb:=H0.length) (.inl rfl) (by rw [← hnb]; exact (slO_nil (c:=lex_Token.c) (e:=46))) lex_Token.enc fm_nil (fm_cons rfl fm_nil) (resT' (v:=(.slice none 0 0)) rfl (resT' (v:=(.int .i64 (4))) rfl resN))
 ·replace hm:=cond_f hm g3
  refine tk_skip okM ?_
  refine n1 _ ?_
  refine tk_os okM hok fun J hJ=>?_
  simp only [C.f10r3,R,Nat.reduceEqDiff]
  refine hJ _ ?_
  refine tk_seq_k fun K n4 x5=>?_
  refine tk_block_k fun K n6 e7 x8=>?_
  refine tk_loop_k (n:=n) (fun k1 ⟨σ,H,_⟩=>∃ x0_9 l10 b11,b_lex_Lex_1 c_lex_token n k1 x0_9 l10 = some r ∧ Lk σ 0 (.string x0_9) ∧ Lk σ 4 (slV l10 b11) ∧ SlO c.nb H lex_Token.c 46 l10 b11 ∧ Iv c.nb [] H0 H) ?_ ?_ ?_
  ·exact ⟨x0,none,0,hm,rfl,rfl,slO_nil,iv⟩
  ·rintro ⟨σ,H,d⟩ ⟨_,_,_,hm,_⟩
   cases hm
  ·intro k1 K n12 x13
   rintro ⟨σ20,H14,d21⟩ ⟨x0_9,l10,b11,hm,h16,h17,f18,i19⟩
   rw [b_lex_Lex_1.eq_2] at hm
   refine tk_seq_k fun K n22 x23=>?_
   refine tk_os okM hok fun J hJ=>?_
   simp only [C.f10r4,R,Nat.reduceEqDiff,h16]
   refine hJ _ ?_
   refine tk_cond (t:=!decide (x0_9 = ((⟨#[]⟩:ByteArray)))) rfl (fun g24=>?_) (fun g24=>?_)
   ·replace hm:=cond_t hm g24
    refine tk_skip okM ?_
    refine n22 _ ?_
    refine tk_block_k fun K n25 e26 x27=>?_
    refine tk_os okM hok fun J hJ=>?_
    obtain ⟨v29,ev29,hm⟩:=bind_s hm
    have a28:=ha_lex_token c.ro H14 x0_9 v29 (tabIv0 i19 hnb hG0) ev29
    obtain ⟨b30,H31,a32,f33,q34,r35,x36,i37⟩:=al_ok H14 46 (lex_Token.c lex_Token.zero) i19.le
    have i38:=i37 _ _ i19
    have f39:=f18.ex x36
    obtain ⟨H41,a42,f43,u44⟩:=st_ok (M:=Mt) (t:=46) (v:=(vAgg (lex_Token.c (v29.1)))) (c:=lex_Token.c v29.1) (cs':=lex_Token.c v29.1) f33 (by rw [lex_Token.enc.len]; exact T.sz46) vAgg_cells (lex_Token.enc.one _) (Nat.le_trans hcn r35) (le0 lex_Token.enc.len) (wrs_all (eqL lex_Token.enc.len))
    have i45:=i38.up u44 r35
    have f46:=f39.up u44 (f18.h.ne q34)
    simp only [C.f10r5,R,Nat.reduceEqDiff,h16,c_fn F23,a28,zs46,a32,a42]
    refine hJ _ ?_
    refine tk_seq_k fun K n47 x48=>?_
    refine tk_os okM hok fun J hJ=>?_
    simp only [C.f10r6,R,Nat.reduceEqDiff]
    refine hJ _ ?_
    refine tk_cond (t:=!decide (v29.2.2 = 0)) rfl (fun g49=>?_) (fun g49=>?_)
    ·replace hm:=cond_t hm g49
     refine tk_os okM hok fun J hJ=>?_
     simp only [C.f10r7,R,Nat.reduceEqDiff]
     refine hJ _ ?_
     refine tk_ret okM ?_
     refine x48 _ _ (by simp) ?_
     refine x27 _ _ (by simp) (by simp) ?_
     refine x13 _ _ (by simp) ?_
     refine x8 _ _ (by simp) (by simp) ?_
     refine x5 _ _ (by simp) ?_
     obtain rfl:=Option.some.inj hm
     exact end_sl1 (P:=Mt.P) (rs:=[(.tmp 2),(.tmp 3)]) (pre:=[]) (post:=[(.int .i64 (v29.2.2))]) (x:=none) (b:=0) (nb:=H0.length) (.inl rfl) (by rw [← hnb]; exact (slO_nil (c:=lex_Token.c) (e:=46))) lex_Token.enc fm_nil (fm_cons rfl fm_nil) (resT' (v:=(.slice none 0 0)) rfl (resT' (v:=(.int .i64 (v29.2.2))) rfl resN))
    ·replace hm:=cond_f hm g49
     refine tk_skip okM ?_
     refine n47 _ ?_
     refine tk_oe okM hok fun J hJ=>?_
     have a50:=ld_agg (M:=Mt) (t:=46) f43 T.ag46 (by rw [lex_Token.enc.len]; exact T.sz46) Seg.refl
     obtain ⟨b51,H52,a53,f54,q55,r56,x57,i58⟩:=bs_ok (M:=Mt) (t:=22) (e:=46) (c:=lex_Token.c) (l:=([v29.1]:List lex_Token)) (ps:=[(0,(vAgg (lex_Token.c (v29.1))))]) (n:=1) H41 i45.le Tryd.underlying22 (zs46) rfl (by simp only [lex_Token.enc.len,List.length_cons,List.length_nil]; decide) (fun _=>by rw [lex_Token.enc.len,lex_Token.enc.len]) lex_Token.enc.one rfl rfl
     have i59:=i58 _ _ i45
     have f60:=f46.ex x57
     have f61:=x57 _ _ f43
     obtain ⟨v63,ev63,hm⟩:=bind_s hm
     obtain ⟨b64,H65,a66,f67,mv68,i69,nw70⟩:=app_ok (M:=Mt) (t:=22) (u:=22) (nb:=c.nb) (x:=l10) (y:=some ([v29.1]:List lex_Token)) (b:=b11) (b2:=b51) Tryd.underlying22 Tryd.underlying22 T.sz46 T.by46 zs46 (by decide) (by decide) lex_Token.enc.len lex_Token.enc.one i59.le hcn f60 f54.h ev63
     have i71:=i69 _ _ i59
     have n72:=nw70 b30 (get_lt f61) (f18.h.ne q34)
     have f73:=mv68.2 _ _ (fun h=>((f18.h.ne q34) h).symm) f61
     obtain ⟨v75,ev75,hm⟩:=bind_s hm
     simp only [C.f10r8,R,Nat.reduceEqDiff,h17,a50,a53,a66,h16,sl_str (M:=Mt) Tryd.underlying9,ev75]
     refine hJ _ ?_
     refine n25 _ ?_
     refine n12 _ ?_
     exact ⟨v75,v63,b64,hm,rfl,rfl,f67,i71⟩
   ·replace hm:=cond_f hm g24
    refine tk_exit okM ?_
    refine x23 _ _ (by simp) ?_
    refine x13 _ _ (by simp) ?_
    refine e7 _ ?_
    refine n4 _ ?_
    refine tk_os okM hok fun J hJ=>?_
    simp only [C.f10r9,R,Nat.reduceEqDiff,h17]
    refine hJ _ ?_
    refine tk_ret okM ?_
    obtain rfl:=Option.some.inj hm
    exact end_sl1 (P:=Mt.P) (rs:=[(.tmp 2),(.tmp 3)]) (pre:=[]) (post:=[(.int .i64 (0))]) (x:=l10) (b:=b11) (nb:=H0.length) (.inl rfl) (by rw [← hnb]; exact f18) lex_Token.enc fm_nil (fm_cons rfl fm_nil) (resT' (v:=(slV l10 b11)) rfl (resT' (v:=(.int .i64 (0))) rfl resN))
def b_ref06_Lex_1 (c_ref06_token:T_ref06_token) (n:Nat):Nat → ByteArray → Sl ref06_Token → Int → Option ((Sl ref06_Token) × Int)
 | 0,_,_,_=>none
 | k + 1,x0_19,l20,x5_22=>bif decide (x5_22 < ((x0_19.size:Int))) then ((c_ref06_token x0_19 x5_22).bind fun v41=>bif !decide (v41.2.2 = 0) then (some (none,v41.2.2)) else ((Sl.app 88 l20 (some ([v41.1]:List ref06_Token))).bind fun v75=>b_ref06_Lex_1 c_ref06_token n k x0_19 v75 v41.2.1)) else (some (l20,0))
def b_ref06_Lex (c_ref06_token:T_ref06_token) (n:Nat) (x0:ByteArray):Option ((Sl ref06_Token) × Int):=bif decide (1000 < ((x0.size:Int))) then (some (none,4)) else (b_ref06_Lex_1 c_ref06_token n n x0 (some ([]:List ref06_Token)) 0)
theorem w_ref06_Lex {call:CallF} (hok:CallOk Mt call) {n:Nat} {c_ref06_token:T_ref06_token} (ha_ref06_token:A_ref06_token call c_ref06_token) {H0:Hp} {x0:ByteArray} {r:(Sl ref06_Token) × Int} {ro:Nat} (hro:ro ≤ H0.length) (hm:b_ref06_Lex c_ref06_token n x0 = some r) :
  Pt Mt ro 11 [(.string x0)] H0 (.tuple [(slV r.1 H0.length),(.int .i64 (r.2))].toArray) (H0 ++ slB ref06_Token.c 59 r.1) []:=by
 refine pt_new okM F11d (by exact Nat.le_of_ble_eq_true rfl) ?_ hro
 intro c hnt hnb hcr
 have hcn:c.ro ≤ c.nb:=by omega
 have iv:Iv c.nb [] H0 H0:=by rw [hnb]; exact iv_refl
 rw [show args0 [(.string x0)] = [(0,(.string x0))] from rfl]
 rw [b_ref06_Lex] at hm
 simp only [C.f11,C.f11b0]
 refine tk_os okM hok fun J hJ=>?_
 simp only [C.f11r0,R,Nat.reduceEqDiff]
 refine hJ _ ?_
 refine tk_seq_k fun K n1 x2=>?_
 refine tk_os okM hok fun J hJ=>?_
 simp only [C.f11r1,R,Nat.reduceEqDiff,len_str (M:=Mt) Tryd.underlying9]
 refine hJ _ ?_
 refine tk_cond (t:=decide (1000 < ((x0.size:Int)))) rfl (fun g3=>?_) (fun g3=>?_)
 ·replace hm:=cond_t hm g3
  refine tk_os okM hok fun J hJ=>?_
  simp only [C.f11r2,R,Nat.reduceEqDiff]
  refine hJ _ ?_
  refine tk_ret okM ?_
  refine x2 _ _ (by simp) ?_
  obtain rfl:=Option.some.inj hm
  exact end_sl1 (P:=Mt.P) (rs:=[(.tmp 2),(.tmp 3)]) (pre:=[]) (post:=[(.int .i64 (4))]) (x:=none) (b:=0) (nb:=H0.length) (.inl rfl) (by rw [← hnb]; exact (slO_nil (c:=ref06_Token.c) (e:=59))) ref06_Token.enc fm_nil (fm_cons rfl fm_nil) (resT' (v:=(.slice none 0 0)) rfl (resT' (v:=(.int .i64 (4))) rfl resN))
 ·replace hm:=cond_f hm g3
  refine tk_skip okM ?_
  refine n1 _ ?_
  refine tk_os okM hok fun J hJ=>?_
  obtain ⟨b4,H5,a6,f7,q8,r9,x10,i11⟩:=bs_ok (M:=Mt) (t:=26) (e:=59) (c:=ref06_Token.c) (l:=([]:List ref06_Token)) (ps:=[]) (n:=0) H0 iv.le Tryd.underlying26 (zs59) rfl (by simp only [ref06_Token.enc.len,List.length_cons,List.length_nil]; decide) (fun _=>by rw [ref06_Token.enc.len,ref06_Token.enc.len]) ref06_Token.enc.one rfl rfl
  have i12:=i11 _ _ iv
  simp only [C.f11r3,R,Nat.reduceEqDiff,a6]
  refine hJ _ ?_
  refine tk_seq_k fun K n14 x15=>?_
  refine tk_block_k fun K n16 e17 x18=>?_
  refine tk_loop_k (n:=n) (fun k1 ⟨σ,H,_⟩=>∃ x0_19 l20 x5_22 b21,b_ref06_Lex_1 c_ref06_token n k1 x0_19 l20 x5_22 = some r ∧ Lk σ 0 (.string x0_19) ∧ Lk σ 4 (slV l20 b21) ∧ Lk σ 5 (.int .i64 x5_22) ∧ SlO c.nb H ref06_Token.c 59 l20 b21 ∧ Iv c.nb [] H0 H) ?_ ?_ ?_
  ·exact ⟨x0,some ([]:List ref06_Token),0,b4,hm,rfl,rfl,rfl,f7,i12⟩
  ·rintro ⟨σ,H,d⟩ ⟨_,_,_,_,hm,_⟩
   cases hm
  ·intro k1 K n23 x24
   rintro ⟨σ32,H25,d33⟩ ⟨x0_19,l20,x5_22,b21,hm,h27,h28,h29,f30,i31⟩
   rw [b_ref06_Lex_1.eq_2] at hm
   refine tk_seq_k fun K n34 x35=>?_
   refine tk_os okM hok fun J hJ=>?_
   simp only [C.f11r4,R,Nat.reduceEqDiff,h29,h27,len_str (M:=Mt) Tryd.underlying9]
   refine hJ _ ?_
   refine tk_cond (t:=decide (x5_22 < ((x0_19.size:Int)))) rfl (fun g36=>?_) (fun g36=>?_)
   ·replace hm:=cond_t hm g36
    refine tk_skip okM ?_
    refine n34 _ ?_
    refine tk_block_k fun K n37 e38 x39=>?_
    refine tk_os okM hok fun J hJ=>?_
    obtain ⟨v41,ev41,hm⟩:=bind_s hm
    have a40:=ha_ref06_token c.ro H25 x0_19 x5_22 v41 ev41
    obtain ⟨b42,H43,a44,f45,q46,r47,x48,i49⟩:=al_ok H25 59 (ref06_Token.c ref06_Token.zero) i31.le
    have i50:=i49 _ _ i31
    have f51:=f30.ex x48
    obtain ⟨H53,a54,f55,u56⟩:=st_ok (M:=Mt) (t:=59) (v:=(vAgg (ref06_Token.c (v41.1)))) (c:=ref06_Token.c v41.1) (cs':=ref06_Token.c v41.1) f45 (by rw [ref06_Token.enc.len]; exact T.sz59) vAgg_cells (ref06_Token.enc.one _) (Nat.le_trans hcn r47) (le0 ref06_Token.enc.len) (wrs_all (eqL ref06_Token.enc.len))
    have i57:=i50.up u56 r47
    have f58:=f51.up u56 (f30.h.ne q46)
    simp only [C.f11r5,R,Nat.reduceEqDiff,h27,h29,c_fn F24,a40,zs59,a44,a54]
    refine hJ _ ?_
    refine tk_seq_k fun K n59 x60=>?_
    refine tk_os okM hok fun J hJ=>?_
    simp only [C.f11r6,R,Nat.reduceEqDiff]
    refine hJ _ ?_
    refine tk_cond (t:=!decide (v41.2.2 = 0)) rfl (fun g61=>?_) (fun g61=>?_)
    ·replace hm:=cond_t hm g61
     refine tk_os okM hok fun J hJ=>?_
     simp only [C.f11r7,R,Nat.reduceEqDiff]
     refine hJ _ ?_
     refine tk_ret okM ?_
     refine x60 _ _ (by simp) ?_
     refine x39 _ _ (by simp) (by simp) ?_
     refine x24 _ _ (by simp) ?_
     refine x18 _ _ (by simp) (by simp) ?_
     refine x15 _ _ (by simp) ?_
     obtain rfl:=Option.some.inj hm
     exact end_sl1 (P:=Mt.P) (rs:=[(.tmp 2),(.tmp 3)]) (pre:=[]) (post:=[(.int .i64 (v41.2.2))]) (x:=none) (b:=0) (nb:=H0.length) (.inl rfl) (by rw [← hnb]; exact (slO_nil (c:=ref06_Token.c) (e:=59))) ref06_Token.enc fm_nil (fm_cons rfl fm_nil) (resT' (v:=(.slice none 0 0)) rfl (resT' (v:=(.int .i64 (v41.2.2))) rfl resN))
    ·replace hm:=cond_f hm g61
     refine tk_skip okM ?_
     refine n59 _ ?_
     refine tk_os okM hok fun J hJ=>?_
     have a62:=ld_agg (M:=Mt) (t:=59) f55 T.ag59 (by rw [ref06_Token.enc.len]; exact T.sz59) Seg.refl
     obtain ⟨b63,H64,a65,f66,q67,r68,x69,i70⟩:=bs_ok (M:=Mt) (t:=26) (e:=59) (c:=ref06_Token.c) (l:=([v41.1]:List ref06_Token)) (ps:=[(0,(vAgg (ref06_Token.c (v41.1))))]) (n:=1) H53 i57.le Tryd.underlying26 (zs59) rfl (by simp only [ref06_Token.enc.len,List.length_cons,List.length_nil]; decide) (fun _=>by rw [ref06_Token.enc.len,ref06_Token.enc.len]) ref06_Token.enc.one rfl rfl
     have i71:=i70 _ _ i57
     have f72:=f58.ex x69
     have f73:=x69 _ _ f55
     obtain ⟨v75,ev75,hm⟩:=bind_s hm
     obtain ⟨b76,H77,a78,f79,mv80,i81,nw82⟩:=app_ok (M:=Mt) (t:=26) (u:=26) (nb:=c.nb) (x:=l20) (y:=some ([v41.1]:List ref06_Token)) (b:=b21) (b2:=b63) Tryd.underlying26 Tryd.underlying26 T.sz59 T.by59 zs59 (by decide) (by decide) ref06_Token.enc.len ref06_Token.enc.one i71.le hcn f72 f66.h ev75
     have i83:=i81 _ _ i71
     have n84:=nw82 b42 (get_lt f73) (f30.h.ne q46)
     have f85:=mv80.2 _ _ (fun h=>((f30.h.ne q46) h).symm) f73
     simp only [C.f11r8,R,Nat.reduceEqDiff,h28,a62,a65,a78]
     refine hJ _ ?_
     refine tk_oe okM hok fun J hJ=>?_
     simp only [C.f11r9,R,Nat.reduceEqDiff]
     refine hJ _ ?_
     refine n37 _ ?_
     refine n23 _ ?_
     exact ⟨x0_19,v75,v41.2.1,b76,hm,h27,rfl,rfl,f79,i83⟩
   ·replace hm:=cond_f hm g36
    refine tk_exit okM ?_
    refine x35 _ _ (by simp) ?_
    refine x24 _ _ (by simp) ?_
    refine e17 _ ?_
    refine n14 _ ?_
    refine tk_os okM hok fun J hJ=>?_
    simp only [C.f11r10,R,Nat.reduceEqDiff,h28]
    refine hJ _ ?_
    refine tk_ret okM ?_
    obtain rfl:=Option.some.inj hm
    exact end_sl1 (P:=Mt.P) (rs:=[(.tmp 2),(.tmp 3)]) (pre:=[]) (post:=[(.int .i64 (0))]) (x:=l20) (b:=b21) (nb:=H0.length) (.inl rfl) (by rw [← hnb]; exact f30) ref06_Token.enc fm_nil (fm_cons rfl fm_nil) (resT' (v:=(slV l20 b21)) rfl (resT' (v:=(.int .i64 (0))) rfl resN))
def b_ref06_Same_1 (n:Nat) (x0:(Sl ref06_Token)) (x1:(Sl ref06_Token)):Nat → Int → Option (Bool)
 | 0,_=>none
 | k + 1,x5_11=>bif decide (x5_11 < (Sl.len x0)) then ((ck (Sl.l x0).length x5_11).bind fun j29=>(ck (Sl.l x1).length x5_11).bind fun j33=>bif !decide ((Sl.nth x0 j29) = (Sl.nth x1 j33)) then (some false) else (b_ref06_Same_1 n x0 x1 k (IntKind.i64.wrap (x5_11 + 1)))) else (some true)
def b_ref06_Same (n:Nat) (x0:(Sl ref06_Token)) (x1:(Sl ref06_Token)):Option (Bool):=bif !decide ((Sl.len x0) = (Sl.len x1)) then (some false) else (b_ref06_Same_1 n x0 x1 n 0)
theorem w_ref06_Same {call:CallF} (hok:CallOk Mt call) {n:Nat} {H0:Hp} {x0:(Sl ref06_Token)} {b0:Nat} {x1:(Sl ref06_Token)} {b1:Nat} {r:Bool} {ro:Nat} (hro:ro ≤ H0.length) (h0:SlH H0 ref06_Token.c 59 x0 b0) (h1:SlH H0 ref06_Token.c 59 x1 b1) (hm:b_ref06_Same n x0 x1 = some r) :
  Pt Mt ro 12 [(slV x0 b0),(slV x1 b1)] H0 (.bool (r)) H0 []:=by
 refine pt_new0 okM F12d (by exact Nat.le_of_ble_eq_true rfl) ?_ hro
 intro c hnt hnb hcr
 have hcn:c.ro ≤ c.nb:=by omega
 have l0:x0 ≠ none → b0 < c.nb:=fun h=>by rw [hnb]; exact h0.lt h
 have l1:x1 ≠ none → b1 < c.nb:=fun h=>by rw [hnb]; exact h1.lt h
 have iv:Iv c.nb [] H0 H0:=by rw [hnb]; exact iv_refl
 rw [show args0 [(slV x0 b0),(slV x1 b1)] = [(0,(slV x0 b0)),(1,(slV x1 b1))] from rfl]
 rw [b_ref06_Same] at hm
 simp only [C.f12,C.f12b0]
 refine tk_os okM hok fun J hJ=>?_
 simp only [C.f12r0,R,Nat.reduceEqDiff]
 refine hJ _ ?_
 refine tk_seq_k fun K n3 x4=>?_
 refine tk_os okM hok fun J hJ=>?_
 simp only [C.f12r1,R,Nat.reduceEqDiff,ln26]
 refine hJ _ ?_
 refine tk_cond (t:=!decide ((Sl.len x0) = (Sl.len x1))) rfl (fun g5=>?_) (fun g5=>?_)
 ·replace hm:=cond_t hm g5
  refine tk_os okM hok fun J hJ=>?_
  simp only [C.f12r2,R,Nat.reduceEqDiff]
  refine hJ _ ?_
  refine tk_ret okM ?_
  refine x4 _ _ (by simp) ?_
  obtain rfl:=Option.some.inj hm
  exact end_flat (.inl rfl) (vs:=[(.bool (false))]) (resT' (v:=(.bool (false))) rfl resN) (fm_cons rfl fm_nil)
 ·replace hm:=cond_f hm g5
  refine tk_skip okM ?_
  refine n3 _ ?_
  refine tk_seq_k fun K n6 x7=>?_
  refine tk_os okM hok fun J hJ=>?_
  simp only [C.f12r3,R,Nat.reduceEqDiff]
  refine hJ _ ?_
  refine tk_block_k fun K n8 e9 x10=>?_
  refine tk_loop_k (n:=n) (fun k1 ⟨σ,H,_⟩=>∃ x5_11,b_ref06_Same_1 n x0 x1 k1 x5_11 = some r ∧ Lk σ 0 (slV x0 b0) ∧ Lk σ 1 (slV x1 b1) ∧ Lk σ 5 (.int .i64 x5_11) ∧ Iv c.nb [] H0 H) ?_ ?_ ?_
  ·exact ⟨0,hm,rfl,rfl,rfl,iv⟩
  ·rintro ⟨σ,H,d⟩ ⟨_,hm,_⟩
   cases hm
  ·intro k1 K n12 x13
   rintro ⟨σ19,H14,d20⟩ ⟨x5_11,hm,h15,h16,h17,i18⟩
   rw [b_ref06_Same_1.eq_2] at hm
   refine tk_seq_k fun K n21 x22=>?_
   refine tk_os okM hok fun J hJ=>?_
   simp only [C.f12r4,R,Nat.reduceEqDiff,h17,h15,ln26]
   refine hJ _ ?_
   refine tk_cond (t:=decide (x5_11 < (Sl.len x0))) rfl (fun g23=>?_) (fun g23=>?_)
   ·replace hm:=cond_t hm g23
    refine tk_skip okM ?_
    refine n21 _ ?_
    refine tk_seq_k fun K n24 x25=>?_
    refine tk_block_k fun K n26 e27 x28=>?_
    refine tk_os okM hok fun J hJ=>?_
    obtain ⟨j29,ej29,hm⟩:=bind_s hm
    obtain ⟨mm30,k31⟩:=(h0.iv l0 (fun _=>by simp) i18).blk (ck_lt ej29).1
    have a32:=ld_agg (M:=Mt) (t:=59) k31 T.ag59 (by rw [ref06_Token.enc.len]; exact T.sz59) (seg_sl ref06_Token.enc.len mm30 (ck_lt ej29).1)
    obtain ⟨j33,ej33,hm⟩:=bind_s hm
    obtain ⟨mm34,k35⟩:=(h1.iv l1 (fun _=>by simp) i18).blk (ck_lt ej33).1
    have a36:=ld_agg (M:=Mt) (t:=59) k35 T.ag59 (by rw [ref06_Token.enc.len]; exact T.sz59) (seg_sl ref06_Token.enc.len mm34 (ck_lt ej33).1)
    simp only [C.f12r6,R,Nat.reduceEqDiff,s_pt,s_gt,isW,Bool.false_eq_true,if_false,if_true,reduceIte,h15,h17,ia26,ej29,a32,h16,ej33,a36,neq59]
    refine hJ _ ?_
    refine tk_cond (t:=!decide ((Sl.nth x0 j29) = (Sl.nth x1 j33))) rfl (fun g37=>?_) (fun g37=>?_)
    ·replace hm:=cond_t hm g37
     refine tk_os okM hok fun J hJ=>?_
     simp only [C.f12r7,R,Nat.reduceEqDiff]
     refine hJ _ ?_
     refine tk_ret okM ?_
     refine x28 _ _ (by simp) (by simp) ?_
     refine x25 _ _ (by simp) ?_
     refine x13 _ _ (by simp) ?_
     refine x10 _ _ (by simp) (by simp) ?_
     refine x7 _ _ (by simp) ?_
     obtain rfl:=Option.some.inj hm
     exact end_flat (.inl rfl) (vs:=[(.bool (false))]) (resT' (v:=(.bool (false))) rfl resN) (fm_cons rfl fm_nil)
    ·replace hm:=cond_f hm g37
     refine tk_skip okM ?_
     refine n26 _ ?_
     refine n24 _ ?_
     refine tk_oe okM hok fun J hJ=>?_
     simp only [C.f12r5,R,Nat.reduceEqDiff,h17]
     refine hJ _ ?_
     refine n12 _ ?_
     exact ⟨IntKind.i64.wrap (x5_11 + 1),hm,h15,h16,rfl,i18⟩
   ·replace hm:=cond_f hm g23
    refine tk_exit okM ?_
    refine x22 _ _ (by simp) ?_
    refine x13 _ _ (by simp) ?_
    refine e9 _ ?_
    refine n6 _ ?_
    refine tk_os okM hok fun J hJ=>?_
    simp only [C.f12r8,R,Nat.reduceEqDiff]
    refine hJ _ ?_
    refine tk_ret okM ?_
    obtain rfl:=Option.some.inj hm
    exact end_flat (.inl rfl) (vs:=[(.bool (true))]) (resT' (v:=(.bool (true))) rfl resN) (fm_cons rfl fm_nil)
def b_law06_Ref_1 (n:Nat) (x0:(Sl lex_Token)):Nat → Sl ref06_Token → Int → Option ((Sl ref06_Token))
 | 0,_,_=>none
 | k + 1,l17,x4_19=>bif decide (x4_19 < (Sl.len x0)) then ((ck (Sl.l x0).length x4_19).bind fun j39=>(Sl.app 88 l17 (some ([({ ref06_Token.zero with f_Kind:=(Sl.nth x0 j39).f_Kind,f_Set:=((Sl.nth x0 j39).f_Set).f_W,f_Min:=(Sl.nth x0 j39).f_Min,f_Max:=(Sl.nth x0 j39).f_Max,f_Mode:=(Sl.nth x0 j39).f_Mode,f_N:=(Sl.nth x0 j39).f_N,f_Flags:=(Sl.nth x0 j39).f_Flags }:ref06_Token)]:List ref06_Token))).bind fun v79=>b_law06_Ref_1 n x0 k v79 (IntKind.i64.wrap (x4_19 + 1))) else (some l17)
def b_law06_Ref (n:Nat) (x0:(Sl lex_Token)):Option ((Sl ref06_Token)):=b_law06_Ref_1 n x0 n (some ([]:List ref06_Token)) 0
theorem w_law06_Ref {call:CallF} (hok:CallOk Mt call) {n:Nat} {H0:Hp} {x0:(Sl lex_Token)} {b0:Nat} {r:(Sl ref06_Token)} {ro:Nat} (hro:ro ≤ H0.length) (h0:SlH H0 lex_Token.c 46 x0 b0) (hm:b_law06_Ref n x0 = some r) :
  Pt Mt ro 13 [(slV x0 b0)] H0 (slV r H0.length) (H0 ++ slB ref06_Token.c 59 r) []:=by
 refine pt_new okM F13d (by exact Nat.le_of_ble_eq_true rfl) ?_ hro
 intro c hnt hnb hcr
 have hcn:c.ro ≤ c.nb:=by omega
 have l0:x0 ≠ none → b0 < c.nb:=fun h=>by rw [hnb]; exact h0.lt h
 have iv:Iv c.nb [] H0 H0:=by rw [hnb]; exact iv_refl
 rw [show args0 [(slV x0 b0)] = [(0,(slV x0 b0))] from rfl]
 rw [b_law06_Ref] at hm
 simp only [C.f13,C.f13b0]
 refine tk_os okM hok fun J hJ=>?_
 simp only [C.f13r0,R,Nat.reduceEqDiff]
 refine hJ _ ?_
 refine tk_os okM hok fun J hJ=>?_
 obtain ⟨b2,H3,a4,f5,q6,r7,x8,i9⟩:=bs_ok (M:=Mt) (t:=26) (e:=59) (c:=ref06_Token.c) (l:=([]:List ref06_Token)) (ps:=[]) (n:=0) H0 iv.le Tryd.underlying26 (zs59) rfl (by simp only [ref06_Token.enc.len,List.length_cons,List.length_nil]; decide) (fun _=>by rw [ref06_Token.enc.len,ref06_Token.enc.len]) ref06_Token.enc.one rfl rfl
 have i10:=i9 _ _ iv
 simp only [C.f13r1,R,Nat.reduceEqDiff,a4]
 refine hJ _ ?_
 refine tk_seq_k fun K n12 x13=>?_
 refine tk_os okM hok fun J hJ=>?_
 simp only [C.f13r2,R,Nat.reduceEqDiff]
 refine hJ _ ?_
 refine tk_block_k fun K n14 e15 x16=>?_
 refine tk_loop_k (n:=n) (fun k1 ⟨σ,H,_⟩=>∃ l17 x4_19 b18,b_law06_Ref_1 n x0 k1 l17 x4_19 = some r ∧ Lk σ 0 (slV x0 b0) ∧ Lk σ 3 (slV l17 b18) ∧ Lk σ 4 (.int .i64 x4_19) ∧ SlO c.nb H ref06_Token.c 59 l17 b18 ∧ Iv c.nb [] H0 H) ?_ ?_ ?_
 ·exact ⟨some ([]:List ref06_Token),0,b2,hm,rfl,rfl,rfl,f5,i10⟩
 ·rintro ⟨σ,H,d⟩ ⟨_,_,_,hm,_⟩
  cases hm
 ·intro k1 K n20 x21
  rintro ⟨σ29,H22,d30⟩ ⟨l17,x4_19,b18,hm,h24,h25,h26,f27,i28⟩
  rw [b_law06_Ref_1.eq_2] at hm
  refine tk_seq_k fun K n31 x32=>?_
  refine tk_os okM hok fun J hJ=>?_
  simp only [C.f13r3,R,Nat.reduceEqDiff,h26,h24,ln22]
  refine hJ _ ?_
  refine tk_cond (t:=decide (x4_19 < (Sl.len x0))) rfl (fun g33=>?_) (fun g33=>?_)
  ·replace hm:=cond_t hm g33
   refine tk_skip okM ?_
   refine n31 _ ?_
   refine tk_seq_k fun K n34 x35=>?_
   refine tk_block_k fun K n36 e37 x38=>?_
   refine tk_os okM hok fun J hJ=>?_
   obtain ⟨j39,ej39,hm⟩:=bind_s hm
   obtain ⟨mm40,k41⟩:=(h0.iv l0 (fun _=>by simp) i28).blk (ck_lt ej39).1
   have a42:=ld_agg (M:=Mt) (t:=46) k41 T.ag46 (by rw [lex_Token.enc.len]; exact T.sz46) (seg_sl lex_Token.enc.len mm40 (ck_lt ej39).1)
   obtain ⟨b43,H44,a45,f46,q47,r48,x49,i50⟩:=al_ok H22 46 (lex_Token.c lex_Token.zero) i28.le
   have i51:=i50 _ _ i28
   have f52:=f27.ex x49
   obtain ⟨H54,a55,f56,u57⟩:=st_ok (M:=Mt) (t:=46) (v:=(vAgg (lex_Token.c (Sl.nth x0 j39)))) (c:=lex_Token.c (Sl.nth x0 j39)) (cs':=lex_Token.c (Sl.nth x0 j39)) f46 (by rw [lex_Token.enc.len]; exact T.sz46) vAgg_cells (lex_Token.enc.one _) (Nat.le_trans hcn r48) (le0 lex_Token.enc.len) (wrs_all (eqL lex_Token.enc.len))
   have i58:=i51.up u57 r48
   have f59:=f52.up u57 (f27.h.ne q47)
   simp only [C.f13r5,R,Nat.reduceEqDiff,h24,h26,ia22,ej39,a42,zs46,a45,a55]
   refine hJ _ ?_
   refine tk_oe okM hok fun J hJ=>?_
   have a60:=ld_one (M:=Mt) (t:=3) f56 T.ag3 (Seg.refl.sub (lex_Token.seg0 (Sl.nth x0 j39)))
   have a61:=ld_agg (M:=Mt) (t:=34) f56 T.ag34 (by rw [(enc_arr (n:=4) enc_int).len]; exact T.sz34) ((Seg.refl.sub (lex_Token.seg1 (Sl.nth x0 j39))).sub (class_Set.seg0 ((Sl.nth x0 j39).f_Set)))
   have a62:=ld_one (M:=Mt) (t:=3) f56 T.ag3 (Seg.refl.sub (lex_Token.seg2 (Sl.nth x0 j39)))
   have a63:=ld_one (M:=Mt) (t:=3) f56 T.ag3 (Seg.refl.sub (lex_Token.seg3 (Sl.nth x0 j39)))
   have a64:=ld_one (M:=Mt) (t:=3) f56 T.ag3 (Seg.refl.sub (lex_Token.seg4 (Sl.nth x0 j39)))
   have a65:=ld_one (M:=Mt) (t:=3) f56 T.ag3 (Seg.refl.sub (lex_Token.seg5 (Sl.nth x0 j39)))
   have a66:=ld_one (M:=Mt) (t:=9) f56 T.ag9 (Seg.refl.sub (lex_Token.seg6 (Sl.nth x0 j39)))
   obtain ⟨b67,H68,a69,f70,q71,r72,x73,i74⟩:=bs_ok (M:=Mt) (t:=26) (e:=59) (c:=ref06_Token.c) (l:=([({ ref06_Token.zero with f_Kind:=(Sl.nth x0 j39).f_Kind,f_Set:=((Sl.nth x0 j39).f_Set).f_W,f_Min:=(Sl.nth x0 j39).f_Min,f_Max:=(Sl.nth x0 j39).f_Max,f_Mode:=(Sl.nth x0 j39).f_Mode,f_N:=(Sl.nth x0 j39).f_N,f_Flags:=(Sl.nth x0 j39).f_Flags }:ref06_Token)]:List ref06_Token)) (ps:=[(0,(vAgg (ref06_Token.c (({ ref06_Token.zero with f_Kind:=(Sl.nth x0 j39).f_Kind,f_Set:=((Sl.nth x0 j39).f_Set).f_W,f_Min:=(Sl.nth x0 j39).f_Min,f_Max:=(Sl.nth x0 j39).f_Max,f_Mode:=(Sl.nth x0 j39).f_Mode,f_N:=(Sl.nth x0 j39).f_N,f_Flags:=(Sl.nth x0 j39).f_Flags }:ref06_Token)))))]) (n:=1) H54 i58.le Tryd.underlying26 (zs59) rfl (by simp only [ref06_Token.enc.len,List.length_cons,List.length_nil]; decide) (fun _=>by rw [ref06_Token.enc.len,ref06_Token.enc.len]) ref06_Token.enc.one rfl rfl
   have i75:=i74 _ _ i58
   have f76:=f59.ex x73
   have f77:=x73 _ _ f56
   obtain ⟨v79,ev79,hm⟩:=bind_s hm
   obtain ⟨b80,H81,a82,f83,mv84,i85,nw86⟩:=app_ok (M:=Mt) (t:=26) (u:=26) (nb:=c.nb) (x:=l17) (y:=some ([({ ref06_Token.zero with f_Kind:=(Sl.nth x0 j39).f_Kind,f_Set:=((Sl.nth x0 j39).f_Set).f_W,f_Min:=(Sl.nth x0 j39).f_Min,f_Max:=(Sl.nth x0 j39).f_Max,f_Mode:=(Sl.nth x0 j39).f_Mode,f_N:=(Sl.nth x0 j39).f_N,f_Flags:=(Sl.nth x0 j39).f_Flags }:ref06_Token)]:List ref06_Token)) (b:=b18) (b2:=b67) Tryd.underlying26 Tryd.underlying26 T.sz59 T.by59 zs59 (by decide) (by decide) ref06_Token.enc.len ref06_Token.enc.one i75.le hcn f76 f70.h ev79
   have i87:=i85 _ _ i75
   have n88:=nw86 b43 (get_lt f77) (f27.h.ne q47)
   have f89:=mv84.2 _ _ (fun h=>((f27.h.ne q47) h).symm) f77
   simp only [C.f13r6,R,Nat.reduceEqDiff,h25,fa46_0,a60,fa46_1,fa36_0,a61,fa46_2,a62,fa46_3,a63,fa46_4,a64,fa46_5,a65,fa46_6,a66,bd59_0_1_2_3_4_5_6,a69,a82]
   refine hJ _ ?_
   refine n36 _ ?_
   refine n34 _ ?_
   refine tk_oe okM hok fun J hJ=>?_
   simp only [C.f13r4,R,Nat.reduceEqDiff,h26]
   refine hJ _ ?_
   refine n20 _ ?_
   exact ⟨v79,IntKind.i64.wrap (x4_19 + 1),b80,hm,h24,rfl,rfl,f83,i87⟩
  ·replace hm:=cond_f hm g33
   refine tk_exit okM ?_
   refine x32 _ _ (by simp) ?_
   refine x21 _ _ (by simp) ?_
   refine e15 _ ?_
   refine n12 _ ?_
   refine tk_os okM hok fun J hJ=>?_
   simp only [C.f13r7,R,Nat.reduceEqDiff,h25]
   refine hJ _ ?_
   refine tk_ret okM ?_
   obtain rfl:=Option.some.inj hm
   exact end_sl1 (P:=Mt.P) (rs:=[(.tmp 2)]) (pre:=[]) (post:=[]) (x:=l17) (b:=b18) (nb:=H0.length) (.inl rfl) (by rw [← hnb]; exact f27) ref06_Token.enc fm_nil fm_nil (resT' (v:=(slV l17 b18)) rfl resN)
def b_law06_fixed (c_lex_Lex:T_lex_Lex) (c_lex_Class:T_lex_Class) (c_class_One:T_class_One) (c_class_Of:T_class_Of) (c_class_Set_Not:T_class_Set_Not) (n:Nat):Option (Bool):=(c_lex_Lex ((⟨#[97,43,63,40,63,105,58,91,94,98,45,100,92,120,52,49,93,124,92,50,41,123,50,44,51,125,43]⟩:ByteArray))).bind fun v2=>(c_lex_Lex ((⟨#[97,123,49,48,49,125]⟩:ByteArray))).bind fun v13=>(c_lex_Lex ((⟨#[97,123,51,44,50,125]⟩:ByteArray))).bind fun v25=>(c_lex_Lex ((⟨#[40,63,105,105,58,97,41]⟩:ByteArray))).bind fun v37=>(c_lex_Lex ((⟨#[91,93]⟩:ByteArray))).bind fun v49=>(c_lex_Lex ((⟨#[92,113]⟩:ByteArray))).bind fun v61=>(c_lex_Class ((⟨#[120,91,97,45,99,93,121]⟩:ByteArray)) 1).bind fun v73=>(c_lex_Class ((⟨#[120,91,97,45,99,93,121]⟩:ByteArray)) 0).bind fun v92=>bif !decide ((Sl.len v2.1) = 8) then (some false) else ((bif decide (v2.2 = 0) then ((ck (Sl.l v2.1).length 0).bind fun j115=>(c_class_One 97).bind fun v120=>some (decide ((Sl.nth v2.1 j115) = (({ lex_Token.zero with f_Kind:=0,f_Set:=v120 }:lex_Token))))) else some false).bind fun y121=>(bif y121 then ((ck (Sl.l v2.1).length 1).bind fun j146=>some (decide ((Sl.nth v2.1 j146) = (({ lex_Token.zero with f_Kind:=16,f_Min:=1,f_Max:=(-1),f_Mode:=1 }:lex_Token))))) else some false).bind fun y150=>(bif y150 then ((ck (Sl.l v2.1).length 2).bind fun j173=>some (decide ((Sl.nth v2.1 j173) = (({ lex_Token.zero with f_Kind:=14,f_Flags:=(⟨#[105]⟩:ByteArray) }:lex_Token))))) else some false).bind fun y177=>(bif y177 then ((ck (Sl.l v2.1).length 3).bind fun j200=>(c_class_Of ((⟨#[98,99,100,65]⟩:ByteArray))).bind fun v205=>(c_class_Set_Not v205).bind fun v207=>some (decide ((Sl.nth v2.1 j200) = (({ lex_Token.zero with f_Kind:=0,f_Set:=v207 }:lex_Token))))) else some false).bind fun y208=>(bif y208 then ((ck (Sl.l v2.1).length 4).bind fun j235=>some (decide ((Sl.nth v2.1 j235) = (({ lex_Token.zero with f_Kind:=6 }:lex_Token))))) else some false).bind fun y239=>(bif y239 then ((ck (Sl.l v2.1).length 5).bind fun j262=>some (decide ((Sl.nth v2.1 j262) = (({ lex_Token.zero with f_Kind:=17,f_N:=2 }:lex_Token))))) else some false).bind fun y266=>(bif y266 then ((ck (Sl.l v2.1).length 6).bind fun j289=>some (decide ((Sl.nth v2.1 j289) = (({ lex_Token.zero with f_Kind:=15 }:lex_Token))))) else some false).bind fun y293=>(bif y293 then ((ck (Sl.l v2.1).length 7).bind fun j316=>some (decide ((Sl.nth v2.1 j316) = (({ lex_Token.zero with f_Kind:=16,f_Min:=2,f_Max:=3,f_Mode:=2 }:lex_Token))))) else some false).bind fun y320=>(bif ((((y320 && (decide (v13.2 = 4))) && (decide (v25.2 = 3))) && (decide (v37.2 = 3))) && (decide (v49.2 = 3))) && (decide (v61.2 = 3)) then ((c_class_Of ((⟨#[97,98,99]⟩:ByteArray))).bind fun v408=>some (decide (v73.1 = v408))) else some false).bind fun y409=>some (((y409 && (decide (v73.2.1 = 6))) && (decide (v73.2.2 = 0))) && (decide (v92.2.2 = 1))))
theorem w_law06_fixed {call:CallF} (hok:CallOk Mt call) {n:Nat} {c_lex_Lex:T_lex_Lex} (ha_lex_Lex:A_lex_Lex call c_lex_Lex) {c_lex_Class:T_lex_Class} (ha_lex_Class:A_lex_Class call c_lex_Class) {c_class_One:T_class_One} (ha_class_One:A_class_One call c_class_One) {c_class_Of:T_class_Of} (ha_class_Of:A_class_Of call c_class_Of) {c_class_Set_Not:T_class_Set_Not} (ha_class_Set_Not:A_class_Set_Not call c_class_Set_Not) {H0:Hp} {r:Bool} {ro:Nat} (hro:ro ≤ H0.length) (hm:b_law06_fixed c_lex_Lex c_lex_Class c_class_One c_class_Of c_class_Set_Not n = some r) (hG0:TabH0 H0) :
  Pt Mt ro 14 [] H0 (.bool (r)) H0 []:=by
 refine pt_new0 okM F14d (by exact Nat.le_of_ble_eq_true rfl) ?_ hro
 intro c hnt hnb hcr
 have hcn:c.ro ≤ c.nb:=by omega
 have iv:Iv c.nb [] H0 H0:=by rw [hnb]; exact iv_refl
 rw [show args0 [] = [] from rfl]
 rw [b_law06_fixed] at hm
 simp only [C.f14]
 refine tk_os okM hok fun J hJ=>?_
 simp only [C.f14r0,R,Nat.reduceEqDiff]
 refine hJ _ ?_
 refine tk_os okM hok fun J hJ=>?_
 obtain ⟨v2,ev2,hm⟩:=bind_s hm
 have a1:=ha_lex_Lex c.ro H0 ((⟨#[97,43,63,40,63,105,58,91,94,98,45,100,92,120,52,49,93,124,92,50,41,123,50,44,51,125,43]⟩:ByteArray)) v2 (tabIv0 iv hnb hG0) ev2
 obtain ⟨H3,q4⟩:∃ x,x = H0 ++ slB lex_Token.c 46 v2.1:=⟨_,rfl⟩
 obtain ⟨b5,q6⟩:∃ b,b = H0.length:=⟨_,rfl⟩
 rw [← q4,← q6] at a1
 have x10:Ex H0 H3:=by rw [q4]; exact ex_app
 have i8:Iv c.nb [] H0 H3:=by rw [q4]; exact iv.app
 have f7:SlO c.nb H3 lex_Token.c 46 v2.1 b5:=by rw [q4,q6]; exact slB_own iv.le
 have r9:c.nb ≤ b5:=by rw [q6]; exact iv.le
 simp only [C.f14r1,R,Nat.reduceEqDiff,c_fn F10,a1]
 refine hJ _ ?_
 refine tk_os okM hok fun J hJ=>?_
 obtain ⟨v13,ev13,hm⟩:=bind_s hm
 have a12:=ha_lex_Lex c.ro H3 ((⟨#[97,123,49,48,49,125]⟩:ByteArray)) v13 (tabIv0 i8 hnb hG0) ev13
 obtain ⟨H14,q15⟩:∃ x,x = H3 ++ slB lex_Token.c 46 v13.1:=⟨_,rfl⟩
 obtain ⟨b16,q17⟩:∃ b,b = H3.length:=⟨_,rfl⟩
 rw [← q15,← q17] at a12
 have x21:Ex H3 H14:=by rw [q15]; exact ex_app
 have i19:Iv c.nb [] H0 H14:=by rw [q15]; exact i8.app
 have f18:SlO c.nb H14 lex_Token.c 46 v13.1 b16:=by rw [q15,q17]; exact slB_own i8.le
 have r20:c.nb ≤ b16:=by rw [q17]; exact i8.le
 have f22:=f7.ex x21
 simp only [C.f14r2,R,Nat.reduceEqDiff,c_fn F10,a12]
 refine hJ _ ?_
 refine tk_os okM hok fun J hJ=>?_
 obtain ⟨v25,ev25,hm⟩:=bind_s hm
 have a24:=ha_lex_Lex c.ro H14 ((⟨#[97,123,51,44,50,125]⟩:ByteArray)) v25 (tabIv0 i19 hnb hG0) ev25
 obtain ⟨H26,q27⟩:∃ x,x = H14 ++ slB lex_Token.c 46 v25.1:=⟨_,rfl⟩
 obtain ⟨b28,q29⟩:∃ b,b = H14.length:=⟨_,rfl⟩
 rw [← q27,← q29] at a24
 have x33:Ex H14 H26:=by rw [q27]; exact ex_app
 have i31:Iv c.nb [] H0 H26:=by rw [q27]; exact i19.app
 have f30:SlO c.nb H26 lex_Token.c 46 v25.1 b28:=by rw [q27,q29]; exact slB_own i19.le
 have r32:c.nb ≤ b28:=by rw [q29]; exact i19.le
 have f34:=f22.ex x33
 simp only [C.f14r3,R,Nat.reduceEqDiff,c_fn F10,a24]
 refine hJ _ ?_
 refine tk_os okM hok fun J hJ=>?_
 obtain ⟨v37,ev37,hm⟩:=bind_s hm
 have a36:=ha_lex_Lex c.ro H26 ((⟨#[40,63,105,105,58,97,41]⟩:ByteArray)) v37 (tabIv0 i31 hnb hG0) ev37
 obtain ⟨H38,q39⟩:∃ x,x = H26 ++ slB lex_Token.c 46 v37.1:=⟨_,rfl⟩
 obtain ⟨b40,q41⟩:∃ b,b = H26.length:=⟨_,rfl⟩
 rw [← q39,← q41] at a36
 have x45:Ex H26 H38:=by rw [q39]; exact ex_app
 have i43:Iv c.nb [] H0 H38:=by rw [q39]; exact i31.app
 have f42:SlO c.nb H38 lex_Token.c 46 v37.1 b40:=by rw [q39,q41]; exact slB_own i31.le
 have r44:c.nb ≤ b40:=by rw [q41]; exact i31.le
 have f46:=f34.ex x45
 simp only [C.f14r4,R,Nat.reduceEqDiff,c_fn F10,a36]
 refine hJ _ ?_
 refine tk_os okM hok fun J hJ=>?_
 obtain ⟨v49,ev49,hm⟩:=bind_s hm
 have a48:=ha_lex_Lex c.ro H38 ((⟨#[91,93]⟩:ByteArray)) v49 (tabIv0 i43 hnb hG0) ev49
 obtain ⟨H50,q51⟩:∃ x,x = H38 ++ slB lex_Token.c 46 v49.1:=⟨_,rfl⟩
 obtain ⟨b52,q53⟩:∃ b,b = H38.length:=⟨_,rfl⟩
 rw [← q51,← q53] at a48
 have x57:Ex H38 H50:=by rw [q51]; exact ex_app
 have i55:Iv c.nb [] H0 H50:=by rw [q51]; exact i43.app
 have f54:SlO c.nb H50 lex_Token.c 46 v49.1 b52:=by rw [q51,q53]; exact slB_own i43.le
 have r56:c.nb ≤ b52:=by rw [q53]; exact i43.le
 have f58:=f46.ex x57
 simp only [C.f14r5,R,Nat.reduceEqDiff,c_fn F10,a48]
 refine hJ _ ?_
 refine tk_os okM hok fun J hJ=>?_
 obtain ⟨v61,ev61,hm⟩:=bind_s hm
 have a60:=ha_lex_Lex c.ro H50 ((⟨#[92,113]⟩:ByteArray)) v61 (tabIv0 i55 hnb hG0) ev61
 obtain ⟨H62,q63⟩:∃ x,x = H50 ++ slB lex_Token.c 46 v61.1:=⟨_,rfl⟩
 obtain ⟨b64,q65⟩:∃ b,b = H50.length:=⟨_,rfl⟩
 rw [← q63,← q65] at a60
 have x69:Ex H50 H62:=by rw [q63]; exact ex_app
 have i67:Iv c.nb [] H0 H62:=by rw [q63]; exact i55.app
 have f66:SlO c.nb H62 lex_Token.c 46 v61.1 b64:=by rw [q63,q65]; exact slB_own i55.le
 have r68:c.nb ≤ b64:=by rw [q65]; exact i55.le
 have f70:=f58.ex x69
 simp only [C.f14r6,R,Nat.reduceEqDiff,c_fn F10,a60]
 refine hJ _ ?_
 refine tk_os okM hok fun J hJ=>?_
 obtain ⟨v73,ev73,hm⟩:=bind_s hm
 have a72:=ha_lex_Class c.ro H62 ((⟨#[120,91,97,45,99,93,121]⟩:ByteArray)) 1 v73 (tabIv0 i67 hnb hG0) ev73
 obtain ⟨b74,H75,a76,f77,q78,r79,x80,i81⟩:=al_ok H62 36 (class_Set.c class_Set.zero) i67.le
 have i82:=i81 _ _ i67
 have f83:=f70.ex x80
 obtain ⟨H85,a86,f87,u88⟩:=st_ok (M:=Mt) (t:=36) (v:=(vAgg (class_Set.c (v73.1)))) (c:=class_Set.c v73.1) (cs':=class_Set.c v73.1) f77 (by rw [class_Set.enc.len]; exact T.sz36) vAgg_cells (class_Set.enc.one _) (Nat.le_trans hcn r79) (le0 class_Set.enc.len) (wrs_all (eqL class_Set.enc.len))
 have i89:=i82.up u88 r79
 have f90:=f83.up u88 (f70.h.ne q78)
 simp only [C.f14r7,R,Nat.reduceEqDiff,c_fn F15,a72,zs36,a76,a86]
 refine hJ _ ?_
 refine tk_os okM hok fun J hJ=>?_
 obtain ⟨v92,ev92,hm⟩:=bind_s hm
 have a91:=ha_lex_Class c.ro H85 ((⟨#[120,91,97,45,99,93,121]⟩:ByteArray)) 0 v92 (tabIv0 i89 hnb hG0) ev92
 obtain ⟨b93,H94,a95,f96,q97,r98,x99,i100⟩:=al_ok H85 36 (class_Set.c class_Set.zero) i89.le
 have i101:=i100 _ _ i89
 have f102:=f90.ex x99
 have f103:=x99 _ _ f87
 obtain ⟨H105,a106,f107,u108⟩:=st_ok (M:=Mt) (t:=36) (v:=(vAgg (class_Set.c (v92.1)))) (c:=class_Set.c v92.1) (cs':=class_Set.c v92.1) f96 (by rw [class_Set.enc.len]; exact T.sz36) vAgg_cells (class_Set.enc.one _) (Nat.le_trans hcn r98) (le0 class_Set.enc.len) (wrs_all (eqL class_Set.enc.len))
 have i109:=i101.up u108 r98
 have f110:=f102.up u108 (f90.h.ne q97)
 have f111:=(u108.get _ (ne_len f87 q97)).trans f103
 simp only [C.f14r8,R,Nat.reduceEqDiff,c_fn F15,a91,zs36,a95,a106]
 refine hJ _ ?_
 refine tk_seq_k fun K n112 x113=>?_
 refine tk_os okM hok fun J hJ=>?_
 simp only [C.f14r9,R,Nat.reduceEqDiff,ln22]
 refine hJ _ ?_
 refine tk_cond (t:=!decide ((Sl.len v2.1) = 8)) rfl (fun g114=>?_) (fun g114=>?_)
 ·replace hm:=cond_t hm g114
  refine tk_os okM hok fun J hJ=>?_
  simp only [C.f14r10,R,Nat.reduceEqDiff]
  refine hJ _ ?_
  refine tk_ret okM ?_
  refine x113 _ _ (by simp) ?_
  obtain rfl:=Option.some.inj hm
  exact end_flat (.inl rfl) (vs:=[(.bool (false))]) (resT' (v:=(.bool (false))) rfl resN) (fm_cons rfl fm_nil)
 ·replace hm:=cond_f hm g114
  refine tk_skip okM ?_
  refine n112 _ ?_
  refine tk_os okM hok fun J hJ=>?_
  rw [C.f14r11]
  obtain ⟨y121,ey121,hm⟩:=bind_s hm
  refine rn_app_k (fun ⟨σ,H,_⟩=>Lk σ 1 (slV v2.1 b5) ∧ Lk σ 4 (.int .i64 (v13.2)) ∧ Lk σ 6 (.int .i64 (v25.2)) ∧ Lk σ 8 (.int .i64 (v37.2)) ∧ Lk σ 10 (.int .i64 (v49.2)) ∧ Lk σ 12 (.int .i64 (v61.2)) ∧ Lk σ 13 (.pointer (some ⟨b74,0,none⟩)) ∧ Lk σ 14 (.int .i64 (v73.2.1)) ∧ Lk σ 15 (.int .i64 (v73.2.2)) ∧ Lk σ 18 (.int .i64 (v92.2.2)) ∧ Lk σ 65 (.bool (y121)) ∧ SlO c.nb H lex_Token.c 46 v2.1 b5 ∧ H[b74]? = some (.cells (class_Set.c v73.1) 36) ∧ Iv c.nb [] H0 H) (fun J hJ=>?_) ?_
  ·skip
   cases g137:decide (v2.2 = 0)
   ·skip
    have ey121:=cond_f ey121 g137
    obtain rfl:=Option.some.inj ey121
    simp only [C.f14r11p0,R,Nat.reduceEqDiff,s_pt,s_gt,isW,Bool.false_eq_true,if_false,if_true,reduceIte,g137]
    refine hJ _ ?_
    exact ⟨rfl,(by first | rfl | (simp only [g137]; rfl) | simp only [g137,Lk,RB,Nat.reduceEqDiff,not_false_eq_true]),(by first | rfl | (simp only [g137]; rfl) | simp only [g137,Lk,RB,Nat.reduceEqDiff,not_false_eq_true]),(by first | rfl | (simp only [g137]; rfl) | simp only [g137,Lk,RB,Nat.reduceEqDiff,not_false_eq_true]),(by first | rfl | (simp only [g137]; rfl) | simp only [g137,Lk,RB,Nat.reduceEqDiff,not_false_eq_true]),(by first | rfl | (simp only [g137]; rfl) | simp only [g137,Lk,RB,Nat.reduceEqDiff,not_false_eq_true]),rfl,(by first | rfl | (simp only [g137]; rfl) | simp only [g137,Lk,RB,Nat.reduceEqDiff,not_false_eq_true]),(by first | rfl | (simp only [g137]; rfl) | simp only [g137,Lk,RB,Nat.reduceEqDiff,not_false_eq_true]),(by first | rfl | (simp only [g137]; rfl) | simp only [g137,Lk,RB,Nat.reduceEqDiff,not_false_eq_true]),(by first | rfl | (simp only [g137]; rfl) | simp only [g137,Lk,RB,Nat.reduceEqDiff,not_false_eq_true]),f110,f111,i109⟩
   ·skip
    have ey121:=cond_t ey121 g137
    obtain ⟨j138,ej138,ey121⟩:=bind_s ey121
    obtain ⟨mm139,k140⟩:=f110.h.blk (ck_lt ej138).1
    have a141:=ld_agg (M:=Mt) (t:=46) k140 T.ag46 (by rw [lex_Token.enc.len]; exact T.sz46) (seg_sl lex_Token.enc.len mm139 (ck_lt ej138).1)
    obtain ⟨v143,ev143,ey121⟩:=bind_s ey121
    have a142:=ha_class_One H105.length H105 97 v143 ev143
    obtain rfl:=Option.some.inj ey121
    simp only [C.f14r11p0,R,Nat.reduceEqDiff,s_pt,s_gt,isW,Bool.false_eq_true,if_false,if_true,reduceIte,g137,ia22,ej138,a141,c_fn F17,a142,bd46_0_1,eql46]
    refine hJ _ ?_
    exact ⟨rfl,(by first | rfl | (simp only [g137]; rfl) | simp only [g137,Lk,RB,Nat.reduceEqDiff,not_false_eq_true]),(by first | rfl | (simp only [g137]; rfl) | simp only [g137,Lk,RB,Nat.reduceEqDiff,not_false_eq_true]),(by first | rfl | (simp only [g137]; rfl) | simp only [g137,Lk,RB,Nat.reduceEqDiff,not_false_eq_true]),(by first | rfl | (simp only [g137]; rfl) | simp only [g137,Lk,RB,Nat.reduceEqDiff,not_false_eq_true]),(by first | rfl | (simp only [g137]; rfl) | simp only [g137,Lk,RB,Nat.reduceEqDiff,not_false_eq_true]),rfl,(by first | rfl | (simp only [g137]; rfl) | simp only [g137,Lk,RB,Nat.reduceEqDiff,not_false_eq_true]),(by first | rfl | (simp only [g137]; rfl) | simp only [g137,Lk,RB,Nat.reduceEqDiff,not_false_eq_true]),(by first | rfl | (simp only [g137]; rfl) | simp only [g137,Lk,RB,Nat.reduceEqDiff,not_false_eq_true]),(by first | rfl | (simp only [g137]; rfl) | simp only [g137,Lk,RB,Nat.reduceEqDiff,not_false_eq_true]),f110,f111,i109⟩
  rintro ⟨σ144,H122,d145⟩ ⟨h123,h124,h125,h126,h127,h128,h129,h130,h131,h132,h133,f134,f135,i136⟩
  obtain ⟨y150,ey150,hm⟩:=bind_s hm
  refine rn_app_k (fun ⟨σ,H,_⟩=>Lk σ 1 (slV v2.1 b5) ∧ Lk σ 4 (.int .i64 (v13.2)) ∧ Lk σ 6 (.int .i64 (v25.2)) ∧ Lk σ 8 (.int .i64 (v37.2)) ∧ Lk σ 10 (.int .i64 (v49.2)) ∧ Lk σ 12 (.int .i64 (v61.2)) ∧ Lk σ 13 (.pointer (some ⟨b74,0,none⟩)) ∧ Lk σ 14 (.int .i64 (v73.2.1)) ∧ Lk σ 15 (.int .i64 (v73.2.2)) ∧ Lk σ 18 (.int .i64 (v92.2.2)) ∧ Lk σ 72 (.bool (y150)) ∧ SlO c.nb H lex_Token.c 46 v2.1 b5 ∧ H[b74]? = some (.cells (class_Set.c v73.1) 36) ∧ Iv c.nb [] H0 H) (fun J hJ=>?_) ?_
  ·skip
   cases g166:y121
   ·skip
    have ey150:=cond_f ey150 g166
    obtain rfl:=Option.some.inj ey150
    simp only [C.f14r11p1,R,Nat.reduceEqDiff,s_pt,s_gt,isW,Bool.false_eq_true,if_false,if_true,reduceIte,h133,g166]
    refine hJ _ ?_
    exact ⟨h123,h124,h125,h126,h127,h128,h129,h130,h131,h132,(by first | rfl | (simp only [g166]; rfl) | simp only [g166,Lk,RB,Nat.reduceEqDiff,not_false_eq_true]),f134,f135,i136⟩
   ·skip
    have ey150:=cond_t ey150 g166
    obtain ⟨j167,ej167,ey150⟩:=bind_s ey150
    obtain ⟨mm168,k169⟩:=f134.h.blk (ck_lt ej167).1
    have a170:=ld_agg (M:=Mt) (t:=46) k169 T.ag46 (by rw [lex_Token.enc.len]; exact T.sz46) (seg_sl lex_Token.enc.len mm168 (ck_lt ej167).1)
    obtain rfl:=Option.some.inj ey150
    simp only [C.f14r11p1,R,Nat.reduceEqDiff,s_pt,s_gt,isW,Bool.false_eq_true,if_false,if_true,reduceIte,h133,g166,h123,ia22,ej167,a170,bd46_0_2_3_4,eql46]
    refine hJ _ ?_
    exact ⟨h123,h124,h125,h126,h127,h128,h129,h130,h131,h132,(by first | rfl | (simp only [g166]; rfl) | simp only [g166,Lk,RB,Nat.reduceEqDiff,not_false_eq_true]),f134,f135,i136⟩
  rintro ⟨σ171,H151,d172⟩ ⟨h152,h153,h154,h155,h156,h157,h158,h159,h160,h161,h162,f163,f164,i165⟩
  obtain ⟨y177,ey177,hm⟩:=bind_s hm
  refine rn_app_k (fun ⟨σ,H,_⟩=>Lk σ 1 (slV v2.1 b5) ∧ Lk σ 4 (.int .i64 (v13.2)) ∧ Lk σ 6 (.int .i64 (v25.2)) ∧ Lk σ 8 (.int .i64 (v37.2)) ∧ Lk σ 10 (.int .i64 (v49.2)) ∧ Lk σ 12 (.int .i64 (v61.2)) ∧ Lk σ 13 (.pointer (some ⟨b74,0,none⟩)) ∧ Lk σ 14 (.int .i64 (v73.2.1)) ∧ Lk σ 15 (.int .i64 (v73.2.2)) ∧ Lk σ 18 (.int .i64 (v92.2.2)) ∧ Lk σ 79 (.bool (y177)) ∧ SlO c.nb H lex_Token.c 46 v2.1 b5 ∧ H[b74]? = some (.cells (class_Set.c v73.1) 36) ∧ Iv c.nb [] H0 H) (fun J hJ=>?_) ?_
  ·skip
   cases g193:y150
   ·skip
    have ey177:=cond_f ey177 g193
    obtain rfl:=Option.some.inj ey177
    simp only [C.f14r11p2,R,Nat.reduceEqDiff,s_pt,s_gt,isW,Bool.false_eq_true,if_false,if_true,reduceIte,h162,g193]
    refine hJ _ ?_
    exact ⟨h152,h153,h154,h155,h156,h157,h158,h159,h160,h161,(by first | rfl | (simp only [g193]; rfl) | simp only [g193,Lk,RB,Nat.reduceEqDiff,not_false_eq_true]),f163,f164,i165⟩
   ·skip
    have ey177:=cond_t ey177 g193
    obtain ⟨j194,ej194,ey177⟩:=bind_s ey177
    obtain ⟨mm195,k196⟩:=f163.h.blk (ck_lt ej194).1
    have a197:=ld_agg (M:=Mt) (t:=46) k196 T.ag46 (by rw [lex_Token.enc.len]; exact T.sz46) (seg_sl lex_Token.enc.len mm195 (ck_lt ej194).1)
    obtain rfl:=Option.some.inj ey177
    simp only [C.f14r11p2,R,Nat.reduceEqDiff,s_pt,s_gt,isW,Bool.false_eq_true,if_false,if_true,reduceIte,h162,g193,h152,ia22,ej194,a197,bd46_0_6,eql46]
    refine hJ _ ?_
    exact ⟨h152,h153,h154,h155,h156,h157,h158,h159,h160,h161,(by first | rfl | (simp only [g193]; rfl) | simp only [g193,Lk,RB,Nat.reduceEqDiff,not_false_eq_true]),f163,f164,i165⟩
  rintro ⟨σ198,H178,d199⟩ ⟨h179,h180,h181,h182,h183,h184,h185,h186,h187,h188,h189,f190,f191,i192⟩
  obtain ⟨y208,ey208,hm⟩:=bind_s hm
  refine rn_app_k (fun ⟨σ,H,_⟩=>Lk σ 1 (slV v2.1 b5) ∧ Lk σ 4 (.int .i64 (v13.2)) ∧ Lk σ 6 (.int .i64 (v25.2)) ∧ Lk σ 8 (.int .i64 (v37.2)) ∧ Lk σ 10 (.int .i64 (v49.2)) ∧ Lk σ 12 (.int .i64 (v61.2)) ∧ Lk σ 13 (.pointer (some ⟨b74,0,none⟩)) ∧ Lk σ 14 (.int .i64 (v73.2.1)) ∧ Lk σ 15 (.int .i64 (v73.2.2)) ∧ Lk σ 18 (.int .i64 (v92.2.2)) ∧ Lk σ 88 (.bool (y208)) ∧ SlO c.nb H lex_Token.c 46 v2.1 b5 ∧ H[b74]? = some (.cells (class_Set.c v73.1) 36) ∧ Iv c.nb [] H0 H) (fun J hJ=>?_) ?_
  ·skip
   cases g224:y177
   ·skip
    have ey208:=cond_f ey208 g224
    obtain rfl:=Option.some.inj ey208
    simp only [C.f14r11p3,R,Nat.reduceEqDiff,s_pt,s_gt,isW,Bool.false_eq_true,if_false,if_true,reduceIte,h189,g224]
    refine hJ _ ?_
    exact ⟨h179,h180,h181,h182,h183,h184,h185,h186,h187,h188,(by first | rfl | (simp only [g224]; rfl) | simp only [g224,Lk,RB,Nat.reduceEqDiff,not_false_eq_true]),f190,f191,i192⟩
   ·skip
    have ey208:=cond_t ey208 g224
    obtain ⟨j225,ej225,ey208⟩:=bind_s ey208
    obtain ⟨mm226,k227⟩:=f190.h.blk (ck_lt ej225).1
    have a228:=ld_agg (M:=Mt) (t:=46) k227 T.ag46 (by rw [lex_Token.enc.len]; exact T.sz46) (seg_sl lex_Token.enc.len mm226 (ck_lt ej225).1)
    obtain ⟨v230,ev230,ey208⟩:=bind_s ey208
    have a229:=ha_class_Of H178.length H178 ((⟨#[98,99,100,65]⟩:ByteArray)) v230 ev230
    obtain ⟨v232,ev232,ey208⟩:=bind_s ey208
    have a231:=ha_class_Set_Not H178.length H178 v230 v232 ev232
    obtain rfl:=Option.some.inj ey208
    simp only [C.f14r11p3,R,Nat.reduceEqDiff,s_pt,s_gt,isW,Bool.false_eq_true,if_false,if_true,reduceIte,h189,g224,h179,ia22,ej225,a228,c_fn F18,a229,c_fn F25,a231,bd46_0_1,eql46]
    refine hJ _ ?_
    exact ⟨h179,h180,h181,h182,h183,h184,h185,h186,h187,h188,(by first | rfl | (simp only [g224]; rfl) | simp only [g224,Lk,RB,Nat.reduceEqDiff,not_false_eq_true]),f190,f191,i192⟩
  rintro ⟨σ233,H209,d234⟩ ⟨h210,h211,h212,h213,h214,h215,h216,h217,h218,h219,h220,f221,f222,i223⟩
  obtain ⟨y239,ey239,hm⟩:=bind_s hm
  refine rn_app_k (fun ⟨σ,H,_⟩=>Lk σ 1 (slV v2.1 b5) ∧ Lk σ 4 (.int .i64 (v13.2)) ∧ Lk σ 6 (.int .i64 (v25.2)) ∧ Lk σ 8 (.int .i64 (v37.2)) ∧ Lk σ 10 (.int .i64 (v49.2)) ∧ Lk σ 12 (.int .i64 (v61.2)) ∧ Lk σ 13 (.pointer (some ⟨b74,0,none⟩)) ∧ Lk σ 14 (.int .i64 (v73.2.1)) ∧ Lk σ 15 (.int .i64 (v73.2.2)) ∧ Lk σ 18 (.int .i64 (v92.2.2)) ∧ Lk σ 95 (.bool (y239)) ∧ SlO c.nb H lex_Token.c 46 v2.1 b5 ∧ H[b74]? = some (.cells (class_Set.c v73.1) 36) ∧ Iv c.nb [] H0 H) (fun J hJ=>?_) ?_
  ·skip
   cases g255:y208
   ·skip
    have ey239:=cond_f ey239 g255
    obtain rfl:=Option.some.inj ey239
    simp only [C.f14r11p4,R,Nat.reduceEqDiff,s_pt,s_gt,isW,Bool.false_eq_true,if_false,if_true,reduceIte,h220,g255]
    refine hJ _ ?_
    exact ⟨h210,h211,h212,h213,h214,h215,h216,h217,h218,h219,(by first | rfl | (simp only [g255]; rfl) | simp only [g255,Lk,RB,Nat.reduceEqDiff,not_false_eq_true]),f221,f222,i223⟩
   ·skip
    have ey239:=cond_t ey239 g255
    obtain ⟨j256,ej256,ey239⟩:=bind_s ey239
    obtain ⟨mm257,k258⟩:=f221.h.blk (ck_lt ej256).1
    have a259:=ld_agg (M:=Mt) (t:=46) k258 T.ag46 (by rw [lex_Token.enc.len]; exact T.sz46) (seg_sl lex_Token.enc.len mm257 (ck_lt ej256).1)
    obtain rfl:=Option.some.inj ey239
    simp only [C.f14r11p4,R,Nat.reduceEqDiff,s_pt,s_gt,isW,Bool.false_eq_true,if_false,if_true,reduceIte,h220,g255,h210,ia22,ej256,a259,bd46_0,eql46]
    refine hJ _ ?_
    exact ⟨h210,h211,h212,h213,h214,h215,h216,h217,h218,h219,(by first | rfl | (simp only [g255]; rfl) | simp only [g255,Lk,RB,Nat.reduceEqDiff,not_false_eq_true]),f221,f222,i223⟩
  rintro ⟨σ260,H240,d261⟩ ⟨h241,h242,h243,h244,h245,h246,h247,h248,h249,h250,h251,f252,f253,i254⟩
  obtain ⟨y266,ey266,hm⟩:=bind_s hm
  refine rn_app_k (fun ⟨σ,H,_⟩=>Lk σ 1 (slV v2.1 b5) ∧ Lk σ 4 (.int .i64 (v13.2)) ∧ Lk σ 6 (.int .i64 (v25.2)) ∧ Lk σ 8 (.int .i64 (v37.2)) ∧ Lk σ 10 (.int .i64 (v49.2)) ∧ Lk σ 12 (.int .i64 (v61.2)) ∧ Lk σ 13 (.pointer (some ⟨b74,0,none⟩)) ∧ Lk σ 14 (.int .i64 (v73.2.1)) ∧ Lk σ 15 (.int .i64 (v73.2.2)) ∧ Lk σ 18 (.int .i64 (v92.2.2)) ∧ Lk σ 102 (.bool (y266)) ∧ SlO c.nb H lex_Token.c 46 v2.1 b5 ∧ H[b74]? = some (.cells (class_Set.c v73.1) 36) ∧ Iv c.nb [] H0 H) (fun J hJ=>?_) ?_
  ·skip
   cases g282:y239
   ·skip
    have ey266:=cond_f ey266 g282
    obtain rfl:=Option.some.inj ey266
    simp only [C.f14r11p5,R,Nat.reduceEqDiff,s_pt,s_gt,isW,Bool.false_eq_true,if_false,if_true,reduceIte,h251,g282]
    refine hJ _ ?_
    exact ⟨h241,h242,h243,h244,h245,h246,h247,h248,h249,h250,(by first | rfl | (simp only [g282]; rfl) | simp only [g282,Lk,RB,Nat.reduceEqDiff,not_false_eq_true]),f252,f253,i254⟩
   ·skip
    have ey266:=cond_t ey266 g282
    obtain ⟨j283,ej283,ey266⟩:=bind_s ey266
    obtain ⟨mm284,k285⟩:=f252.h.blk (ck_lt ej283).1
    have a286:=ld_agg (M:=Mt) (t:=46) k285 T.ag46 (by rw [lex_Token.enc.len]; exact T.sz46) (seg_sl lex_Token.enc.len mm284 (ck_lt ej283).1)
    obtain rfl:=Option.some.inj ey266
    simp only [C.f14r11p5,R,Nat.reduceEqDiff,s_pt,s_gt,isW,Bool.false_eq_true,if_false,if_true,reduceIte,h251,g282,h241,ia22,ej283,a286,bd46_0_5,eql46]
    refine hJ _ ?_
    exact ⟨h241,h242,h243,h244,h245,h246,h247,h248,h249,h250,(by first | rfl | (simp only [g282]; rfl) | simp only [g282,Lk,RB,Nat.reduceEqDiff,not_false_eq_true]),f252,f253,i254⟩
  rintro ⟨σ287,H267,d288⟩ ⟨h268,h269,h270,h271,h272,h273,h274,h275,h276,h277,h278,f279,f280,i281⟩
  obtain ⟨y293,ey293,hm⟩:=bind_s hm
  refine rn_app_k (fun ⟨σ,H,_⟩=>Lk σ 1 (slV v2.1 b5) ∧ Lk σ 4 (.int .i64 (v13.2)) ∧ Lk σ 6 (.int .i64 (v25.2)) ∧ Lk σ 8 (.int .i64 (v37.2)) ∧ Lk σ 10 (.int .i64 (v49.2)) ∧ Lk σ 12 (.int .i64 (v61.2)) ∧ Lk σ 13 (.pointer (some ⟨b74,0,none⟩)) ∧ Lk σ 14 (.int .i64 (v73.2.1)) ∧ Lk σ 15 (.int .i64 (v73.2.2)) ∧ Lk σ 18 (.int .i64 (v92.2.2)) ∧ Lk σ 109 (.bool (y293)) ∧ SlO c.nb H lex_Token.c 46 v2.1 b5 ∧ H[b74]? = some (.cells (class_Set.c v73.1) 36) ∧ Iv c.nb [] H0 H) (fun J hJ=>?_) ?_
  ·skip
   cases g309:y266
   ·skip
    have ey293:=cond_f ey293 g309
    obtain rfl:=Option.some.inj ey293
    simp only [C.f14r11p6,R,Nat.reduceEqDiff,s_pt,s_gt,isW,Bool.false_eq_true,if_false,if_true,reduceIte,h278,g309]
    refine hJ _ ?_
    exact ⟨h268,h269,h270,h271,h272,h273,h274,h275,h276,h277,(by first | rfl | (simp only [g309]; rfl) | simp only [g309,Lk,RB,Nat.reduceEqDiff,not_false_eq_true]),f279,f280,i281⟩
   ·skip
    have ey293:=cond_t ey293 g309
    obtain ⟨j310,ej310,ey293⟩:=bind_s ey293
    obtain ⟨mm311,k312⟩:=f279.h.blk (ck_lt ej310).1
    have a313:=ld_agg (M:=Mt) (t:=46) k312 T.ag46 (by rw [lex_Token.enc.len]; exact T.sz46) (seg_sl lex_Token.enc.len mm311 (ck_lt ej310).1)
    obtain rfl:=Option.some.inj ey293
    simp only [C.f14r11p6,R,Nat.reduceEqDiff,s_pt,s_gt,isW,Bool.false_eq_true,if_false,if_true,reduceIte,h278,g309,h268,ia22,ej310,a313,bd46_0,eql46]
    refine hJ _ ?_
    exact ⟨h268,h269,h270,h271,h272,h273,h274,h275,h276,h277,(by first | rfl | (simp only [g309]; rfl) | simp only [g309,Lk,RB,Nat.reduceEqDiff,not_false_eq_true]),f279,f280,i281⟩
  rintro ⟨σ314,H294,d315⟩ ⟨h295,h296,h297,h298,h299,h300,h301,h302,h303,h304,h305,f306,f307,i308⟩
  obtain ⟨y320,ey320,hm⟩:=bind_s hm
  refine rn_app_k (fun ⟨σ,H,_⟩=>Lk σ 4 (.int .i64 (v13.2)) ∧ Lk σ 6 (.int .i64 (v25.2)) ∧ Lk σ 8 (.int .i64 (v37.2)) ∧ Lk σ 10 (.int .i64 (v49.2)) ∧ Lk σ 12 (.int .i64 (v61.2)) ∧ Lk σ 13 (.pointer (some ⟨b74,0,none⟩)) ∧ Lk σ 14 (.int .i64 (v73.2.1)) ∧ Lk σ 15 (.int .i64 (v73.2.2)) ∧ Lk σ 18 (.int .i64 (v92.2.2)) ∧ Lk σ 116 (.bool (y320)) ∧ H[b74]? = some (.cells (class_Set.c v73.1) 36) ∧ Iv c.nb [] H0 H) (fun J hJ=>?_) ?_
  ·skip
   cases g334:y293
   ·skip
    have ey320:=cond_f ey320 g334
    obtain rfl:=Option.some.inj ey320
    simp only [C.f14r11p7,R,Nat.reduceEqDiff,s_pt,s_gt,isW,Bool.false_eq_true,if_false,if_true,reduceIte,h305,g334]
    refine hJ _ ?_
    exact ⟨h296,h297,h298,h299,h300,h301,h302,h303,h304,(by first | rfl | (simp only [g334]; rfl) | simp only [g334,Lk,RB,Nat.reduceEqDiff,not_false_eq_true]),f307,i308⟩
   ·skip
    have ey320:=cond_t ey320 g334
    obtain ⟨j335,ej335,ey320⟩:=bind_s ey320
    obtain ⟨mm336,k337⟩:=f306.h.blk (ck_lt ej335).1
    have a338:=ld_agg (M:=Mt) (t:=46) k337 T.ag46 (by rw [lex_Token.enc.len]; exact T.sz46) (seg_sl lex_Token.enc.len mm336 (ck_lt ej335).1)
    obtain rfl:=Option.some.inj ey320
    simp only [C.f14r11p7,R,Nat.reduceEqDiff,s_pt,s_gt,isW,Bool.false_eq_true,if_false,if_true,reduceIte,h305,g334,h295,ia22,ej335,a338,bd46_0_2_3_4,eql46]
    refine hJ _ ?_
    exact ⟨h296,h297,h298,h299,h300,h301,h302,h303,h304,(by first | rfl | (simp only [g334]; rfl) | simp only [g334,Lk,RB,Nat.reduceEqDiff,not_false_eq_true]),f307,i308⟩
  rintro ⟨σ339,H321,d340⟩ ⟨h322,h323,h324,h325,h326,h327,h328,h329,h330,h331,f332,i333⟩
  refine rn_app_k (fun ⟨σ,H,_⟩=>Lk σ 6 (.int .i64 (v25.2)) ∧ Lk σ 8 (.int .i64 (v37.2)) ∧ Lk σ 10 (.int .i64 (v49.2)) ∧ Lk σ 12 (.int .i64 (v61.2)) ∧ Lk σ 13 (.pointer (some ⟨b74,0,none⟩)) ∧ Lk σ 14 (.int .i64 (v73.2.1)) ∧ Lk σ 15 (.int .i64 (v73.2.2)) ∧ Lk σ 18 (.int .i64 (v92.2.2)) ∧ Lk σ 120 (.bool (y320 && (decide (v13.2 = 4)))) ∧ H[b74]? = some (.cells (class_Set.c v73.1) 36) ∧ Iv c.nb [] H0 H) (fun J hJ=>?_) ?_
  ·skip
   cases g353:y320
   ·skip
    simp only [C.f14r11p8,R,Nat.reduceEqDiff,s_pt,s_gt,isW,Bool.false_eq_true,if_false,if_true,reduceIte,h331,g353]
    refine hJ _ ?_
    exact ⟨h323,h324,h325,h326,h327,h328,h329,h330,(by first | rfl | (simp only [g353]; rfl) | simp only [g353,Lk,RB,Nat.reduceEqDiff,not_false_eq_true]),f332,i333⟩
   ·skip
    simp only [C.f14r11p8,R,Nat.reduceEqDiff,s_pt,s_gt,isW,Bool.false_eq_true,if_false,if_true,reduceIte,h331,g353,h322]
    refine hJ _ ?_
    exact ⟨h323,h324,h325,h326,h327,h328,h329,h330,(by first | rfl | (simp only [g353]; rfl) | simp only [g353,Lk,RB,Nat.reduceEqDiff,not_false_eq_true]),f332,i333⟩
  rintro ⟨σ354,H341,d355⟩ ⟨h342,h343,h344,h345,h346,h347,h348,h349,h350,f351,i352⟩
  refine rn_app_k (fun ⟨σ,H,_⟩=>Lk σ 8 (.int .i64 (v37.2)) ∧ Lk σ 10 (.int .i64 (v49.2)) ∧ Lk σ 12 (.int .i64 (v61.2)) ∧ Lk σ 13 (.pointer (some ⟨b74,0,none⟩)) ∧ Lk σ 14 (.int .i64 (v73.2.1)) ∧ Lk σ 15 (.int .i64 (v73.2.2)) ∧ Lk σ 18 (.int .i64 (v92.2.2)) ∧ Lk σ 124 (.bool ((y320 && (decide (v13.2 = 4))) && (decide (v25.2 = 3)))) ∧ H[b74]? = some (.cells (class_Set.c v73.1) 36) ∧ Iv c.nb [] H0 H) (fun J hJ=>?_) ?_
  ·skip
   cases g367:y320 && (decide (v13.2 = 4))
   ·skip
    simp only [C.f14r11p9,R,Nat.reduceEqDiff,s_pt,s_gt,isW,Bool.false_eq_true,if_false,if_true,reduceIte,h350,g367]
    refine hJ _ ?_
    exact ⟨h343,h344,h345,h346,h347,h348,h349,(by first | rfl | (simp only [g367]; rfl) | simp only [g367,Lk,RB,Nat.reduceEqDiff,not_false_eq_true]),f351,i352⟩
   ·skip
    simp only [C.f14r11p9,R,Nat.reduceEqDiff,s_pt,s_gt,isW,Bool.false_eq_true,if_false,if_true,reduceIte,h350,g367,h342]
    refine hJ _ ?_
    exact ⟨h343,h344,h345,h346,h347,h348,h349,(by first | rfl | (simp only [g367]; rfl) | simp only [g367,Lk,RB,Nat.reduceEqDiff,not_false_eq_true]),f351,i352⟩
  rintro ⟨σ368,H356,d369⟩ ⟨h357,h358,h359,h360,h361,h362,h363,h364,f365,i366⟩
  refine rn_app_k (fun ⟨σ,H,_⟩=>Lk σ 10 (.int .i64 (v49.2)) ∧ Lk σ 12 (.int .i64 (v61.2)) ∧ Lk σ 13 (.pointer (some ⟨b74,0,none⟩)) ∧ Lk σ 14 (.int .i64 (v73.2.1)) ∧ Lk σ 15 (.int .i64 (v73.2.2)) ∧ Lk σ 18 (.int .i64 (v92.2.2)) ∧ Lk σ 128 (.bool (((y320 && (decide (v13.2 = 4))) && (decide (v25.2 = 3))) && (decide (v37.2 = 3)))) ∧ H[b74]? = some (.cells (class_Set.c v73.1) 36) ∧ Iv c.nb [] H0 H) (fun J hJ=>?_) ?_
  ·skip
   cases g380:(y320 && (decide (v13.2 = 4))) && (decide (v25.2 = 3))
   ·skip
    simp only [C.f14r11p10,R,Nat.reduceEqDiff,s_pt,s_gt,isW,Bool.false_eq_true,if_false,if_true,reduceIte,h364,g380]
    refine hJ _ ?_
    exact ⟨h358,h359,h360,h361,h362,h363,(by first | rfl | (simp only [g380]; rfl) | simp only [g380,Lk,RB,Nat.reduceEqDiff,not_false_eq_true]),f365,i366⟩
   ·skip
    simp only [C.f14r11p10,R,Nat.reduceEqDiff,s_pt,s_gt,isW,Bool.false_eq_true,if_false,if_true,reduceIte,h364,g380,h357]
    refine hJ _ ?_
    exact ⟨h358,h359,h360,h361,h362,h363,(by first | rfl | (simp only [g380]; rfl) | simp only [g380,Lk,RB,Nat.reduceEqDiff,not_false_eq_true]),f365,i366⟩
  rintro ⟨σ381,H370,d382⟩ ⟨h371,h372,h373,h374,h375,h376,h377,f378,i379⟩
  refine rn_app_k (fun ⟨σ,H,_⟩=>Lk σ 12 (.int .i64 (v61.2)) ∧ Lk σ 13 (.pointer (some ⟨b74,0,none⟩)) ∧ Lk σ 14 (.int .i64 (v73.2.1)) ∧ Lk σ 15 (.int .i64 (v73.2.2)) ∧ Lk σ 18 (.int .i64 (v92.2.2)) ∧ Lk σ 132 (.bool ((((y320 && (decide (v13.2 = 4))) && (decide (v25.2 = 3))) && (decide (v37.2 = 3))) && (decide (v49.2 = 3)))) ∧ H[b74]? = some (.cells (class_Set.c v73.1) 36) ∧ Iv c.nb [] H0 H) (fun J hJ=>?_) ?_
  ·skip
   cases g392:((y320 && (decide (v13.2 = 4))) && (decide (v25.2 = 3))) && (decide (v37.2 = 3))
   ·skip
    simp only [C.f14r11p11,R,Nat.reduceEqDiff,s_pt,s_gt,isW,Bool.false_eq_true,if_false,if_true,reduceIte,h377,g392]
    refine hJ _ ?_
    exact ⟨h372,h373,h374,h375,h376,(by first | rfl | (simp only [g392]; rfl) | simp only [g392,Lk,RB,Nat.reduceEqDiff,not_false_eq_true]),f378,i379⟩
   ·skip
    simp only [C.f14r11p11,R,Nat.reduceEqDiff,s_pt,s_gt,isW,Bool.false_eq_true,if_false,if_true,reduceIte,h377,g392,h371]
    refine hJ _ ?_
    exact ⟨h372,h373,h374,h375,h376,(by first | rfl | (simp only [g392]; rfl) | simp only [g392,Lk,RB,Nat.reduceEqDiff,not_false_eq_true]),f378,i379⟩
  rintro ⟨σ393,H383,d394⟩ ⟨h384,h385,h386,h387,h388,h389,f390,i391⟩
  refine rn_app_k (fun ⟨σ,H,_⟩=>Lk σ 13 (.pointer (some ⟨b74,0,none⟩)) ∧ Lk σ 14 (.int .i64 (v73.2.1)) ∧ Lk σ 15 (.int .i64 (v73.2.2)) ∧ Lk σ 18 (.int .i64 (v92.2.2)) ∧ Lk σ 136 (.bool (((((y320 && (decide (v13.2 = 4))) && (decide (v25.2 = 3))) && (decide (v37.2 = 3))) && (decide (v49.2 = 3))) && (decide (v61.2 = 3)))) ∧ H[b74]? = some (.cells (class_Set.c v73.1) 36) ∧ Iv c.nb [] H0 H) (fun J hJ=>?_) ?_
  ·skip
   cases g403:(((y320 && (decide (v13.2 = 4))) && (decide (v25.2 = 3))) && (decide (v37.2 = 3))) && (decide (v49.2 = 3))
   ·skip
    simp only [C.f14r11p12,R,Nat.reduceEqDiff,s_pt,s_gt,isW,Bool.false_eq_true,if_false,if_true,reduceIte,h389,g403]
    refine hJ _ ?_
    exact ⟨h385,h386,h387,h388,(by first | rfl | (simp only [g403]; rfl) | simp only [g403,Lk,RB,Nat.reduceEqDiff,not_false_eq_true]),f390,i391⟩
   ·skip
    simp only [C.f14r11p12,R,Nat.reduceEqDiff,s_pt,s_gt,isW,Bool.false_eq_true,if_false,if_true,reduceIte,h389,g403,h384]
    refine hJ _ ?_
    exact ⟨h385,h386,h387,h388,(by first | rfl | (simp only [g403]; rfl) | simp only [g403,Lk,RB,Nat.reduceEqDiff,not_false_eq_true]),f390,i391⟩
  rintro ⟨σ404,H395,d405⟩ ⟨h396,h397,h398,h399,h400,f401,i402⟩
  obtain ⟨y409,ey409,hm⟩:=bind_s hm
  refine rn_app_k (fun ⟨σ,H,_⟩=>Lk σ 14 (.int .i64 (v73.2.1)) ∧ Lk σ 15 (.int .i64 (v73.2.2)) ∧ Lk σ 18 (.int .i64 (v92.2.2)) ∧ Lk σ 141 (.bool (y409)) ∧ Iv c.nb [] H0 H) (fun J hJ=>?_) ?_
  ·skip
   cases g416:((((y320 && (decide (v13.2 = 4))) && (decide (v25.2 = 3))) && (decide (v37.2 = 3))) && (decide (v49.2 = 3))) && (decide (v61.2 = 3))
   ·skip
    have ey409:=cond_f ey409 g416
    obtain rfl:=Option.some.inj ey409
    simp only [C.f14r11p13,R,Nat.reduceEqDiff,s_pt,s_gt,isW,Bool.false_eq_true,if_false,if_true,reduceIte,h400,g416]
    refine hJ _ ?_
    exact ⟨h397,h398,h399,(by first | rfl | (simp only [g416]; rfl) | simp only [g416,Lk,RB,Nat.reduceEqDiff,not_false_eq_true]),i402⟩
   ·skip
    have ey409:=cond_t ey409 g416
    have a417:=ld_agg (M:=Mt) (t:=36) f401 T.ag36 (by rw [class_Set.enc.len]; exact T.sz36) Seg.refl
    obtain ⟨v419,ev419,ey409⟩:=bind_s ey409
    have a418:=ha_class_Of H395.length H395 ((⟨#[97,98,99]⟩:ByteArray)) v419 ev419
    obtain rfl:=Option.some.inj ey409
    simp only [C.f14r11p13,R,Nat.reduceEqDiff,s_pt,s_gt,isW,Bool.false_eq_true,if_false,if_true,reduceIte,h400,g416,a417,h396,c_fn F18,a418,eql36]
    refine hJ _ ?_
    exact ⟨h397,h398,h399,(by first | rfl | (simp only [g416]; rfl) | simp only [g416,Lk,RB,Nat.reduceEqDiff,not_false_eq_true]),i402⟩
  rintro ⟨σ420,H410,d421⟩ ⟨h411,h412,h413,h414,i415⟩
  refine rn_app_k (fun ⟨σ,H,_⟩=>Lk σ 15 (.int .i64 (v73.2.2)) ∧ Lk σ 18 (.int .i64 (v92.2.2)) ∧ Lk σ 145 (.bool (y409 && (decide (v73.2.1 = 6)))) ∧ Iv c.nb [] H0 H) (fun J hJ=>?_) ?_
  ·skip
   cases g427:y409
   ·skip
    simp only [C.f14r11p14,R,Nat.reduceEqDiff,s_pt,s_gt,isW,Bool.false_eq_true,if_false,if_true,reduceIte,h414,g427]
    refine hJ _ ?_
    exact ⟨h412,h413,(by first | rfl | (simp only [g427]; rfl) | simp only [g427,Lk,RB,Nat.reduceEqDiff,not_false_eq_true]),i415⟩
   ·skip
    simp only [C.f14r11p14,R,Nat.reduceEqDiff,s_pt,s_gt,isW,Bool.false_eq_true,if_false,if_true,reduceIte,h414,g427,h411]
    refine hJ _ ?_
    exact ⟨h412,h413,(by first | rfl | (simp only [g427]; rfl) | simp only [g427,Lk,RB,Nat.reduceEqDiff,not_false_eq_true]),i415⟩
  rintro ⟨σ428,H422,d429⟩ ⟨h423,h424,h425,i426⟩
  refine rn_app_k (fun ⟨σ,H,_⟩=>Lk σ 18 (.int .i64 (v92.2.2)) ∧ Lk σ 149 (.bool ((y409 && (decide (v73.2.1 = 6))) && (decide (v73.2.2 = 0)))) ∧ Iv c.nb [] H0 H) (fun J hJ=>?_) ?_
  ·skip
   cases g434:y409 && (decide (v73.2.1 = 6))
   ·skip
    simp only [C.f14r11p15,R,Nat.reduceEqDiff,s_pt,s_gt,isW,Bool.false_eq_true,if_false,if_true,reduceIte,h425,g434]
    refine hJ _ ?_
    exact ⟨h424,(by first | rfl | (simp only [g434]; rfl) | simp only [g434,Lk,RB,Nat.reduceEqDiff,not_false_eq_true]),i426⟩
   ·skip
    simp only [C.f14r11p15,R,Nat.reduceEqDiff,s_pt,s_gt,isW,Bool.false_eq_true,if_false,if_true,reduceIte,h425,g434,h423]
    refine hJ _ ?_
    exact ⟨h424,(by first | rfl | (simp only [g434]; rfl) | simp only [g434,Lk,RB,Nat.reduceEqDiff,not_false_eq_true]),i426⟩
  rintro ⟨σ435,H430,d436⟩ ⟨h431,h432,i433⟩
  refine rn_app_k (fun ⟨σ,H,_⟩=>Lk σ 153 (.bool (((y409 && (decide (v73.2.1 = 6))) && (decide (v73.2.2 = 0))) && (decide (v92.2.2 = 1)))) ∧ Iv c.nb [] H0 H) (fun J hJ=>?_) ?_
  ·skip
   cases g440:(y409 && (decide (v73.2.1 = 6))) && (decide (v73.2.2 = 0))
   ·skip
    simp only [C.f14r11p16,R,Nat.reduceEqDiff,s_pt,s_gt,isW,Bool.false_eq_true,if_false,if_true,reduceIte,h432,g440]
    refine hJ _ ?_
    exact ⟨(by first | rfl | (simp only [g440]; rfl) | simp only [g440,Lk,RB,Nat.reduceEqDiff,not_false_eq_true]),i433⟩
   ·skip
    simp only [C.f14r11p16,R,Nat.reduceEqDiff,s_pt,s_gt,isW,Bool.false_eq_true,if_false,if_true,reduceIte,h432,g440,h431]
    refine hJ _ ?_
    exact ⟨(by first | rfl | (simp only [g440]; rfl) | simp only [g440,Lk,RB,Nat.reduceEqDiff,not_false_eq_true]),i433⟩
  rintro ⟨σ441,H437,d442⟩ ⟨h438,i439⟩
  simp only [C.f14r11p17,R,Nat.reduceEqDiff,s_pt,s_gt,isW,Bool.false_eq_true,if_false,if_true,reduceIte,h438]
  refine hJ _ ?_
  refine tk_ret okM ?_
  obtain rfl:=Option.some.inj hm
  exact end_flat (.inl rfl) (vs:=[(.bool (((y409 && (decide (v73.2.1 = 6))) && (decide (v73.2.2 = 0))) && (decide (v92.2.2 = 1))))]) (resT' (v:=(.bool (((y409 && (decide (v73.2.1 = 6))) && (decide (v73.2.2 = 0))) && (decide (v92.2.2 = 1))))) rfl resN) (fm_cons rfl fm_nil)
def b_lex_Class_3 (c_class_Set_Or:T_class_Set_Or) (c_class_Set_Not:T_class_Set_Not) (c_strings_HasPrefix:T_strings_HasPrefix) (c_lex_span:T_lex_span) (n:Nat) (x138:class_Set) (x139:class_Set) (x8_140:Int):Option (class_Set × Int × Int):=some (x139,IntKind.i64.wrap (x8_140 + 1),0)
def b_lex_Class_2 (c_class_Set_Or:T_class_Set_Or) (c_class_Set_Not:T_class_Set_Not) (c_strings_HasPrefix:T_strings_HasPrefix) (c_lex_span:T_lex_span) (n:Nat):Nat → ByteArray → class_Set → class_Set → Int → Bool → Int → Option (class_Set × Int × Int)
 | 0,_,_,_,_,_,_=>none
 | k + 1,x0_81,x82,x83,x8_84,x9_85,x10_86=>(bif (decide (0 < x10_86)) && (decide (x8_84 < ((x0_81.size:Int)))) then ((bt x0_81 x8_84).bind fun v120=>some (decide (v120 = 93))) else some false).bind fun y121=>bif y121 then (bif x9_85 then ((c_class_Set_Not x83).bind fun v162=>b_lex_Class_3 c_class_Set_Or c_class_Set_Not c_strings_HasPrefix c_lex_span n x82 v162 x8_84) else (b_lex_Class_3 c_class_Set_Or c_class_Set_Not c_strings_HasPrefix c_lex_span n x82 x83 x8_84)) else ((sub x0_81 x8_84 x0_81.size).bind fun v169=>(c_lex_span v169).bind fun v171=>bif decide (v171.2 = 0) then (some (class_Set.zero,0,3)) else ((c_class_Set_Or x83 v171.1).bind fun v204=>b_lex_Class_2 c_class_Set_Or c_class_Set_Not c_strings_HasPrefix c_lex_span n k x0_81 x82 v204 (IntKind.i64.wrap (x8_84 + v171.2)) x9_85 (IntKind.i64.wrap (x10_86 + 1))))
def b_lex_Class_1 (c_class_Set_Or:T_class_Set_Or) (c_class_Set_Not:T_class_Set_Not) (c_strings_HasPrefix:T_strings_HasPrefix) (c_lex_span:T_lex_span) (n:Nat) (x0_58:ByteArray) (x59:class_Set) (x60:class_Set) (x8_61:Int) (x9_62:Bool):Option (class_Set × Int × Int):=b_lex_Class_2 c_class_Set_Or c_class_Set_Not c_strings_HasPrefix c_lex_span n n x0_58 x59 x60 x8_61 x9_62 0
def b_lex_Class (c_class_Set_Or:T_class_Set_Or) (c_class_Set_Not:T_class_Set_Not) (c_strings_HasPrefix:T_strings_HasPrefix) (c_lex_span:T_lex_span) (n:Nat) (x0:ByteArray) (x1:Int):Option (class_Set × Int × Int):=(bif (decide (x1 < 0)) || (decide (((x0.size:Int)) ≤ x1)) then some true else ((bt x0 x1).bind fun v25=>some (!decide (v25 = 91)))).bind fun y26=>bif y26 then (some (class_Set.zero,0,1)) else ((sub x0 (IntKind.i64.wrap (x1 + 1)) x0.size).bind fun v55=>(c_strings_HasPrefix v55 ((⟨#[94]⟩:ByteArray))).bind fun v57=>bif v57 then (b_lex_Class_1 c_class_Set_Or c_class_Set_Not c_strings_HasPrefix c_lex_span n x0 class_Set.zero class_Set.zero (IntKind.i64.wrap ((IntKind.i64.wrap (x1 + 1)) + 1)) v57) else (b_lex_Class_1 c_class_Set_Or c_class_Set_Not c_strings_HasPrefix c_lex_span n x0 class_Set.zero class_Set.zero (IntKind.i64.wrap (x1 + 1)) v57))
theorem w_lex_Class {call:CallF} (hok:CallOk Mt call) {n:Nat} {c_class_Set_Or:T_class_Set_Or} (ha_class_Set_Or:A_class_Set_Or call c_class_Set_Or) {c_class_Set_Not:T_class_Set_Not} (ha_class_Set_Not:A_class_Set_Not call c_class_Set_Not) {c_strings_HasPrefix:T_strings_HasPrefix} (ha_strings_HasPrefix:A_strings_HasPrefix call c_strings_HasPrefix) {c_lex_span:T_lex_span} (ha_lex_span:A_lex_span call c_lex_span) {H0:Hp} {x0:ByteArray} {x1:Int} {r:class_Set × Int × Int} {ro:Nat} (hro:ro ≤ H0.length) (hm:b_lex_Class c_class_Set_Or c_class_Set_Not c_strings_HasPrefix c_lex_span n x0 x1 = some r) (hG0:TabH0 H0) :
  Pt Mt ro 15 [(.string x0),(.int .i64 x1)] H0 (.tuple [(vAgg (class_Set.c (r.1))),(.int .i64 (r.2.1)),(.int .i64 (r.2.2))].toArray) H0 []:=by
 refine pt_new0 okM F15d (by exact Nat.le_of_ble_eq_true rfl) ?_ hro
 intro c hnt hnb hcr
 have hcn:c.ro ≤ c.nb:=by omega
 have iv:Iv c.nb [] H0 H0:=by rw [hnb]; exact iv_refl
 rw [show args0 [(.string x0),(.int .i64 x1)] = [(0,(.string x0)),(1,(.int .i64 x1))] from rfl]
 rw [b_lex_Class] at hm
 simp only [C.f15,C.f15b0]
 refine tk_os okM hok fun J hJ=>?_
 obtain ⟨b1,H2,a3,f4,q5,r6,x7,i8⟩:=al_ok H0 36 (class_Set.c class_Set.zero) iv.le
 have i9:=i8 _ _ iv
 simp only [C.f15r0,R,Nat.reduceEqDiff,zs36,a3]
 refine hJ _ ?_
 refine tk_scope_k fun K n11 x12=>?_
 refine tk_seq_k fun K n13 x14=>?_
 refine tk_os okM hok fun J hJ=>?_
 rw [C.f15r1]
 refine rn_app_k (fun ⟨σ,H,_⟩=>Lk σ 0 (.string (x0)) ∧ Lk σ 1 (.int .i64 (x1)) ∧ Lk σ 4 (.pointer (some ⟨b1,0,none⟩)) ∧ Lk σ 20 (.bool ((decide (x1 < 0)) || (decide (((x0.size:Int)) ≤ x1)))) ∧ H[b1]? = some (.cells (class_Set.c class_Set.zero) 36) ∧ Iv c.nb [] H0 H) (fun J hJ=>?_) ?_
 ·skip
  cases g22:decide (x1 < 0)
  ·skip
   simp only [C.f15r1p0,R,Nat.reduceEqDiff,g22,len_str (M:=Mt) Tryd.underlying9]
   refine hJ _ ?_
   exact ⟨(by first | rfl | (simp only [g22]; rfl) | simp only [g22,Lk,RB,Nat.reduceEqDiff,not_false_eq_true]),(by first | rfl | (simp only [g22]; rfl) | simp only [g22,Lk,RB,Nat.reduceEqDiff,not_false_eq_true]),rfl,(by first | rfl | (simp only [g22]; rfl) | simp only [g22,Lk,RB,Nat.reduceEqDiff,not_false_eq_true]),f4,i9⟩
  ·skip
   simp only [C.f15r1p0,R,Nat.reduceEqDiff,g22]
   refine hJ _ ?_
   exact ⟨(by first | rfl | (simp only [g22]; rfl) | simp only [g22,Lk,RB,Nat.reduceEqDiff,not_false_eq_true]),(by first | rfl | (simp only [g22]; rfl) | simp only [g22,Lk,RB,Nat.reduceEqDiff,not_false_eq_true]),rfl,(by first | rfl | (simp only [g22]; rfl) | simp only [g22,Lk,RB,Nat.reduceEqDiff,not_false_eq_true]),f4,i9⟩
 rintro ⟨σ23,H15,d24⟩ ⟨h16,h17,h18,h19,f20,i21⟩
 obtain ⟨y26,ey26,hm⟩:=bind_s hm
 refine rn_k (fun ⟨σ,H,_⟩=>Lk σ 0 (.string (x0)) ∧ Lk σ 1 (.int .i64 (x1)) ∧ Lk σ 4 (.pointer (some ⟨b1,0,none⟩)) ∧ Lk σ 26 (.bool (y26)) ∧ H[b1]? = some (.cells (class_Set.c class_Set.zero) 36) ∧ Iv c.nb [] H0 H) (fun J hJ=>?_) ?_
 ·skip
  cases g34:(decide (x1 < 0)) || (decide (((x0.size:Int)) ≤ x1))
  ·skip
   have ey26:=cond_f ey26 g34
   obtain ⟨v35,ev35,ey26⟩:=bind_s ey26
   obtain rfl:=Option.some.inj ey26
   simp only [C.f15r1p1,R,Nat.reduceEqDiff,h19,g34,h16,h17,idxP_str (M:=Mt) Tryd.underlying9,ev35]
   refine hJ _ ?_
   exact ⟨h16,h17,h18,(by first | rfl | (simp only [g34]; rfl) | simp only [g34,Lk,RB,Nat.reduceEqDiff,not_false_eq_true]),f20,i21⟩
  ·skip
   have ey26:=cond_t ey26 g34
   obtain rfl:=Option.some.inj ey26
   simp only [C.f15r1p1,R,Nat.reduceEqDiff,h19,g34]
   refine hJ _ ?_
   exact ⟨h16,h17,h18,(by first | rfl | (simp only [g34]; rfl) | simp only [g34,Lk,RB,Nat.reduceEqDiff,not_false_eq_true]),f20,i21⟩
 rintro ⟨σ36,H27,d37⟩ ⟨h28,h29,h30,h31,f32,i33⟩
 refine hJ _ ?_
 refine tk_cond (t:=y26) h31 (fun g38=>?_) (fun g38=>?_)
 ·replace hm:=cond_t hm g38
  refine tk_os okM hok fun J hJ=>?_
  obtain ⟨H39,a40,f41,u42⟩:=st_ok (M:=Mt) (t:=36) (v:=(vAgg (class_Set.c (class_Set.zero)))) (c:=class_Set.c class_Set.zero) (cs':=class_Set.c class_Set.zero) f32 (by rw [class_Set.enc.len]; exact T.sz36) vAgg_cells (class_Set.enc.one _) (Nat.le_trans hcn r6) (le0 class_Set.enc.len) (wrs_all (eqL class_Set.enc.len))
  have i43:=i33.up u42 r6
  simp only [C.f15r2,R,Nat.reduceEqDiff,bd36_,a40,h30]
  refine hJ _ ?_
  refine tk_ret okM ?_
  refine x14 _ _ (by simp) ?_
  refine x12 _ _ (by simp) (by simp) ?_
  obtain rfl:=Option.some.inj hm
  exact end_flat (.inl rfl) (vs:=[(vAgg (class_Set.c (class_Set.zero))),(.int .i64 (0)),(.int .i64 (1))]) (resC' (v:=(vAgg (class_Set.c (class_Set.zero)))) h30 (ldv_of (ld_agg (M:=Mt) (t:=36) f41 T.ag36 (by rw [class_Set.enc.len]; exact T.sz36) Seg.refl)) (resT' (v:=(.int .i64 (0))) rfl (resT' (v:=(.int .i64 (1))) rfl resN))) (fm_cons (flat_agg class_Set.enc _) (fm_cons rfl (fm_cons rfl fm_nil)))
 ·replace hm:=cond_f hm g38
  refine tk_skip okM ?_
  refine n13 _ ?_
  refine tk_os okM hok fun J hJ=>?_
  obtain ⟨b44,H45,a46,f47,q48,r49,x50,i51⟩:=al_ok H27 36 (class_Set.c class_Set.zero) i33.le
  have i52:=i51 _ _ i33
  have f53:=x50 _ _ f32
  simp only [C.f15r3,R,Nat.reduceEqDiff,zs36,a46]
  refine hJ _ ?_
  refine tk_os okM hok fun J hJ=>?_
  simp only [C.f15r4,R,Nat.reduceEqDiff,h29]
  refine hJ _ ?_
  refine tk_os okM hok fun J hJ=>?_
  obtain ⟨v55,ev55,hm⟩:=bind_s hm
  obtain ⟨v57,ev57,hm⟩:=bind_s hm
  have a56:=ha_strings_HasPrefix c.ro H45 v55 ((⟨#[94]⟩:ByteArray)) v57 ev57
  simp only [C.f15r5,R,Nat.reduceEqDiff,h28,sl_str (M:=Mt) Tryd.underlying9,ev55,c_fn F26,a56]
  refine hJ _ ?_
  refine tk_seq_j (fun ⟨σ,H,_⟩=>∃ x0_58 x59 x60 x8_61 x9_62,b_lex_Class_1 c_class_Set_Or c_class_Set_Not c_strings_HasPrefix c_lex_span n x0_58 x59 x60 x8_61 x9_62 = some r ∧ Lk σ 0 (.string x0_58) ∧ Lk σ 4 (.pointer (some ⟨b1,0,none⟩)) ∧ Lk σ 7 (.pointer (some ⟨b44,0,none⟩)) ∧ Lk σ 8 (.int .i64 x8_61) ∧ Lk σ 9 (.bool x9_62) ∧ H[b1]? = some (.cells (class_Set.c x59) 36) ∧ H[b44]? = some (.cells (class_Set.c x60) 36) ∧ Iv c.nb [] H0 H) ?_ ?_
  ·skip
   rintro ⟨σ72,H63,d73⟩ ⟨x0_58,x59,x60,x8_61,x9_62,hm,h64,h65,h66,h67,h68,f69,f70,i71⟩
   rw [b_lex_Class_1] at hm
   refine tk_os okM hok fun J hJ=>?_
   simp only [C.f15r8,R,Nat.reduceEqDiff]
   refine hJ _ ?_
   refine tk_seq_k fun K n74 x75=>?_
   refine tk_skip okM ?_
   refine n74 _ ?_
   refine tk_seq_k fun K n76 x77=>?_
   refine tk_block_k fun K n78 e79 x80=>?_
   refine tk_loop_k (n:=n) (fun k2 ⟨σ,H,_⟩=>∃ x0_81 x82 x83 x8_84 x9_85 x10_86,b_lex_Class_2 c_class_Set_Or c_class_Set_Not c_strings_HasPrefix c_lex_span n k2 x0_81 x82 x83 x8_84 x9_85 x10_86 = some r ∧ Lk σ 0 (.string x0_81) ∧ Lk σ 4 (.pointer (some ⟨b1,0,none⟩)) ∧ Lk σ 7 (.pointer (some ⟨b44,0,none⟩)) ∧ Lk σ 8 (.int .i64 x8_84) ∧ Lk σ 9 (.bool x9_85) ∧ Lk σ 10 (.int .i64 x10_86) ∧ H[b1]? = some (.cells (class_Set.c x82) 36) ∧ H[b44]? = some (.cells (class_Set.c x83) 36) ∧ Iv c.nb [] H0 H) ?_ ?_ ?_
   ·exact ⟨x0_58,x59,x60,x8_61,x9_62,0,hm,h64,h65,h66,h67,h68,rfl,f69,f70,i71⟩
   ·rintro ⟨σ,H,d⟩ ⟨_,_,_,_,_,_,hm,_⟩
    cases hm
   ·intro k2 K n87 x88
    rintro ⟨σ99,H89,d100⟩ ⟨x0_81,x82,x83,x8_84,x9_85,x10_86,hm,h90,h91,h92,h93,h94,h95,f96,f97,i98⟩
    rw [b_lex_Class_2.eq_2] at hm
    refine tk_block_k fun K n101 e102 x103=>?_
    refine tk_seq_k fun K n104 x105=>?_
    refine tk_os okM hok fun J hJ=>?_
    rw [C.f15r9]
    refine rn_app_k (fun ⟨σ,H,_⟩=>Lk σ 0 (.string (x0_81)) ∧ Lk σ 4 (.pointer (some ⟨b1,0,none⟩)) ∧ Lk σ 7 (.pointer (some ⟨b44,0,none⟩)) ∧ Lk σ 8 (.int .i64 (x8_84)) ∧ Lk σ 9 (.bool (x9_85)) ∧ Lk σ 10 (.int .i64 (x10_86)) ∧ Lk σ 44 (.bool ((decide (0 < x10_86)) && (decide (x8_84 < ((x0_81.size:Int)))))) ∧ H[b1]? = some (.cells (class_Set.c x82) 36) ∧ H[b44]? = some (.cells (class_Set.c x83) 36) ∧ Iv c.nb [] H0 H) (fun J hJ=>?_) ?_
    ·skip
     cases g117:decide (0 < x10_86)
     ·skip
      simp only [C.f15r9p0,R,Nat.reduceEqDiff,h95,g117]
      refine hJ _ ?_
      exact ⟨h90,h91,h92,h93,h94,h95,(by first | rfl | (simp only [g117]; rfl) | simp only [g117,Lk,RB,Nat.reduceEqDiff,not_false_eq_true]),f96,f97,i98⟩
     ·skip
      simp only [C.f15r9p0,R,Nat.reduceEqDiff,h95,g117,h93,h90,len_str (M:=Mt) Tryd.underlying9]
      refine hJ _ ?_
      exact ⟨h90,h91,h92,h93,h94,h95,(by first | rfl | (simp only [g117]; rfl) | simp only [g117,Lk,RB,Nat.reduceEqDiff,not_false_eq_true]),f96,f97,i98⟩
    rintro ⟨σ118,H106,d119⟩ ⟨h107,h108,h109,h110,h111,h112,h113,f114,f115,i116⟩
    obtain ⟨y121,ey121,hm⟩:=bind_s hm
    refine rn_k (fun ⟨σ,H,_⟩=>Lk σ 0 (.string (x0_81)) ∧ Lk σ 4 (.pointer (some ⟨b1,0,none⟩)) ∧ Lk σ 7 (.pointer (some ⟨b44,0,none⟩)) ∧ Lk σ 8 (.int .i64 (x8_84)) ∧ Lk σ 9 (.bool (x9_85)) ∧ Lk σ 10 (.int .i64 (x10_86)) ∧ Lk σ 50 (.bool (y121)) ∧ H[b1]? = some (.cells (class_Set.c x82) 36) ∧ H[b44]? = some (.cells (class_Set.c x83) 36) ∧ Iv c.nb [] H0 H) (fun J hJ=>?_) ?_
    ·skip
     cases g133:(decide (0 < x10_86)) && (decide (x8_84 < ((x0_81.size:Int))))
     ·skip
      have ey121:=cond_f ey121 g133
      obtain rfl:=Option.some.inj ey121
      simp only [C.f15r9p1,R,Nat.reduceEqDiff,h113,g133]
      refine hJ _ ?_
      exact ⟨h107,h108,h109,h110,h111,h112,(by first | rfl | (simp only [g133]; rfl) | simp only [g133,Lk,RB,Nat.reduceEqDiff,not_false_eq_true]),f114,f115,i116⟩
     ·skip
      have ey121:=cond_t ey121 g133
      obtain ⟨v134,ev134,ey121⟩:=bind_s ey121
      obtain rfl:=Option.some.inj ey121
      simp only [C.f15r9p1,R,Nat.reduceEqDiff,h113,g133,h107,h110,idxP_str (M:=Mt) Tryd.underlying9,ev134]
      refine hJ _ ?_
      exact ⟨h107,h108,h109,h110,h111,h112,(by first | rfl | (simp only [g133]; rfl) | simp only [g133,Lk,RB,Nat.reduceEqDiff,not_false_eq_true]),f114,f115,i116⟩
    rintro ⟨σ135,H122,d136⟩ ⟨h123,h124,h125,h126,h127,h128,h129,f130,f131,i132⟩
    refine hJ _ ?_
    refine tk_cond (t:=y121) h129 (fun g137=>?_) (fun g137=>?_)
    ·replace hm:=cond_t hm g137
     refine tk_exit okM ?_
     refine x105 _ _ (by simp) ?_
     refine x103 _ _ (by simp) (by simp) ?_
     refine x88 _ _ (by simp) ?_
     refine e79 _ ?_
     refine n76 _ ?_
     refine tk_seq_j (fun ⟨σ,H,_⟩=>∃ x138 x139 x8_140,b_lex_Class_3 c_class_Set_Or c_class_Set_Not c_strings_HasPrefix c_lex_span n x138 x139 x8_140 = some r ∧ Lk σ 4 (.pointer (some ⟨b1,0,none⟩)) ∧ Lk σ 7 (.pointer (some ⟨b44,0,none⟩)) ∧ Lk σ 8 (.int .i64 x8_140) ∧ H[b1]? = some (.cells (class_Set.c x138) 36) ∧ H[b44]? = some (.cells (class_Set.c x139) 36) ∧ Iv c.nb [] H0 H) ?_ ?_
     ·skip
      rintro ⟨σ148,H141,d149⟩ ⟨x138,x139,x8_140,hm,h142,h143,h144,f145,f146,i147⟩
      rw [b_lex_Class_3] at hm
      refine tk_os okM hok fun J hJ=>?_
      have a150:=ld_agg (M:=Mt) (t:=36) f146 T.ag36 (by rw [class_Set.enc.len]; exact T.sz36) Seg.refl
      obtain ⟨H151,a152,f153,u154⟩:=st_ok (M:=Mt) (t:=36) (v:=(vAgg (class_Set.c (x139)))) (c:=class_Set.c x139) (cs':=class_Set.c x139) f145 (by rw [class_Set.enc.len]; exact T.sz36) vAgg_cells (class_Set.enc.one _) (Nat.le_trans hcn r6) (le0 class_Set.enc.len) (wrs_all (eqL class_Set.enc.len))
      have i155:=i147.up u154 r6
      have f156:=(u154.get _ (ne_len f32 q48).symm).trans f146
      simp only [C.f15r17,R,Nat.reduceEqDiff,a150,h143,h144,a152,h142]
      refine hJ _ ?_
      refine tk_ret okM ?_
      refine x12 _ _ (by simp) (by simp) ?_
      obtain rfl:=Option.some.inj hm
      exact end_flat (.inl rfl) (vs:=[(vAgg (class_Set.c (x139))),(.int .i64 (IntKind.i64.wrap (x8_140 + 1))),(.int .i64 (0))]) (resC' (v:=(vAgg (class_Set.c (x139)))) h142 (ldv_of (ld_agg (M:=Mt) (t:=36) f153 T.ag36 (by rw [class_Set.enc.len]; exact T.sz36) Seg.refl)) (resT' (v:=(.int .i64 (IntKind.i64.wrap (x8_140 + 1)))) rfl (resT' (v:=(.int .i64 (0))) rfl resN))) (fm_cons (flat_agg class_Set.enc _) (fm_cons rfl (fm_cons rfl fm_nil)))
     ·refine fun K n157 x158=>?_
      refine tk_os okM hok fun J hJ=>?_
      simp only [C.f15r15,R,Nat.reduceEqDiff,h127]
      refine hJ _ ?_
      refine tk_cond (t:=x9_85) rfl (fun g159=>?_) (fun g159=>?_)
      ·replace hm:=cond_t hm g159
       refine tk_oe okM hok fun J hJ=>?_
       have a160:=ld_agg (M:=Mt) (t:=36) f131 T.ag36 (by rw [class_Set.enc.len]; exact T.sz36) Seg.refl
       obtain ⟨v162,ev162,hm⟩:=bind_s hm
       have a161:=ha_class_Set_Not c.ro H122 x83 v162 ev162
       obtain ⟨H163,a164,f165,u166⟩:=st_ok (M:=Mt) (t:=36) (v:=(vAgg (class_Set.c (v162)))) (c:=class_Set.c v162) (cs':=class_Set.c v162) f131 (by rw [class_Set.enc.len]; exact T.sz36) vAgg_cells (class_Set.enc.one _) (Nat.le_trans hcn r49) (le0 class_Set.enc.len) (wrs_all (eqL class_Set.enc.len))
       have i167:=i132.up u166 r49
       have f168:=(u166.get _ (ne_len f32 q48)).trans f130
       simp only [C.f15r16,R,Nat.reduceEqDiff,a160,h125,c_fn F25,a161,a164]
       refine hJ _ ?_
       refine n157 _ ?_
       exact ⟨x82,v162,x8_84,hm,h124,h125,h126,f168,f165,i167⟩
      ·replace hm:=cond_f hm g159
       refine tk_skip okM ?_
       refine n157 _ ?_
       exact ⟨x82,x83,x8_84,hm,h124,h125,h126,f130,f131,i132⟩
    ·replace hm:=cond_f hm g137
     refine tk_skip okM ?_
     refine n104 _ ?_
     refine tk_os okM hok fun J hJ=>?_
     obtain ⟨v169,ev169,hm⟩:=bind_s hm
     obtain ⟨v171,ev171,hm⟩:=bind_s hm
     have a170:=ha_lex_span c.ro H122 v169 v171 (tabIv0 i132 hnb hG0) ev171
     obtain ⟨b172,H173,a174,f175,q176,r177,x178,i179⟩:=al_ok H122 36 (class_Set.c class_Set.zero) i132.le
     have i180:=i179 _ _ i132
     have f181:=x178 _ _ f130
     have f182:=x178 _ _ f131
     obtain ⟨H184,a185,f186,u187⟩:=st_ok (M:=Mt) (t:=36) (v:=(vAgg (class_Set.c (v171.1)))) (c:=class_Set.c v171.1) (cs':=class_Set.c v171.1) f175 (by rw [class_Set.enc.len]; exact T.sz36) vAgg_cells (class_Set.enc.one _) (Nat.le_trans hcn r177) (le0 class_Set.enc.len) (wrs_all (eqL class_Set.enc.len))
     have i188:=i180.up u187 r177
     have f189:=(u187.get _ (ne_len f130 q176)).trans f181
     have f190:=(u187.get _ (ne_len f131 q176)).trans f182
     simp only [C.f15r10,R,Nat.reduceEqDiff,h123,h126,sl_str (M:=Mt) Tryd.underlying9,ev169,c_fn F27,a170,zs36,a174,a185]
     refine hJ _ ?_
     refine tk_seq_k fun K n191 x192=>?_
     refine tk_os okM hok fun J hJ=>?_
     simp only [C.f15r11,R,Nat.reduceEqDiff]
     refine hJ _ ?_
     refine tk_cond (t:=decide (v171.2 = 0)) rfl (fun g193=>?_) (fun g193=>?_)
     ·replace hm:=cond_t hm g193
      refine tk_os okM hok fun J hJ=>?_
      obtain ⟨H194,a195,f196,u197⟩:=st_ok (M:=Mt) (t:=36) (v:=(vAgg (class_Set.c (class_Set.zero)))) (c:=class_Set.c class_Set.zero) (cs':=class_Set.c class_Set.zero) f189 (by rw [class_Set.enc.len]; exact T.sz36) vAgg_cells (class_Set.enc.one _) (Nat.le_trans hcn r6) (le0 class_Set.enc.len) (wrs_all (eqL class_Set.enc.len))
      have i198:=i188.up u197 r6
      have f199:=(u197.get _ (ne_len f32 q48).symm).trans f190
      have f200:=(u197.get _ (ne_len f130 q176).symm).trans f186
      simp only [C.f15r12,R,Nat.reduceEqDiff,bd36_,a195,h124]
      refine hJ _ ?_
      refine tk_ret okM ?_
      refine x192 _ _ (by simp) ?_
      refine x103 _ _ (by simp) (by simp) ?_
      refine x88 _ _ (by simp) ?_
      refine x80 _ _ (by simp) (by simp) ?_
      refine x77 _ _ (by simp) ?_
      refine x12 _ _ (by simp) (by simp) ?_
      obtain rfl:=Option.some.inj hm
      exact end_flat (.inl rfl) (vs:=[(vAgg (class_Set.c (class_Set.zero))),(.int .i64 (0)),(.int .i64 (3))]) (resC' (v:=(vAgg (class_Set.c (class_Set.zero)))) h124 (ldv_of (ld_agg (M:=Mt) (t:=36) f196 T.ag36 (by rw [class_Set.enc.len]; exact T.sz36) Seg.refl)) (resT' (v:=(.int .i64 (0))) rfl (resT' (v:=(.int .i64 (3))) rfl resN))) (fm_cons (flat_agg class_Set.enc _) (fm_cons rfl (fm_cons rfl fm_nil)))
     ·replace hm:=cond_f hm g193
      refine tk_skip okM ?_
      refine n191 _ ?_
      refine tk_os okM hok fun J hJ=>?_
      have a201:=ld_agg (M:=Mt) (t:=36) f190 T.ag36 (by rw [class_Set.enc.len]; exact T.sz36) Seg.refl
      have a202:=ld_agg (M:=Mt) (t:=36) f186 T.ag36 (by rw [class_Set.enc.len]; exact T.sz36) Seg.refl
      obtain ⟨v204,ev204,hm⟩:=bind_s hm
      have a203:=ha_class_Set_Or c.ro H184 x83 v171.1 v204 ev204
      obtain ⟨H205,a206,f207,u208⟩:=st_ok (M:=Mt) (t:=36) (v:=(vAgg (class_Set.c (v204)))) (c:=class_Set.c v204) (cs':=class_Set.c v204) f190 (by rw [class_Set.enc.len]; exact T.sz36) vAgg_cells (class_Set.enc.one _) (Nat.le_trans hcn r49) (le0 class_Set.enc.len) (wrs_all (eqL class_Set.enc.len))
      have i209:=i188.up u208 r49
      have f210:=(u208.get _ (ne_len f32 q48)).trans f189
      have f211:=(u208.get _ (ne_len f131 q176).symm).trans f186
      simp only [C.f15r13,R,Nat.reduceEqDiff,a201,h125,a202,c_fn F21,a203,h126,a206]
      refine hJ _ ?_
      refine tk_oe okM hok fun J hJ=>?_
      simp only [C.f15r14,R,Nat.reduceEqDiff,h128]
      refine hJ _ ?_
      refine n101 _ ?_
      refine n87 _ ?_
      exact ⟨x0_81,x82,v204,IntKind.i64.wrap (x8_84 + v171.2),x9_85,IntKind.i64.wrap (x10_86 + 1),hm,h123,h124,h125,rfl,h127,rfl,f210,f207,i209⟩
  ·refine fun K n212 x213=>?_
   refine tk_os okM hok fun J hJ=>?_
   simp only [C.f15r6,R,Nat.reduceEqDiff]
   refine hJ _ ?_
   refine tk_cond (t:=v57) rfl (fun g214=>?_) (fun g214=>?_)
   ·replace hm:=cond_t hm g214
    refine tk_oe okM hok fun J hJ=>?_
    simp only [C.f15r7,R,Nat.reduceEqDiff]
    refine hJ _ ?_
    refine n212 _ ?_
    exact ⟨x0,class_Set.zero,class_Set.zero,IntKind.i64.wrap ((IntKind.i64.wrap (x1 + 1)) + 1),v57,hm,h28,h30,rfl,rfl,rfl,f53,f47,i52⟩
   ·replace hm:=cond_f hm g214
    refine tk_skip okM ?_
    refine n212 _ ?_
    exact ⟨x0,class_Set.zero,class_Set.zero,IntKind.i64.wrap (x1 + 1),v57,hm,h28,h30,rfl,rfl,rfl,f53,f47,i52⟩
end Go.Proofs.YtcjnmmeibppblaaDoor
