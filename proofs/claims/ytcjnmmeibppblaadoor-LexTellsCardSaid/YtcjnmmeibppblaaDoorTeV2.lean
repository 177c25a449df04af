import Derived.Test.YtcjnmmeibppblaaDoorTeBase
set_option maxRecDepth 100000
set_option linter.unusedVariables false
set_option linter.unusedSimpArgs false
namespace Go.Proofs.YtcjnmmeibppblaaDoor
open Go Go.AM
attribute [local congr] bind_first map_first
def b_ref06_token_1 (c_ref06_Class:T_ref06_Class) (c_ref06_starts:T_ref06_starts) (c_ref01_Words:T_ref01_Words) (c_ref06_flags:T_ref06_flags) (c_ref06_quant:T_ref06_quant) (c_ref06_one:T_ref06_one) (c_ref06_escape:T_ref06_escape) (n:Nat):Nat → ByteArray → Int → ref06_Token → Int → Sl ByteArray → Sl Int → Int → Option (ref06_Token × Int × Int)
 | 0,_,_,_,_,_,_,_=>none
 | k + 1,x0_40,x1_41,x42,x7_43,l44,l46,x10_48=>bif decide (x10_48 < (Sl.len l44)) then ((ck (Sl.l l44).length x10_48).bind fun j77=>(c_ref06_starts x0_40 x1_41 (Sl.nth l44 j77)).bind fun v82=>bif v82 then ((ck (Sl.l l46).length x10_48).bind fun j91=>some (({ ref06_Token.zero with f_Kind:=Sl.nth l46 j91 }:ref06_Token),IntKind.i64.wrap (x1_41 + (((Sl.nth l44 j77).size:Int))),0)) else (b_ref06_token_1 c_ref06_Class c_ref06_starts c_ref01_Words c_ref06_flags c_ref06_quant c_ref06_one c_ref06_escape n k x0_40 x1_41 x42 x7_43 l44 l46 (IntKind.i64.wrap (x10_48 + 1)))) else ((c_ref06_starts x0_40 x1_41 ((⟨#[40,63]⟩:ByteArray))).bind fun v108=>bif v108 then ((c_ref06_flags x0_40 x1_41).bind fun v111=>some (v111.1,v111.2.1,v111.2.2)) else (bif decide (x7_43 = 40) then (some (({ ref06_Token.zero with f_Kind:=7 }:ref06_Token),IntKind.i64.wrap (x1_41 + 1),0)) else (bif (((decide (x7_43 = 42)) || (decide (x7_43 = 43))) || (decide (x7_43 = 63))) || (decide (x7_43 = 123)) then ((c_ref06_quant x0_40 x1_41).bind fun v162=>some (v162.1,v162.2.1,v162.2.2)) else (bif decide (x7_43 = 91) then ((c_ref06_Class x0_40 x1_41).bind fun v172=>some (({ ref06_Token.zero with f_Set:=v172.1 }:ref06_Token),v172.2.1,v172.2.2)) else (bif (decide (x7_43 = 93)) || (decide (x7_43 = 125)) then (some (ref06_Token.zero,0,3)) else (bif !decide (x7_43 = 92) then ((c_ref06_one x7_43).bind fun v220=>(c_ref01_Words v220).bind fun v222=>some (({ ref06_Token.zero with f_Set:=v222 }:ref06_Token),IntKind.i64.wrap (x1_41 + 1),0)) else ((bif decide ((IntKind.i64.wrap (x1_41 + 1)) < ((x0_40.size:Int))) then ((bt x0_40 (IntKind.i64.wrap (x1_41 + 1))).bind fun v230=>some (decide (49 ≤ v230))) else some false).bind fun y231=>(bif y231 then ((bt x0_40 (IntKind.i64.wrap (x1_41 + 1))).bind fun v243=>some (decide (v243 ≤ 57))) else some false).bind fun y244=>bif y244 then ((bt x0_40 (IntKind.i64.wrap (x1_41 + 1))).bind fun v257=>some (({ ref06_Token.zero with f_Kind:=17,f_N:=IntKind.i64.wrap ((IntKind.i64.wrap v257) - 48) }:ref06_Token),IntKind.i64.wrap (x1_41 + 2),0)) else ((c_ref06_escape x0_40 x1_41).bind fun v264=>bif decide (v264.2 = 0) then (some (ref06_Token.zero,0,3)) else ((c_ref01_Words v264.1).bind fun v293=>some (({ ref06_Token.zero with f_Set:=v293 }:ref06_Token),v264.2,0))))))))))
def b_ref06_token (c_ref06_Class:T_ref06_Class) (c_ref06_starts:T_ref06_starts) (c_ref01_Words:T_ref01_Words) (c_ref06_flags:T_ref06_flags) (c_ref06_quant:T_ref06_quant) (c_ref06_one:T_ref06_one) (c_ref06_escape:T_ref06_escape) (n:Nat) (x0:ByteArray) (x1:Int):Option (ref06_Token × Int × Int):=(bt x0 x1).bind fun v11=>b_ref06_token_1 c_ref06_Class c_ref06_starts c_ref01_Words c_ref06_flags c_ref06_quant c_ref06_one c_ref06_escape n n x0 x1 ref06_Token.zero v11 (some ([(⟨#[46]⟩:ByteArray),(⟨#[94]⟩:ByteArray),(⟨#[36]⟩:ByteArray),(⟨#[92,98]⟩:ByteArray),(⟨#[92,66]⟩:ByteArray),(⟨#[124]⟩:ByteArray),(⟨#[40,63,58]⟩:ByteArray),(⟨#[40,63,61]⟩:ByteArray),(⟨#[40,63,33]⟩:ByteArray),(⟨#[40,63,60,61]⟩:ByteArray),(⟨#[40,63,60,33]⟩:ByteArray),(⟨#[40,63,62]⟩:ByteArray),(⟨#[41]⟩:ByteArray)]:List ByteArray)) (some ([1,2,3,4,5,6,8,9,10,11,12,13,15]:List Int)) 0
theorem w_ref06_token {call:CallF} (hok:CallOk Mt call) {n:Nat} {c_ref06_Class:T_ref06_Class} (ha_ref06_Class:A_ref06_Class call c_ref06_Class) {c_ref06_starts:T_ref06_starts} (ha_ref06_starts:A_ref06_starts call c_ref06_starts) {c_ref01_Words:T_ref01_Words} (ha_ref01_Words:A_ref01_Words call c_ref01_Words) {c_ref06_flags:T_ref06_flags} (ha_ref06_flags:A_ref06_flags call c_ref06_flags) {c_ref06_quant:T_ref06_quant} (ha_ref06_quant:A_ref06_quant call c_ref06_quant) {c_ref06_one:T_ref06_one} (ha_ref06_one:A_ref06_one call c_ref06_one) {c_ref06_escape:T_ref06_escape} (ha_ref06_escape:A_ref06_escape call c_ref06_escape) {H0:Hp} {x0:ByteArray} {x1:Int} {r:ref06_Token × Int × Int} {ro:Nat} (hro:ro ≤ H0.length) (hm:b_ref06_token c_ref06_Class c_ref06_starts c_ref01_Words c_ref06_flags c_ref06_quant c_ref06_one c_ref06_escape n x0 x1 = some r) :
  Pt Mt ro 24 [(.string x0),(.int .i64 x1)] H0 (.tuple [(vAgg (ref06_Token.c (r.1))),(.int .i64 (r.2.1)),(.int .i64 (r.2.2))].toArray) H0 []:=by
 refine pt_new0 okM F24d (by exact Nat.le_of_ble_eq_true rfl) ?_ hro
 intro c hnt hnb hcr
 have hcn:c.ro ≤ c.nb:=by omega
 have iv:Iv c.nb [] H0 H0:=by rw [hnb]; exact iv_refl
 rw [show args0 [(.string x0),(.int .i64 x1)] = [(0,(.string x0)),(1,(.int .i64 x1))] from rfl]
 rw [b_ref06_token] at hm
 simp only [C.f24,C.f24b0]
 refine tk_os okM hok fun J hJ=>?_
 obtain ⟨b1,H2,a3,f4,q5,r6,x7,i8⟩:=al_ok H0 59 (ref06_Token.c ref06_Token.zero) iv.le
 have i9:=i8 _ _ iv
 simp only [C.f24r0,R,Nat.reduceEqDiff,zs59,a3]
 refine hJ _ ?_
 refine tk_os okM hok fun J hJ=>?_
 obtain ⟨v11,ev11,hm⟩:=bind_s hm
 simp only [C.f24r1,R,Nat.reduceEqDiff,idxP_str (M:=Mt) Tryd.underlying9,ev11]
 refine hJ _ ?_
 refine tk_os okM hok fun J hJ=>?_
 obtain ⟨b12,H13,a14,f15,q16,r17,x18,i19⟩:=bs_ok (M:=Mt) (t:=52) (e:=9) (c:=cStr) (l:=([(⟨#[46]⟩:ByteArray),(⟨#[94]⟩:ByteArray),(⟨#[36]⟩:ByteArray),(⟨#[92,98]⟩:ByteArray),(⟨#[92,66]⟩:ByteArray),(⟨#[124]⟩:ByteArray),(⟨#[40,63,58]⟩:ByteArray),(⟨#[40,63,61]⟩:ByteArray),(⟨#[40,63,33]⟩:ByteArray),(⟨#[40,63,60,61]⟩:ByteArray),(⟨#[40,63,60,33]⟩:ByteArray),(⟨#[40,63,62]⟩:ByteArray),(⟨#[41]⟩:ByteArray)]:List ByteArray)) (ps:=[(0,(.string ((⟨#[46]⟩:ByteArray)))),(1,(.string ((⟨#[94]⟩:ByteArray)))),(2,(.string ((⟨#[36]⟩:ByteArray)))),(3,(.string ((⟨#[92,98]⟩:ByteArray)))),(4,(.string ((⟨#[92,66]⟩:ByteArray)))),(5,(.string ((⟨#[124]⟩:ByteArray)))),(6,(.string ((⟨#[40,63,58]⟩:ByteArray)))),(7,(.string ((⟨#[40,63,61]⟩:ByteArray)))),(8,(.string ((⟨#[40,63,33]⟩:ByteArray)))),(9,(.string ((⟨#[40,63,60,61]⟩:ByteArray)))),(10,(.string ((⟨#[40,63,60,33]⟩:ByteArray)))),(11,(.string ((⟨#[40,63,62]⟩:ByteArray)))),(12,(.string ((⟨#[41]⟩:ByteArray))))]) (n:=13) H2 i9.le Tryd.underlying52 (zs9) rfl (by simp only [List.length_cons,List.length_nil]; decide) (fun _=>rfl) enc_str.one rfl rfl
 have i20:=i19 _ _ i9
 have f21:=x18 _ _ f4
 simp only [C.f24r2,R,Nat.reduceEqDiff,a14]
 refine hJ _ ?_
 refine tk_os okM hok fun J hJ=>?_
 obtain ⟨b23,H24,a25,f26,q27,r28,x29,i30⟩:=bs_ok (M:=Mt) (t:=81) (e:=3) (c:=(cInt .i64)) (l:=([1,2,3,4,5,6,8,9,10,11,12,13,15]:List Int)) (ps:=[(0,(.int .i64 (1))),(1,(.int .i64 (2))),(2,(.int .i64 (3))),(3,(.int .i64 (4))),(4,(.int .i64 (5))),(5,(.int .i64 (6))),(6,(.int .i64 (8))),(7,(.int .i64 (9))),(8,(.int .i64 (10))),(9,(.int .i64 (11))),(10,(.int .i64 (12))),(11,(.int .i64 (13))),(12,(.int .i64 (15)))]) (n:=13) H13 i20.le Tryd.underlying81 (zs3) rfl (by simp only [List.length_cons,List.length_nil]; decide) (fun _=>rfl) enc_int.one rfl rfl
 have i31:=i30 _ _ i20
 have f32:=x29 _ _ f21
 have f33:=f15.ex x29
 simp only [C.f24r3,R,Nat.reduceEqDiff,a25]
 refine hJ _ ?_
 refine tk_seq_k fun K n35 x36=>?_
 refine tk_os okM hok fun J hJ=>?_
 simp only [C.f24r4,R,Nat.reduceEqDiff]
 refine hJ _ ?_
 refine tk_block_k fun K n37 e38 x39=>?_
 refine tk_loop_k (n:=n) (fun k1 ⟨σ,H,_⟩=>∃ x0_40 x1_41 x42 x7_43 l44 l46 x10_48 b45 b47,b_ref06_token_1 c_ref06_Class c_ref06_starts c_ref01_Words c_ref06_flags c_ref06_quant c_ref06_one c_ref06_escape n k1 x0_40 x1_41 x42 x7_43 l44 l46 x10_48 = some r ∧ Lk σ 0 (.string x0_40) ∧ Lk σ 1 (.int .i64 x1_41) ∧ Lk σ 4 (.pointer (some ⟨b1,0,none⟩)) ∧ Lk σ 7 (.int .u8 x7_43) ∧ Lk σ 8 (slV l44 b45) ∧ Lk σ 9 (slV l46 b47) ∧ Lk σ 10 (.int .i64 x10_48) ∧ H[b1]? = some (.cells (ref06_Token.c x42) 59) ∧ SlO c.nb H cStr 9 l44 b45 ∧ SlO c.nb H (cInt .i64) 3 l46 b47 ∧ (l44 ≠ none → b45 ≠ b1) ∧ (l46 ≠ none → b47 ≠ b1) ∧ Iv c.nb [] H0 H) ?_ ?_ ?_
 ·exact ⟨x0,x1,ref06_Token.zero,v11,some ([(⟨#[46]⟩:ByteArray),(⟨#[94]⟩:ByteArray),(⟨#[36]⟩:ByteArray),(⟨#[92,98]⟩:ByteArray),(⟨#[92,66]⟩:ByteArray),(⟨#[124]⟩:ByteArray),(⟨#[40,63,58]⟩:ByteArray),(⟨#[40,63,61]⟩:ByteArray),(⟨#[40,63,33]⟩:ByteArray),(⟨#[40,63,60,61]⟩:ByteArray),(⟨#[40,63,60,33]⟩:ByteArray),(⟨#[40,63,62]⟩:ByteArray),(⟨#[41]⟩:ByteArray)]:List ByteArray),some ([1,2,3,4,5,6,8,9,10,11,12,13,15]:List Int),0,b12,b23,hm,rfl,rfl,rfl,rfl,rfl,rfl,rfl,f32,f33,f26,(fun _=>(ne_len f4 q16).symm),(fun _=>(ne_len f21 q27).symm),i31⟩
 ·rintro ⟨σ,H,d⟩ ⟨_,_,_,_,_,_,_,_,_,hm,_⟩
  cases hm
 ·intro k1 K n49 x50
  rintro ⟨σ67,H51,d68⟩ ⟨x0_40,x1_41,x42,x7_43,l44,l46,x10_48,b45,b47,hm,h54,h55,h56,h57,h58,h59,h60,f61,f62,f63,n64,n65,i66⟩
  rw [b_ref06_token_1.eq_2] at hm
  refine tk_seq_k fun K n69 x70=>?_
  refine tk_os okM hok fun J hJ=>?_
  simp only [C.f24r5,R,Nat.reduceEqDiff,h60,h58,ln52]
  refine hJ _ ?_
  refine tk_cond (t:=decide (x10_48 < (Sl.len l44))) rfl (fun g71=>?_) (fun g71=>?_)
  ·replace hm:=cond_t hm g71
   refine tk_skip okM ?_
   refine n69 _ ?_
   refine tk_seq_k fun K n72 x73=>?_
   refine tk_block_k fun K n74 e75 x76=>?_
   refine tk_os okM hok fun J hJ=>?_
   obtain ⟨j77,ej77,hm⟩:=bind_s hm
   obtain ⟨mm78,k79⟩:=f62.h.blk (ck_lt ej77).1
   have a80:=ld_one (M:=Mt) (t:=9) k79 T.ag9 (seg_sl enc_str.len mm78 (ck_lt ej77).1)
   obtain ⟨v82,ev82,hm⟩:=bind_s hm
   have a81:=ha_ref06_starts c.ro H51 x0_40 x1_41 (Sl.nth l44 j77) v82 ev82
   simp only [C.f24r7,R,Nat.reduceEqDiff,h54,h55,h58,h60,ia52,ej77,a80,c_fn F28,a81]
   refine hJ _ ?_
   refine tk_cond (t:=v82) rfl (fun g83=>?_) (fun g83=>?_)
   ·replace hm:=cond_t hm g83
    refine tk_late_s okM hok h56 f61 (Nat.le_trans hcn r6) r6 fun J hJ=>?_
    obtain ⟨H84,q85⟩:∃ x,x = H51.set b1 .dead:=⟨_,rfl⟩
    rw [show H51.set b1 Blk.dead = H84 from q85.symm]
    have u86:Up b1 H51 H84:=by rw [q85]; exact up_set
    have f87:H84[b1]? = some .dead:=by rw [q85]; exact get_set f61
    have i88:=i66.up u86 r6
    have f89:=f62.up u86 n64
    have f90:=f63.up u86 n65
    obtain ⟨j91,ej91,hm⟩:=bind_s hm
    obtain ⟨mm92,k93⟩:=f90.h.blk (ck_lt ej91).1
    have a94:=ld_one (M:=Mt) (t:=3) k93 T.ag3 (seg_sl enc_int.len mm92 (ck_lt ej91).1)
    obtain ⟨mm95,k96⟩:=f89.h.blk (ck_lt ej77).1
    have a97:=ld_one (M:=Mt) (t:=9) k96 T.ag9 (seg_sl enc_str.len mm95 (ck_lt ej77).1)
    simp only [C.f24r8,R,Nat.reduceEqDiff,s_pt,s_gt,isW,Bool.false_eq_true,if_false,if_true,reduceIte,h59,h60,ia81,ej91,a94,bd59_0,h55,h58,ia52,ej77,a97,len_str (M:=Mt) Tryd.underlying9,h56]
    refine hJ _ (vAgg (ref06_Token.c (({ ref06_Token.zero with f_Kind:=Sl.nth l46 j91 }:ref06_Token)))) rfl (flat_agg ref06_Token.enc _) (by rw [vAgg_cells]; exact List.all_eq_true.2 (ref06_Token.enc.one _)) (by rw [vAgg_cells,ref06_Token.enc.len]; exact T.sz59) (by rw [vAgg_cells]; exact le0 ref06_Token.enc.len) f87 ?_
    obtain ⟨H98,q99⟩:∃ x,x = H84.set b1 (.cells (ref06_Token.c (({ ref06_Token.zero with f_Kind:=Sl.nth l46 j91 }:ref06_Token))) 59):=⟨_,rfl⟩
    have u100:Up b1 H84 H98:=by rw [q99]; exact up_set
    have f101:H98[b1]? = some (.cells (ref06_Token.c (({ ref06_Token.zero with f_Kind:=Sl.nth l46 j91 }:ref06_Token))) 59):=by rw [q99]; exact get_set f87
    have i102:=i88.up u100 r6
    dsimp only; rw [vAgg_cells,wrs_all (eqL ref06_Token.enc.len),← q99]
    have f103:=f89.up u100 n64
    have f104:=f90.up u100 n65
    refine tk_ret okM ?_
    refine x76 _ _ (by simp) (by simp) ?_
    refine x73 _ _ (by simp) ?_
    refine x50 _ _ (by simp) ?_
    refine x39 _ _ (by simp) (by simp) ?_
    refine x36 _ _ (by simp) ?_
    obtain rfl:=Option.some.inj hm
    exact end_flat (.inl rfl) (vs:=[(vAgg (ref06_Token.c (({ ref06_Token.zero with f_Kind:=Sl.nth l46 j91 }:ref06_Token)))),(.int .i64 (IntKind.i64.wrap (x1_41 + (((Sl.nth l44 j77).size:Int))))),(.int .i64 (0))]) (resC' (v:=(vAgg (ref06_Token.c (({ ref06_Token.zero with f_Kind:=Sl.nth l46 j91 }:ref06_Token))))) h56 (ldv_of (ld_agg (M:=Mt) (t:=59) f101 T.ag59 (by rw [ref06_Token.enc.len]; exact T.sz59) Seg.refl)) (resT' (v:=(.int .i64 (IntKind.i64.wrap (x1_41 + (((Sl.nth l44 j77).size:Int)))))) rfl (resT' (v:=(.int .i64 (0))) rfl resN))) (fm_cons (flat_agg ref06_Token.enc _) (fm_cons rfl (fm_cons rfl fm_nil)))
   ·replace hm:=cond_f hm g83
    refine tk_skip okM ?_
    refine n74 _ ?_
    refine n72 _ ?_
    refine tk_oe okM hok fun J hJ=>?_
    simp only [C.f24r6,R,Nat.reduceEqDiff,h60]
    refine hJ _ ?_
    refine n49 _ ?_
    exact ⟨x0_40,x1_41,x42,x7_43,l44,l46,IntKind.i64.wrap (x10_48 + 1),b45,b47,hm,h54,h55,h56,h57,h58,h59,rfl,f61,f62,f63,n64,n65,i66⟩
  ·replace hm:=cond_f hm g71
   refine tk_exit okM ?_
   refine x70 _ _ (by simp) ?_
   refine x50 _ _ (by simp) ?_
   refine e38 _ ?_
   refine n35 _ ?_
   refine tk_seq_k fun K n105 x106=>?_
   refine tk_os okM hok fun J hJ=>?_
   obtain ⟨v108,ev108,hm⟩:=bind_s hm
   have a107:=ha_ref06_starts c.ro H51 x0_40 x1_41 ((⟨#[40,63]⟩:ByteArray)) v108 ev108
   simp only [C.f24r9,R,Nat.reduceEqDiff,h54,h55,c_fn F28,a107]
   refine hJ _ ?_
   refine tk_cond (t:=v108) rfl (fun g109=>?_) (fun g109=>?_)
   ·replace hm:=cond_t hm g109
    refine tk_os okM hok fun J hJ=>?_
    obtain ⟨v111,ev111,hm⟩:=bind_s hm
    have a110:=ha_ref06_flags c.ro H51 x0_40 x1_41 v111 ev111
    obtain ⟨H112,a113,f114,u115⟩:=st_ok (M:=Mt) (t:=59) (v:=(vAgg (ref06_Token.c (v111.1)))) (c:=ref06_Token.c v111.1) (cs':=ref06_Token.c v111.1) f61 (by rw [ref06_Token.enc.len]; exact T.sz59) vAgg_cells (ref06_Token.enc.one _) (Nat.le_trans hcn r6) (le0 ref06_Token.enc.len) (wrs_all (eqL ref06_Token.enc.len))
    have i116:=i66.up u115 r6
    simp only [C.f24r10,R,Nat.reduceEqDiff,h54,h55,c_fn F41,a110,a113,h56]
    refine hJ _ ?_
    refine tk_ret okM ?_
    refine x106 _ _ (by simp) ?_
    obtain rfl:=Option.some.inj hm
    exact end_flat (.inl rfl) (vs:=[(vAgg (ref06_Token.c (v111.1))),(.int .i64 (v111.2.1)),(.int .i64 (v111.2.2))]) (resC' (v:=(vAgg (ref06_Token.c (v111.1)))) h56 (ldv_of (ld_agg (M:=Mt) (t:=59) f114 T.ag59 (by rw [ref06_Token.enc.len]; exact T.sz59) Seg.refl)) (resT' (v:=(.int .i64 (v111.2.1))) rfl (resT' (v:=(.int .i64 (v111.2.2))) rfl resN))) (fm_cons (flat_agg ref06_Token.enc _) (fm_cons rfl (fm_cons rfl fm_nil)))
   ·replace hm:=cond_f hm g109
    refine tk_skip okM ?_
    refine n105 _ ?_
    refine tk_seq_k fun K n117 x118=>?_
    refine tk_os okM hok fun J hJ=>?_
    simp only [C.f24r11,R,Nat.reduceEqDiff,h57]
    refine hJ _ ?_
    refine tk_cond (t:=decide (x7_43 = 40)) rfl (fun g119=>?_) (fun g119=>?_)
    ·replace hm:=cond_t hm g119
     refine tk_os okM hok fun J hJ=>?_
     obtain ⟨H120,a121,f122,u123⟩:=st_ok (M:=Mt) (t:=59) (v:=(vAgg (ref06_Token.c (({ ref06_Token.zero with f_Kind:=7 }:ref06_Token))))) (c:=ref06_Token.c (({ ref06_Token.zero with f_Kind:=7 }:ref06_Token))) (cs':=ref06_Token.c (({ ref06_Token.zero with f_Kind:=7 }:ref06_Token))) f61 (by rw [ref06_Token.enc.len]; exact T.sz59) vAgg_cells (ref06_Token.enc.one _) (Nat.le_trans hcn r6) (le0 ref06_Token.enc.len) (wrs_all (eqL ref06_Token.enc.len))
     have i124:=i66.up u123 r6
     simp only [C.f24r12,R,Nat.reduceEqDiff,bd59_0,h55,a121,h56]
     refine hJ _ ?_
     refine tk_ret okM ?_
     refine x118 _ _ (by simp) ?_
     obtain rfl:=Option.some.inj hm
     exact end_flat (.inl rfl) (vs:=[(vAgg (ref06_Token.c (({ ref06_Token.zero with f_Kind:=7 }:ref06_Token)))),(.int .i64 (IntKind.i64.wrap (x1_41 + 1))),(.int .i64 (0))]) (resC' (v:=(vAgg (ref06_Token.c (({ ref06_Token.zero with f_Kind:=7 }:ref06_Token))))) h56 (ldv_of (ld_agg (M:=Mt) (t:=59) f122 T.ag59 (by rw [ref06_Token.enc.len]; exact T.sz59) Seg.refl)) (resT' (v:=(.int .i64 (IntKind.i64.wrap (x1_41 + 1)))) rfl (resT' (v:=(.int .i64 (0))) rfl resN))) (fm_cons (flat_agg ref06_Token.enc _) (fm_cons rfl (fm_cons rfl fm_nil)))
    ·replace hm:=cond_f hm g119
     refine tk_skip okM ?_
     refine n117 _ ?_
     refine tk_seq_k fun K n125 x126=>?_
     refine tk_os okM hok fun J hJ=>?_
     rw [C.f24r13]
     refine rn_app_k (fun ⟨σ,H,_⟩=>Lk σ 0 (.string (x0_40)) ∧ Lk σ 1 (.int .i64 (x1_41)) ∧ Lk σ 4 (.pointer (some ⟨b1,0,none⟩)) ∧ Lk σ 7 (.int .u8 (x7_43)) ∧ Lk σ 65 (.bool ((decide (x7_43 = 42)) || (decide (x7_43 = 43)))) ∧ H[b1]? = some (.cells (ref06_Token.c x42) 59) ∧ Iv c.nb [] H0 H) (fun J hJ=>?_) ?_
     ·skip
      cases g135:decide (x7_43 = 42)
      ·skip
       simp only [C.f24r13p0,R,Nat.reduceEqDiff,h57,g135]
       refine hJ _ ?_
       exact ⟨h54,h55,h56,h57,(by first | rfl | (simp only [g135]; rfl) | simp only [g135,Lk,RB,Nat.reduceEqDiff,not_false_eq_true]),f61,i66⟩
      ·skip
       simp only [C.f24r13p0,R,Nat.reduceEqDiff,h57,g135]
       refine hJ _ ?_
       exact ⟨h54,h55,h56,h57,(by first | rfl | (simp only [g135]; rfl) | simp only [g135,Lk,RB,Nat.reduceEqDiff,not_false_eq_true]),f61,i66⟩
     rintro ⟨σ136,H127,d137⟩ ⟨h128,h129,h130,h131,h132,f133,i134⟩
     refine rn_app_k (fun ⟨σ,H,_⟩=>Lk σ 0 (.string (x0_40)) ∧ Lk σ 1 (.int .i64 (x1_41)) ∧ Lk σ 4 (.pointer (some ⟨b1,0,none⟩)) ∧ Lk σ 7 (.int .u8 (x7_43)) ∧ Lk σ 69 (.bool (((decide (x7_43 = 42)) || (decide (x7_43 = 43))) || (decide (x7_43 = 63)))) ∧ H[b1]? = some (.cells (ref06_Token.c x42) 59) ∧ Iv c.nb [] H0 H) (fun J hJ=>?_) ?_
     ·skip
      cases g146:(decide (x7_43 = 42)) || (decide (x7_43 = 43))
      ·skip
       simp only [C.f24r13p1,R,Nat.reduceEqDiff,h132,g146,h131]
       refine hJ _ ?_
       exact ⟨h128,h129,h130,h131,(by first | rfl | (simp only [g146]; rfl) | simp only [g146,Lk,RB,Nat.reduceEqDiff,not_false_eq_true]),f133,i134⟩
      ·skip
       simp only [C.f24r13p1,R,Nat.reduceEqDiff,h132,g146]
       refine hJ _ ?_
       exact ⟨h128,h129,h130,h131,(by first | rfl | (simp only [g146]; rfl) | simp only [g146,Lk,RB,Nat.reduceEqDiff,not_false_eq_true]),f133,i134⟩
     rintro ⟨σ147,H138,d148⟩ ⟨h139,h140,h141,h142,h143,f144,i145⟩
     refine rn_k (fun ⟨σ,H,_⟩=>Lk σ 0 (.string (x0_40)) ∧ Lk σ 1 (.int .i64 (x1_41)) ∧ Lk σ 4 (.pointer (some ⟨b1,0,none⟩)) ∧ Lk σ 7 (.int .u8 (x7_43)) ∧ Lk σ 73 (.bool ((((decide (x7_43 = 42)) || (decide (x7_43 = 43))) || (decide (x7_43 = 63))) || (decide (x7_43 = 123)))) ∧ H[b1]? = some (.cells (ref06_Token.c x42) 59) ∧ Iv c.nb [] H0 H) (fun J hJ=>?_) ?_
     ·skip
      cases g157:((decide (x7_43 = 42)) || (decide (x7_43 = 43))) || (decide (x7_43 = 63))
      ·skip
       simp only [C.f24r13p2,R,Nat.reduceEqDiff,h143,g157,h142]
       refine hJ _ ?_
       exact ⟨h139,h140,h141,h142,(by first | rfl | (simp only [g157]; rfl) | simp only [g157,Lk,RB,Nat.reduceEqDiff,not_false_eq_true]),f144,i145⟩
      ·skip
       simp only [C.f24r13p2,R,Nat.reduceEqDiff,h143,g157]
       refine hJ _ ?_
       exact ⟨h139,h140,h141,h142,(by first | rfl | (simp only [g157]; rfl) | simp only [g157,Lk,RB,Nat.reduceEqDiff,not_false_eq_true]),f144,i145⟩
     rintro ⟨σ158,H149,d159⟩ ⟨h150,h151,h152,h153,h154,f155,i156⟩
     refine hJ _ ?_
     refine tk_cond (t:=(((decide (x7_43 = 42)) || (decide (x7_43 = 43))) || (decide (x7_43 = 63))) || (decide (x7_43 = 123))) h154 (fun g160=>?_) (fun g160=>?_)
     ·replace hm:=cond_t hm g160
      refine tk_os okM hok fun J hJ=>?_
      obtain ⟨v162,ev162,hm⟩:=bind_s hm
      have a161:=ha_ref06_quant c.ro H149 x0_40 x1_41 v162 ev162
      obtain ⟨H163,a164,f165,u166⟩:=st_ok (M:=Mt) (t:=59) (v:=(vAgg (ref06_Token.c (v162.1)))) (c:=ref06_Token.c v162.1) (cs':=ref06_Token.c v162.1) f155 (by rw [ref06_Token.enc.len]; exact T.sz59) vAgg_cells (ref06_Token.enc.one _) (Nat.le_trans hcn r6) (le0 ref06_Token.enc.len) (wrs_all (eqL ref06_Token.enc.len))
      have i167:=i156.up u166 r6
      simp only [C.f24r14,R,Nat.reduceEqDiff,h150,h151,c_fn F42,a161,a164,h152]
      refine hJ _ ?_
      refine tk_ret okM ?_
      refine x126 _ _ (by simp) ?_
      obtain rfl:=Option.some.inj hm
      exact end_flat (.inl rfl) (vs:=[(vAgg (ref06_Token.c (v162.1))),(.int .i64 (v162.2.1)),(.int .i64 (v162.2.2))]) (resC' (v:=(vAgg (ref06_Token.c (v162.1)))) h152 (ldv_of (ld_agg (M:=Mt) (t:=59) f165 T.ag59 (by rw [ref06_Token.enc.len]; exact T.sz59) Seg.refl)) (resT' (v:=(.int .i64 (v162.2.1))) rfl (resT' (v:=(.int .i64 (v162.2.2))) rfl resN))) (fm_cons (flat_agg ref06_Token.enc _) (fm_cons rfl (fm_cons rfl fm_nil)))
     ·replace hm:=cond_f hm g160
      refine tk_skip okM ?_
      refine n125 _ ?_
      refine tk_seq_k fun K n168 x169=>?_
      refine tk_os okM hok fun J hJ=>?_
      simp only [C.f24r15,R,Nat.reduceEqDiff,h153]
      refine hJ _ ?_
      refine tk_cond (t:=decide (x7_43 = 91)) rfl (fun g170=>?_) (fun g170=>?_)
      ·replace hm:=cond_t hm g170
       refine tk_os okM hok fun J hJ=>?_
       obtain ⟨v172,ev172,hm⟩:=bind_s hm
       have a171:=ha_ref06_Class c.ro H149 x0_40 x1_41 v172 ev172
       obtain ⟨b173,H174,a175,f176,q177,r178,x179,i180⟩:=al_ok H149 34 ((cArr (n:=4) (cInt .u64)) (Arr.rep 4 0)) i156.le
       have i181:=i180 _ _ i156
       have f182:=x179 _ _ f155
       obtain ⟨H184,a185,f186,u187⟩:=st_ok (M:=Mt) (t:=34) (v:=(vAgg ((cArr (n:=4) (cInt .u64)) (v172.1)))) (c:=(cArr (n:=4) (cInt .u64)) v172.1) (cs':=(cArr (n:=4) (cInt .u64)) v172.1) f176 (by rw [(enc_arr (n:=4) enc_int).len]; exact T.sz34) vAgg_cells ((enc_arr (n:=4) enc_int).one _) (Nat.le_trans hcn r178) (le0 (enc_arr (n:=4) enc_int).len) (wrs_all (eqL (enc_arr (n:=4) enc_int).len))
       have i188:=i181.up u187 r178
       have f189:=(u187.get _ (ne_len f155 q177)).trans f182
       simp only [C.f24r16,R,Nat.reduceEqDiff,h150,h151,c_fn F16,a171,zs34,a175,a185]
       refine hJ _ ?_
       refine tk_os okM hok fun J hJ=>?_
       have a190:=ld_agg (M:=Mt) (t:=34) f186 T.ag34 (by rw [(enc_arr (n:=4) enc_int).len]; exact T.sz34) Seg.refl
       obtain ⟨H191,a192,f193,u194⟩:=st_ok (M:=Mt) (t:=59) (v:=(vAgg (ref06_Token.c (({ ref06_Token.zero with f_Set:=v172.1 }:ref06_Token))))) (c:=ref06_Token.c (({ ref06_Token.zero with f_Set:=v172.1 }:ref06_Token))) (cs':=ref06_Token.c (({ ref06_Token.zero with f_Set:=v172.1 }:ref06_Token))) f189 (by rw [ref06_Token.enc.len]; exact T.sz59) vAgg_cells (ref06_Token.enc.one _) (Nat.le_trans hcn r6) (le0 ref06_Token.enc.len) (wrs_all (eqL ref06_Token.enc.len))
       have i195:=i188.up u194 r6
       have f196:=(u194.get _ (ne_len f155 q177).symm).trans f186
       simp only [C.f24r17,R,Nat.reduceEqDiff,a190,bd59_1,a192,h152]
       refine hJ _ ?_
       refine tk_ret okM ?_
       refine x169 _ _ (by simp) ?_
       obtain rfl:=Option.some.inj hm
       exact end_flat (.inl rfl) (vs:=[(vAgg (ref06_Token.c (({ ref06_Token.zero with f_Set:=v172.1 }:ref06_Token)))),(.int .i64 (v172.2.1)),(.int .i64 (v172.2.2))]) (resC' (v:=(vAgg (ref06_Token.c (({ ref06_Token.zero with f_Set:=v172.1 }:ref06_Token))))) h152 (ldv_of (ld_agg (M:=Mt) (t:=59) f193 T.ag59 (by rw [ref06_Token.enc.len]; exact T.sz59) Seg.refl)) (resT' (v:=(.int .i64 (v172.2.1))) rfl (resT' (v:=(.int .i64 (v172.2.2))) rfl resN))) (fm_cons (flat_agg ref06_Token.enc _) (fm_cons rfl (fm_cons rfl fm_nil)))
      ·replace hm:=cond_f hm g170
       refine tk_skip okM ?_
       refine n168 _ ?_
       refine tk_seq_k fun K n197 x198=>?_
       refine tk_os okM hok fun J hJ=>?_
       refine rn_k (fun ⟨σ,H,_⟩=>Lk σ 0 (.string (x0_40)) ∧ Lk σ 1 (.int .i64 (x1_41)) ∧ Lk σ 4 (.pointer (some ⟨b1,0,none⟩)) ∧ Lk σ 7 (.int .u8 (x7_43)) ∧ Lk σ 98 (.bool ((decide (x7_43 = 93)) || (decide (x7_43 = 125)))) ∧ H[b1]? = some (.cells (ref06_Token.c x42) 59) ∧ Iv c.nb [] H0 H) (fun J hJ=>?_) ?_
       ·skip
        cases g207:decide (x7_43 = 93)
        ·skip
         simp only [C.f24r18,R,Nat.reduceEqDiff,h153,g207]
         refine hJ _ ?_
         exact ⟨h150,h151,h152,h153,(by first | rfl | (simp only [g207]; rfl) | simp only [g207,Lk,RB,Nat.reduceEqDiff,not_false_eq_true]),f155,i156⟩
        ·skip
         simp only [C.f24r18,R,Nat.reduceEqDiff,h153,g207]
         refine hJ _ ?_
         exact ⟨h150,h151,h152,h153,(by first | rfl | (simp only [g207]; rfl) | simp only [g207,Lk,RB,Nat.reduceEqDiff,not_false_eq_true]),f155,i156⟩
       rintro ⟨σ208,H199,d209⟩ ⟨h200,h201,h202,h203,h204,f205,i206⟩
       refine hJ _ ?_
       refine tk_cond (t:=(decide (x7_43 = 93)) || (decide (x7_43 = 125))) h204 (fun g210=>?_) (fun g210=>?_)
       ·replace hm:=cond_t hm g210
        refine tk_os okM hok fun J hJ=>?_
        obtain ⟨H211,a212,f213,u214⟩:=st_ok (M:=Mt) (t:=59) (v:=(vAgg (ref06_Token.c (ref06_Token.zero)))) (c:=ref06_Token.c ref06_Token.zero) (cs':=ref06_Token.c ref06_Token.zero) f205 (by rw [ref06_Token.enc.len]; exact T.sz59) vAgg_cells (ref06_Token.enc.one _) (Nat.le_trans hcn r6) (le0 ref06_Token.enc.len) (wrs_all (eqL ref06_Token.enc.len))
        have i215:=i206.up u214 r6
        simp only [C.f24r19,R,Nat.reduceEqDiff,bd59_,a212,h202]
        refine hJ _ ?_
        refine tk_ret okM ?_
        refine x198 _ _ (by simp) ?_
        obtain rfl:=Option.some.inj hm
        exact end_flat (.inl rfl) (vs:=[(vAgg (ref06_Token.c (ref06_Token.zero))),(.int .i64 (0)),(.int .i64 (3))]) (resC' (v:=(vAgg (ref06_Token.c (ref06_Token.zero)))) h202 (ldv_of (ld_agg (M:=Mt) (t:=59) f213 T.ag59 (by rw [ref06_Token.enc.len]; exact T.sz59) Seg.refl)) (resT' (v:=(.int .i64 (0))) rfl (resT' (v:=(.int .i64 (3))) rfl resN))) (fm_cons (flat_agg ref06_Token.enc _) (fm_cons rfl (fm_cons rfl fm_nil)))
       ·replace hm:=cond_f hm g210
        refine tk_skip okM ?_
        refine n197 _ ?_
        refine tk_seq_k fun K n216 x217=>?_
        refine tk_os okM hok fun J hJ=>?_
        simp only [C.f24r20,R,Nat.reduceEqDiff,h203]
        refine hJ _ ?_
        refine tk_cond (t:=!decide (x7_43 = 92)) rfl (fun g218=>?_) (fun g218=>?_)
        ·replace hm:=cond_t hm g218
         refine tk_os okM hok fun J hJ=>?_
         obtain ⟨v220,ev220,hm⟩:=bind_s hm
         have a219:=ha_ref06_one c.ro H199 x7_43 v220 ev220
         obtain ⟨v222,ev222,hm⟩:=bind_s hm
         have a221:=ha_ref01_Words c.ro H199 v220 v222 ev222
         obtain ⟨H223,a224,f225,u226⟩:=st_ok (M:=Mt) (t:=59) (v:=(vAgg (ref06_Token.c (({ ref06_Token.zero with f_Set:=v222 }:ref06_Token))))) (c:=ref06_Token.c (({ ref06_Token.zero with f_Set:=v222 }:ref06_Token))) (cs':=ref06_Token.c (({ ref06_Token.zero with f_Set:=v222 }:ref06_Token))) f205 (by rw [ref06_Token.enc.len]; exact T.sz59) vAgg_cells (ref06_Token.enc.one _) (Nat.le_trans hcn r6) (le0 ref06_Token.enc.len) (wrs_all (eqL ref06_Token.enc.len))
         have i227:=i206.up u226 r6
         simp only [C.f24r21,R,Nat.reduceEqDiff,h203,c_fn F43,a219,c_fn F35,a221,bd59_1,h201,a224,h202]
         refine hJ _ ?_
         refine tk_ret okM ?_
         refine x217 _ _ (by simp) ?_
         obtain rfl:=Option.some.inj hm
         exact end_flat (.inl rfl) (vs:=[(vAgg (ref06_Token.c (({ ref06_Token.zero with f_Set:=v222 }:ref06_Token)))),(.int .i64 (IntKind.i64.wrap (x1_41 + 1))),(.int .i64 (0))]) (resC' (v:=(vAgg (ref06_Token.c (({ ref06_Token.zero with f_Set:=v222 }:ref06_Token))))) h202 (ldv_of (ld_agg (M:=Mt) (t:=59) f225 T.ag59 (by rw [ref06_Token.enc.len]; exact T.sz59) Seg.refl)) (resT' (v:=(.int .i64 (IntKind.i64.wrap (x1_41 + 1)))) rfl (resT' (v:=(.int .i64 (0))) rfl resN))) (fm_cons (flat_agg ref06_Token.enc _) (fm_cons rfl (fm_cons rfl fm_nil)))
        ·replace hm:=cond_f hm g218
         refine tk_skip okM ?_
         refine n216 _ ?_
         refine tk_seq_k fun K n228 x229=>?_
         refine tk_os okM hok fun J hJ=>?_
         rw [C.f24r22]
         obtain ⟨y231,ey231,hm⟩:=bind_s hm
         refine rn_app_k (fun ⟨σ,H,_⟩=>Lk σ 0 (.string (x0_40)) ∧ Lk σ 1 (.int .i64 (x1_41)) ∧ Lk σ 4 (.pointer (some ⟨b1,0,none⟩)) ∧ Lk σ 119 (.bool (y231)) ∧ H[b1]? = some (.cells (ref06_Token.c x42) 59) ∧ Iv c.nb [] H0 H) (fun J hJ=>?_) ?_
         ·skip
          cases g239:decide ((IntKind.i64.wrap (x1_41 + 1)) < ((x0_40.size:Int)))
          ·skip
           have ey231:=cond_f ey231 g239
           obtain rfl:=Option.some.inj ey231
           simp only [C.f24r22p0,R,Nat.reduceEqDiff,h201,h200,len_str (M:=Mt) Tryd.underlying9,g239]
           refine hJ _ ?_
           exact ⟨h200,h201,h202,(by first | rfl | (simp only [g239]; rfl) | simp only [g239,Lk,RB,Nat.reduceEqDiff,not_false_eq_true]),f205,i206⟩
          ·skip
           have ey231:=cond_t ey231 g239
           obtain ⟨v240,ev240,ey231⟩:=bind_s ey231
           obtain rfl:=Option.some.inj ey231
           simp only [C.f24r22p0,R,Nat.reduceEqDiff,h201,h200,len_str (M:=Mt) Tryd.underlying9,g239,idxP_str (M:=Mt) Tryd.underlying9,ev240]
           refine hJ _ ?_
           exact ⟨h200,h201,h202,(by first | rfl | (simp only [g239]; rfl) | simp only [g239,Lk,RB,Nat.reduceEqDiff,not_false_eq_true]),f205,i206⟩
         rintro ⟨σ241,H232,d242⟩ ⟨h233,h234,h235,h236,f237,i238⟩
         obtain ⟨y244,ey244,hm⟩:=bind_s hm
         refine rn_k (fun ⟨σ,H,_⟩=>Lk σ 0 (.string (x0_40)) ∧ Lk σ 1 (.int .i64 (x1_41)) ∧ Lk σ 4 (.pointer (some ⟨b1,0,none⟩)) ∧ Lk σ 126 (.bool (y244)) ∧ H[b1]? = some (.cells (ref06_Token.c x42) 59) ∧ Iv c.nb [] H0 H) (fun J hJ=>?_) ?_
         ·skip
          cases g252:y231
          ·skip
           have ey244:=cond_f ey244 g252
           obtain rfl:=Option.some.inj ey244
           simp only [C.f24r22p1,R,Nat.reduceEqDiff,h236,g252]
           refine hJ _ ?_
           exact ⟨h233,h234,h235,(by first | rfl | (simp only [g252]; rfl) | simp only [g252,Lk,RB,Nat.reduceEqDiff,not_false_eq_true]),f237,i238⟩
          ·skip
           have ey244:=cond_t ey244 g252
           obtain ⟨v253,ev253,ey244⟩:=bind_s ey244
           obtain rfl:=Option.some.inj ey244
           simp only [C.f24r22p1,R,Nat.reduceEqDiff,h236,g252,h233,h234,idxP_str (M:=Mt) Tryd.underlying9,ev253]
           refine hJ _ ?_
           exact ⟨h233,h234,h235,(by first | rfl | (simp only [g252]; rfl) | simp only [g252,Lk,RB,Nat.reduceEqDiff,not_false_eq_true]),f237,i238⟩
         rintro ⟨σ254,H245,d255⟩ ⟨h246,h247,h248,h249,f250,i251⟩
         refine hJ _ ?_
         refine tk_cond (t:=y244) h249 (fun g256=>?_) (fun g256=>?_)
         ·replace hm:=cond_t hm g256
          refine tk_os okM hok fun J hJ=>?_
          obtain ⟨v257,ev257,hm⟩:=bind_s hm
          obtain ⟨H258,a259,f260,u261⟩:=st_ok (M:=Mt) (t:=59) (v:=(vAgg (ref06_Token.c (({ ref06_Token.zero with f_Kind:=17,f_N:=IntKind.i64.wrap ((IntKind.i64.wrap v257) - 48) }:ref06_Token))))) (c:=ref06_Token.c (({ ref06_Token.zero with f_Kind:=17,f_N:=IntKind.i64.wrap ((IntKind.i64.wrap v257) - 48) }:ref06_Token))) (cs':=ref06_Token.c (({ ref06_Token.zero with f_Kind:=17,f_N:=IntKind.i64.wrap ((IntKind.i64.wrap v257) - 48) }:ref06_Token))) f250 (by rw [ref06_Token.enc.len]; exact T.sz59) vAgg_cells (ref06_Token.enc.one _) (Nat.le_trans hcn r6) (le0 ref06_Token.enc.len) (wrs_all (eqL ref06_Token.enc.len))
          have i262:=i251.up u261 r6
          simp only [C.f24r23,R,Nat.reduceEqDiff,h246,h247,idxP_str (M:=Mt) Tryd.underlying9,ev257,cv_int (M:=Mt) Tryd.underlying5 Tryd.underlying3,bd59_0_5,a259,h248]
          refine hJ _ ?_
          refine tk_ret okM ?_
          refine x229 _ _ (by simp) ?_
          obtain rfl:=Option.some.inj hm
          exact end_flat (.inl rfl) (vs:=[(vAgg (ref06_Token.c (({ ref06_Token.zero with f_Kind:=17,f_N:=IntKind.i64.wrap ((IntKind.i64.wrap v257) - 48) }:ref06_Token)))),(.int .i64 (IntKind.i64.wrap (x1_41 + 2))),(.int .i64 (0))]) (resC' (v:=(vAgg (ref06_Token.c (({ ref06_Token.zero with f_Kind:=17,f_N:=IntKind.i64.wrap ((IntKind.i64.wrap v257) - 48) }:ref06_Token))))) h248 (ldv_of (ld_agg (M:=Mt) (t:=59) f260 T.ag59 (by rw [ref06_Token.enc.len]; exact T.sz59) Seg.refl)) (resT' (v:=(.int .i64 (IntKind.i64.wrap (x1_41 + 2)))) rfl (resT' (v:=(.int .i64 (0))) rfl resN))) (fm_cons (flat_agg ref06_Token.enc _) (fm_cons rfl (fm_cons rfl fm_nil)))
         ·replace hm:=cond_f hm g256
          refine tk_skip okM ?_
          refine n228 _ ?_
          refine tk_os okM hok fun J hJ=>?_
          obtain ⟨v264,ev264,hm⟩:=bind_s hm
          have a263:=ha_ref06_escape c.ro H245 x0_40 x1_41 v264 ev264
          obtain ⟨b265,H266,a267,f268,q269,r270,x271,i272⟩:=al_ok H245 68 (ref01_Set.c ref01_Set.zero) i251.le
          have i273:=i272 _ _ i251
          have f274:=x271 _ _ f250
          obtain ⟨H276,a277,f278,u279⟩:=st_ok (M:=Mt) (t:=68) (v:=(vAgg (ref01_Set.c (v264.1)))) (c:=ref01_Set.c v264.1) (cs':=ref01_Set.c v264.1) f268 (by rw [ref01_Set.enc.len]; exact T.sz68) vAgg_cells (ref01_Set.enc.one _) (Nat.le_trans hcn r270) (le0 ref01_Set.enc.len) (wrs_all (eqL ref01_Set.enc.len))
          have i280:=i273.up u279 r270
          have f281:=(u279.get _ (ne_len f250 q269)).trans f274
          simp only [C.f24r24,R,Nat.reduceEqDiff,h246,h247,c_fn F44,a263,zs68,a267,a277]
          refine hJ _ ?_
          refine tk_seq_k fun K n282 x283=>?_
          refine tk_os okM hok fun J hJ=>?_
          simp only [C.f24r25,R,Nat.reduceEqDiff]
          refine hJ _ ?_
          refine tk_cond (t:=decide (v264.2 = 0)) rfl (fun g284=>?_) (fun g284=>?_)
          ·replace hm:=cond_t hm g284
           refine tk_os okM hok fun J hJ=>?_
           obtain ⟨H285,a286,f287,u288⟩:=st_ok (M:=Mt) (t:=59) (v:=(vAgg (ref06_Token.c (ref06_Token.zero)))) (c:=ref06_Token.c ref06_Token.zero) (cs':=ref06_Token.c ref06_Token.zero) f281 (by rw [ref06_Token.enc.len]; exact T.sz59) vAgg_cells (ref06_Token.enc.one _) (Nat.le_trans hcn r6) (le0 ref06_Token.enc.len) (wrs_all (eqL ref06_Token.enc.len))
           have i289:=i280.up u288 r6
           have f290:=(u288.get _ (ne_len f250 q269).symm).trans f278
           simp only [C.f24r26,R,Nat.reduceEqDiff,bd59_,a286,h248]
           refine hJ _ ?_
           refine tk_ret okM ?_
           refine x283 _ _ (by simp) ?_
           obtain rfl:=Option.some.inj hm
           exact end_flat (.inl rfl) (vs:=[(vAgg (ref06_Token.c (ref06_Token.zero))),(.int .i64 (0)),(.int .i64 (3))]) (resC' (v:=(vAgg (ref06_Token.c (ref06_Token.zero)))) h248 (ldv_of (ld_agg (M:=Mt) (t:=59) f287 T.ag59 (by rw [ref06_Token.enc.len]; exact T.sz59) Seg.refl)) (resT' (v:=(.int .i64 (0))) rfl (resT' (v:=(.int .i64 (3))) rfl resN))) (fm_cons (flat_agg ref06_Token.enc _) (fm_cons rfl (fm_cons rfl fm_nil)))
          ·replace hm:=cond_f hm g284
           refine tk_skip okM ?_
           refine n282 _ ?_
           refine tk_os okM hok fun J hJ=>?_
           have a291:=ld_agg (M:=Mt) (t:=68) f278 T.ag68 (by rw [ref01_Set.enc.len]; exact T.sz68) Seg.refl
           obtain ⟨v293,ev293,hm⟩:=bind_s hm
           have a292:=ha_ref01_Words c.ro H276 v264.1 v293 ev293
           obtain ⟨H294,a295,f296,u297⟩:=st_ok (M:=Mt) (t:=59) (v:=(vAgg (ref06_Token.c (({ ref06_Token.zero with f_Set:=v293 }:ref06_Token))))) (c:=ref06_Token.c (({ ref06_Token.zero with f_Set:=v293 }:ref06_Token))) (cs':=ref06_Token.c (({ ref06_Token.zero with f_Set:=v293 }:ref06_Token))) f281 (by rw [ref06_Token.enc.len]; exact T.sz59) vAgg_cells (ref06_Token.enc.one _) (Nat.le_trans hcn r6) (le0 ref06_Token.enc.len) (wrs_all (eqL ref06_Token.enc.len))
           have i298:=i280.up u297 r6
           have f299:=(u297.get _ (ne_len f250 q269).symm).trans f278
           simp only [C.f24r27,R,Nat.reduceEqDiff,a291,c_fn F35,a292,bd59_1,a295,h248]
           refine hJ _ ?_
           refine tk_ret okM ?_
           obtain rfl:=Option.some.inj hm
           exact end_flat (.inl rfl) (vs:=[(vAgg (ref06_Token.c (({ ref06_Token.zero with f_Set:=v293 }:ref06_Token)))),(.int .i64 (v264.2)),(.int .i64 (0))]) (resC' (v:=(vAgg (ref06_Token.c (({ ref06_Token.zero with f_Set:=v293 }:ref06_Token))))) h248 (ldv_of (ld_agg (M:=Mt) (t:=59) f296 T.ag59 (by rw [ref06_Token.enc.len]; exact T.sz59) Seg.refl)) (resT' (v:=(.int .i64 (v264.2))) rfl (resT' (v:=(.int .i64 (0))) rfl resN))) (fm_cons (flat_agg ref06_Token.enc _) (fm_cons rfl (fm_cons rfl fm_nil)))
def b_class_Set_Not_1 (n:Nat):Nat → class_Set → class_Set → Int → Option (class_Set)
 | 0,_,_,_=>none
 | k + 1,x27,x28,x4_29=>bif decide (x4_29 < 4) then ((ck 4 x4_29).bind fun j49=>b_class_Set_Not_1 n k ({ x27 with f_W:=x27.f_W.put j49 (comI .u64 (x27.f_W.nth j49)) }) x28 (IntKind.i64.wrap (x4_29 + 1))) else (some x27)
def b_class_Set_Not (n:Nat) (x0:class_Set):Option (class_Set):=b_class_Set_Not_1 n n x0 class_Set.zero 0
theorem w_class_Set_Not {call:CallF} (hok:CallOk Mt call) {n:Nat} {H0:Hp} {x0:class_Set} {r:class_Set} {ro:Nat} (hro:ro ≤ H0.length) (hm:b_class_Set_Not n x0 = some r) :
  Pt Mt ro 25 [(vAgg (class_Set.c x0))] H0 (vAgg (class_Set.c (r))) H0 []:=by
 refine pt_new0 okM F25d (by exact Nat.le_of_ble_eq_true rfl) ?_ hro
 intro c hnt hnb hcr
 have hcn:c.ro ≤ c.nb:=by omega
 have iv:Iv c.nb [] H0 H0:=by rw [hnb]; exact iv_refl
 rw [show args0 [(vAgg (class_Set.c x0))] = [(0,(vAgg (class_Set.c x0)))] from rfl]
 rw [b_class_Set_Not] at hm
 simp only [C.f25,C.f25b0]
 refine tk_os okM hok fun J hJ=>?_
 obtain ⟨b1,H2,a3,f4,q5,r6,x7,i8⟩:=bx_ok (M:=Mt) (t:=36) (u:=(vAgg (class_Set.c (x0)))) (cs:=class_Set.c x0) H0 iv.le (by rw [class_Set.enc.len]; exact T.sz36) vAgg_cells (class_Set.enc.one _)
 have i9:=i8 _ _ iv
 obtain ⟨b11,H12,a13,f14,q15,r16,x17,i18⟩:=al_ok H2 36 (class_Set.c class_Set.zero) i9.le
 have i19:=i18 _ _ i9
 have f20:=x17 _ _ f4
 simp only [C.f25r0,R,Nat.reduceEqDiff,a3,zs36,a13]
 refine hJ _ ?_
 refine tk_seq_k fun K n22 x23=>?_
 refine tk_os okM hok fun J hJ=>?_
 simp only [C.f25r1,R,Nat.reduceEqDiff]
 refine hJ _ ?_
 refine tk_block_k fun K n24 e25 x26=>?_
 refine tk_loop_k (n:=n) (fun k1 ⟨σ,H,_⟩=>∃ x27 x28 x4_29,b_class_Set_Not_1 n k1 x27 x28 x4_29 = some r ∧ Lk σ 1 (.pointer (some ⟨b1,0,none⟩)) ∧ Lk σ 2 (.pointer (some ⟨b11,0,none⟩)) ∧ Lk σ 4 (.int .i64 x4_29) ∧ H[b1]? = some (.cells (class_Set.c x27) 36) ∧ H[b11]? = some (.cells (class_Set.c x28) 36) ∧ Iv c.nb [] H0 H) ?_ ?_ ?_
 ·exact ⟨x0,class_Set.zero,0,hm,rfl,rfl,rfl,f20,f14,i19⟩
 ·rintro ⟨σ,H,d⟩ ⟨_,_,_,hm,_⟩
  cases hm
 ·intro k1 K n30 x31
  rintro ⟨σ39,H32,d40⟩ ⟨x27,x28,x4_29,hm,h33,h34,h35,f36,f37,i38⟩
  rw [b_class_Set_Not_1.eq_2] at hm
  refine tk_os okM hok fun J hJ=>?_
  simp only [C.f25r2,R,Nat.reduceEqDiff,h35]
  refine hJ _ ?_
  refine tk_seq_k fun K n41 x42=>?_
  refine tk_cond (t:=decide (x4_29 < 4)) rfl (fun g43=>?_) (fun g43=>?_)
  ·replace hm:=cond_t hm g43
   refine tk_skip okM ?_
   refine n41 _ ?_
   refine tk_seq_k fun K n44 x45=>?_
   refine tk_block_k fun K n46 e47 x48=>?_
   refine tk_os okM hok fun J hJ=>?_
   simp only [C.f25r3,R,Nat.reduceEqDiff,h35]
   refine hJ _ ?_
   refine tk_oe okM hok fun J hJ=>?_
   obtain ⟨j49,ej49,hm⟩:=bind_s hm
   have a50:=ld_one (M:=Mt) (t:=33) f36 T.ag33 ((Seg.refl.sub (class_Set.seg0 x27)).sub (sgA enc_int.len (a:=x27.f_W) (ck_lt ej49).1))
   obtain ⟨H51,a52,f53,u54⟩:=st_ok (M:=Mt) (t:=33) (v:=(.int .u64 (comI .u64 (x27.f_W.nth j49)))) (c:=(cInt .u64) (comI .u64 (x27.f_W.nth j49))) (cs':=class_Set.c ({ x27 with f_W:=x27.f_W.put j49 (comI .u64 (x27.f_W.nth j49)) })) f36 (by rw [enc_int.len]; exact T.sz33) rfl (enc_int.one _) (Nat.le_trans hcn r6) (Nat.le_trans (Nat.le_of_eq (congrArg _ (eqL enc_int.len))) ((Seg.refl.sub (class_Set.seg0 x27)).sub (sgA enc_int.len (a:=x27.f_W) (ck_lt ej49).1)).2) (by rw [wrs_in (Seg.refl.sub (class_Set.seg0 x27)) (by have:=(ck_lt ej49).1; simp only [enc_int.len,(enc_arr (n:=4) enc_int).len]; omega),wrA enc_int.len (a:=x27.f_W) (v:=comI .u64 (x27.f_W.nth j49)) (ck_lt ej49).1,Nat.zero_add,class_Set.wr0 x27 (x27.f_W.put j49 (comI .u64 (x27.f_W.nth j49)))])
   have i55:=i38.up u54 r6
   have f56:=(u54.get _ (ne_len f4 q15).symm).trans f37
   simp only [C.f25r4,R,Nat.reduceEqDiff,fa36_0,h33,ia34,ej49,a50,a52]
   refine hJ _ ?_
   refine n46 _ ?_
   refine n44 _ ?_
   refine tk_oe okM hok fun J hJ=>?_
   simp only [C.f25r5,R,Nat.reduceEqDiff,h35]
   refine hJ _ ?_
   refine n30 _ ?_
   exact ⟨{ x27 with f_W:=x27.f_W.put j49 (comI .u64 (x27.f_W.nth j49)) },x28,IntKind.i64.wrap (x4_29 + 1),hm,h33,h34,rfl,f53,f56,i55⟩
  ·replace hm:=cond_f hm g43
   refine tk_exit okM ?_
   refine x42 _ _ (by simp) ?_
   refine x31 _ _ (by simp) ?_
   refine e25 _ ?_
   refine n22 _ ?_
   refine tk_os okM hok fun J hJ=>?_
   have a57:=ld_agg (M:=Mt) (t:=36) f36 T.ag36 (by rw [class_Set.enc.len]; exact T.sz36) Seg.refl
   obtain ⟨H58,a59,f60,u61⟩:=st_ok (M:=Mt) (t:=36) (v:=(vAgg (class_Set.c (x27)))) (c:=class_Set.c x27) (cs':=class_Set.c x27) f37 (by rw [class_Set.enc.len]; exact T.sz36) vAgg_cells (class_Set.enc.one _) (Nat.le_trans hcn r16) (le0 class_Set.enc.len) (wrs_all (eqL class_Set.enc.len))
   have i62:=i38.up u61 r16
   have f63:=(u61.get _ (ne_len f4 q15)).trans f36
   simp only [C.f25r6,R,Nat.reduceEqDiff,a57,h33,a59,h34]
   refine hJ _ ?_
   refine tk_ret okM ?_
   obtain rfl:=Option.some.inj hm
   exact end_flat (.inl rfl) (vs:=[(vAgg (class_Set.c (x27)))]) (resC' (v:=(vAgg (class_Set.c (x27)))) h34 (ldv_of (ld_agg (M:=Mt) (t:=36) f60 T.ag36 (by rw [class_Set.enc.len]; exact T.sz36) Seg.refl)) resN) (fm_cons (flat_agg class_Set.enc _) fm_nil)
def b_strings_HasPrefix (c_stringslite_HasPrefix:T_stringslite_HasPrefix) (n:Nat) (x0:ByteArray) (x1:ByteArray):Option (Bool):=(c_stringslite_HasPrefix x0 x1).bind fun v2=>some v2
theorem w_strings_HasPrefix {call:CallF} (hok:CallOk Mt call) {n:Nat} {c_stringslite_HasPrefix:T_stringslite_HasPrefix} (ha_stringslite_HasPrefix:A_stringslite_HasPrefix call c_stringslite_HasPrefix) {H0:Hp} {x0:ByteArray} {x1:ByteArray} {r:Bool} {ro:Nat} (hro:ro ≤ H0.length) (hm:b_strings_HasPrefix c_stringslite_HasPrefix n x0 x1 = some r) :
  Pt Mt ro 26 [(.string x0),(.string x1)] H0 (.bool (r)) H0 []:=by
 refine pt_new0 okM F26d (by exact Nat.le_of_ble_eq_true rfl) ?_ hro
 intro c hnt hnb hcr
 have hcn:c.ro ≤ c.nb:=by omega
 have iv:Iv c.nb [] H0 H0:=by rw [hnb]; exact iv_refl
 rw [show args0 [(.string x0),(.string x1)] = [(0,(.string x0)),(1,(.string x1))] from rfl]
 rw [b_strings_HasPrefix] at hm
 simp only [C.f26]
 refine tk_os okM hok fun J hJ=>?_
 simp only [C.f26r0,R,Nat.reduceEqDiff]
 refine hJ _ ?_
 refine tk_os okM hok fun J hJ=>?_
 obtain ⟨v2,ev2,hm⟩:=bind_s hm
 have a1:=ha_stringslite_HasPrefix c.ro H0 x0 x1 v2 ev2
 simp only [C.f26r1,R,Nat.reduceEqDiff,c_fn F45,a1]
 refine hJ _ ?_
 refine tk_ret okM ?_
 obtain rfl:=Option.some.inj hm
 exact end_flat (.inl rfl) (vs:=[(.bool (v2))]) (resT' (v:=(.bool (v2))) rfl resN) (fm_cons rfl fm_nil)
def b_lex_span (c_class_Range:T_class_Range) (c_lex_item:T_lex_item) (c_class_Set_Min:T_class_Set_Min) (c_class_Set_Len:T_class_Set_Len) (n:Nat) (x0:ByteArray):Option (class_Set × Int):=(c_lex_item x0).bind fun v12=>(bif (decide (v12.2 = 0)) || (decide (((x0.size:Int)) ≤ v12.2)) then some true else ((bt x0 v12.2).bind fun v44=>some (!decide (v44 = 45)))).bind fun y45=>bif y45 then (some (v12.1,v12.2)) else ((sub x0 (IntKind.i64.wrap (v12.2 + 1)) x0.size).bind fun v67=>(c_lex_item v67).bind fun v69=>(c_class_Set_Min v12.1).bind fun v91=>(c_class_Set_Min v69.1).bind fun v94=>(bif decide (v69.2 = 0) then some true else ((c_class_Set_Len v12.1).bind fun v99=>some (!decide (v99 = 1)))).bind fun y100=>(bif y100 then some true else ((c_class_Set_Len v69.1).bind fun v120=>some (!decide (v120 = 1)))).bind fun y121=>bif y121 || (decide (v94.1 < v91.1)) then (some (class_Set.zero,0)) else ((c_class_Range v91.1 v94.1).bind fun v156=>some (v156,IntKind.i64.wrap ((IntKind.i64.wrap (v12.2 + 1)) + v69.2))))
theorem w_lex_span {call:CallF} (hok:CallOk Mt call) {n:Nat} {c_class_Range:T_class_Range} (ha_class_Range:A_class_Range call c_class_Range) {c_lex_item:T_lex_item} (ha_lex_item:A_lex_item call c_lex_item) {c_class_Set_Min:T_class_Set_Min} (ha_class_Set_Min:A_class_Set_Min call c_class_Set_Min) {c_class_Set_Len:T_class_Set_Len} (ha_class_Set_Len:A_class_Set_Len call c_class_Set_Len) {H0:Hp} {x0:ByteArray} {r:class_Set × Int} {ro:Nat} (hro:ro ≤ H0.length) (hm:b_lex_span c_class_Range c_lex_item c_class_Set_Min c_class_Set_Len n x0 = some r) (hG0:TabH0 H0) :
  Pt Mt ro 27 [(.string x0)] H0 (.tuple [(vAgg (class_Set.c (r.1))),(.int .i64 (r.2))].toArray) H0 []:=by
 refine pt_new0 okM F27d (by exact Nat.le_of_ble_eq_true rfl) ?_ hro
 intro c hnt hnb hcr
 have hcn:c.ro ≤ c.nb:=by omega
 have iv:Iv c.nb [] H0 H0:=by rw [hnb]; exact iv_refl
 rw [show args0 [(.string x0)] = [(0,(.string x0))] from rfl]
 rw [b_lex_span] at hm
 simp only [C.f27]
 refine tk_os okM hok fun J hJ=>?_
 obtain ⟨b1,H2,a3,f4,q5,r6,x7,i8⟩:=al_ok H0 36 (class_Set.c class_Set.zero) iv.le
 have i9:=i8 _ _ iv
 simp only [C.f27r0,R,Nat.reduceEqDiff,zs36,a3]
 refine hJ _ ?_
 refine tk_os okM hok fun J hJ=>?_
 obtain ⟨v12,ev12,hm⟩:=bind_s hm
 have a11:=ha_lex_item c.ro H2 x0 v12 ev12
 obtain ⟨b13,H14,a15,f16,q17,r18,x19,i20⟩:=al_ok H2 36 (class_Set.c class_Set.zero) i9.le
 have i21:=i20 _ _ i9
 have f22:=x19 _ _ f4
 obtain ⟨H24,a25,f26,u27⟩:=st_ok (M:=Mt) (t:=36) (v:=(vAgg (class_Set.c (v12.1)))) (c:=class_Set.c v12.1) (cs':=class_Set.c v12.1) f16 (by rw [class_Set.enc.len]; exact T.sz36) vAgg_cells (class_Set.enc.one _) (Nat.le_trans hcn r18) (le0 class_Set.enc.len) (wrs_all (eqL class_Set.enc.len))
 have i28:=i21.up u27 r18
 have f29:=(u27.get _ (ne_len f4 q17)).trans f22
 simp only [C.f27r1,R,Nat.reduceEqDiff,c_fn F46,a11,zs36,a15,a25]
 refine hJ _ ?_
 refine tk_seq_k fun K n30 x31=>?_
 refine tk_os okM hok fun J hJ=>?_
 rw [C.f27r2]
 refine rn_app_k (fun ⟨σ,H,_⟩=>Lk σ 0 (.string (x0)) ∧ Lk σ 2 (.pointer (some ⟨b1,0,none⟩)) ∧ Lk σ 4 (.pointer (some ⟨b13,0,none⟩)) ∧ Lk σ 5 (.int .i64 (v12.2)) ∧ Lk σ 24 (.bool ((decide (v12.2 = 0)) || (decide (((x0.size:Int)) ≤ v12.2)))) ∧ H[b1]? = some (.cells (class_Set.c class_Set.zero) 36) ∧ H[b13]? = some (.cells (class_Set.c v12.1) 36) ∧ Iv c.nb [] H0 H) (fun J hJ=>?_) ?_
 ·skip
  cases g41:decide (v12.2 = 0)
  ·skip
   simp only [C.f27r2p0,R,Nat.reduceEqDiff,g41,len_str (M:=Mt) Tryd.underlying9]
   refine hJ _ ?_
   exact ⟨(by first | rfl | (simp only [g41]; rfl) | simp only [g41,Lk,RB,Nat.reduceEqDiff,not_false_eq_true]),rfl,rfl,(by first | rfl | (simp only [g41]; rfl) | simp only [g41,Lk,RB,Nat.reduceEqDiff,not_false_eq_true]),(by first | rfl | (simp only [g41]; rfl) | simp only [g41,Lk,RB,Nat.reduceEqDiff,not_false_eq_true]),f29,f26,i28⟩
  ·skip
   simp only [C.f27r2p0,R,Nat.reduceEqDiff,g41]
   refine hJ _ ?_
   exact ⟨(by first | rfl | (simp only [g41]; rfl) | simp only [g41,Lk,RB,Nat.reduceEqDiff,not_false_eq_true]),rfl,rfl,(by first | rfl | (simp only [g41]; rfl) | simp only [g41,Lk,RB,Nat.reduceEqDiff,not_false_eq_true]),(by first | rfl | (simp only [g41]; rfl) | simp only [g41,Lk,RB,Nat.reduceEqDiff,not_false_eq_true]),f29,f26,i28⟩
 rintro ⟨σ42,H32,d43⟩ ⟨h33,h34,h35,h36,h37,f38,f39,i40⟩
 obtain ⟨y45,ey45,hm⟩:=bind_s hm
 refine rn_k (fun ⟨σ,H,_⟩=>Lk σ 0 (.string (x0)) ∧ Lk σ 2 (.pointer (some ⟨b1,0,none⟩)) ∧ Lk σ 4 (.pointer (some ⟨b13,0,none⟩)) ∧ Lk σ 5 (.int .i64 (v12.2)) ∧ Lk σ 30 (.bool (y45)) ∧ H[b1]? = some (.cells (class_Set.c class_Set.zero) 36) ∧ H[b13]? = some (.cells (class_Set.c v12.1) 36) ∧ Iv c.nb [] H0 H) (fun J hJ=>?_) ?_
 ·skip
  cases g55:(decide (v12.2 = 0)) || (decide (((x0.size:Int)) ≤ v12.2))
  ·skip
   have ey45:=cond_f ey45 g55
   obtain ⟨v56,ev56,ey45⟩:=bind_s ey45
   obtain rfl:=Option.some.inj ey45
   simp only [C.f27r2p1,R,Nat.reduceEqDiff,h37,g55,h33,h36,idxP_str (M:=Mt) Tryd.underlying9,ev56]
   refine hJ _ ?_
   exact ⟨h33,h34,h35,h36,(by first | rfl | (simp only [g55]; rfl) | simp only [g55,Lk,RB,Nat.reduceEqDiff,not_false_eq_true]),f38,f39,i40⟩
  ·skip
   have ey45:=cond_t ey45 g55
   obtain rfl:=Option.some.inj ey45
   simp only [C.f27r2p1,R,Nat.reduceEqDiff,h37,g55]
   refine hJ _ ?_
   exact ⟨h33,h34,h35,h36,(by first | rfl | (simp only [g55]; rfl) | simp only [g55,Lk,RB,Nat.reduceEqDiff,not_false_eq_true]),f38,f39,i40⟩
 rintro ⟨σ57,H46,d58⟩ ⟨h47,h48,h49,h50,h51,f52,f53,i54⟩
 refine hJ _ ?_
 refine tk_cond (t:=y45) h51 (fun g59=>?_) (fun g59=>?_)
 ·replace hm:=cond_t hm g59
  refine tk_os okM hok fun J hJ=>?_
  have a60:=ld_agg (M:=Mt) (t:=36) f53 T.ag36 (by rw [class_Set.enc.len]; exact T.sz36) Seg.refl
  obtain ⟨H61,a62,f63,u64⟩:=st_ok (M:=Mt) (t:=36) (v:=(vAgg (class_Set.c (v12.1)))) (c:=class_Set.c v12.1) (cs':=class_Set.c v12.1) f52 (by rw [class_Set.enc.len]; exact T.sz36) vAgg_cells (class_Set.enc.one _) (Nat.le_trans hcn r6) (le0 class_Set.enc.len) (wrs_all (eqL class_Set.enc.len))
  have i65:=i54.up u64 r6
  have f66:=(u64.get _ (ne_len f4 q17).symm).trans f53
  simp only [C.f27r3,R,Nat.reduceEqDiff,a60,h49,h50,a62,h48]
  refine hJ _ ?_
  refine tk_ret okM ?_
  refine x31 _ _ (by simp) ?_
  obtain rfl:=Option.some.inj hm
  exact end_flat (.inl rfl) (vs:=[(vAgg (class_Set.c (v12.1))),(.int .i64 (v12.2))]) (resC' (v:=(vAgg (class_Set.c (v12.1)))) h48 (ldv_of (ld_agg (M:=Mt) (t:=36) f63 T.ag36 (by rw [class_Set.enc.len]; exact T.sz36) Seg.refl)) (resT' (v:=(.int .i64 (v12.2))) rfl resN)) (fm_cons (flat_agg class_Set.enc _) (fm_cons rfl fm_nil))
 ·replace hm:=cond_f hm g59
  refine tk_skip okM ?_
  refine n30 _ ?_
  refine tk_os okM hok fun J hJ=>?_
  obtain ⟨v67,ev67,hm⟩:=bind_s hm
  obtain ⟨v69,ev69,hm⟩:=bind_s hm
  have a68:=ha_lex_item c.ro H46 v67 v69 ev69
  obtain ⟨b70,H71,a72,f73,q74,r75,x76,i77⟩:=al_ok H46 36 (class_Set.c class_Set.zero) i54.le
  have i78:=i77 _ _ i54
  have f79:=x76 _ _ f52
  have f80:=x76 _ _ f53
  obtain ⟨H82,a83,f84,u85⟩:=st_ok (M:=Mt) (t:=36) (v:=(vAgg (class_Set.c (v69.1)))) (c:=class_Set.c v69.1) (cs':=class_Set.c v69.1) f73 (by rw [class_Set.enc.len]; exact T.sz36) vAgg_cells (class_Set.enc.one _) (Nat.le_trans hcn r75) (le0 class_Set.enc.len) (wrs_all (eqL class_Set.enc.len))
  have i86:=i78.up u85 r75
  have f87:=(u85.get _ (ne_len f52 q74)).trans f79
  have f88:=(u85.get _ (ne_len f53 q74)).trans f80
  simp only [C.f27r4,R,Nat.reduceEqDiff,h47,h50,sl_str (M:=Mt) Tryd.underlying9,ev67,c_fn F46,a68,zs36,a72,a83]
  refine hJ _ ?_
  refine tk_os okM hok fun J hJ=>?_
  have a89:=ld_agg (M:=Mt) (t:=36) f88 T.ag36 (by rw [class_Set.enc.len]; exact T.sz36) Seg.refl
  obtain ⟨v91,ev91,hm⟩:=bind_s hm
  have a90:=ha_class_Set_Min c.ro H82 v12.1 v91 (tabIv0 i86 hnb hG0) ev91
  simp only [C.f27r5,R,Nat.reduceEqDiff,a89,h49,c_fn F47,a90]
  refine hJ _ ?_
  refine tk_os okM hok fun J hJ=>?_
  have a92:=ld_agg (M:=Mt) (t:=36) f84 T.ag36 (by rw [class_Set.enc.len]; exact T.sz36) Seg.refl
  obtain ⟨v94,ev94,hm⟩:=bind_s hm
  have a93:=ha_class_Set_Min c.ro H82 v69.1 v94 (tabIv0 i86 hnb hG0) ev94
  simp only [C.f27r6,R,Nat.reduceEqDiff,a92,c_fn F47,a93]
  refine hJ _ ?_
  refine tk_seq_k fun K n95 x96=>?_
  refine tk_os okM hok fun J hJ=>?_
  rw [C.f27r7]
  obtain ⟨y100,ey100,hm⟩:=bind_s hm
  refine rn_app_k (fun ⟨σ,H,_⟩=>Lk σ 2 (.pointer (some ⟨b1,0,none⟩)) ∧ Lk σ 5 (.int .i64 (v12.2)) ∧ Lk σ 6 (.pointer (some ⟨b70,0,none⟩)) ∧ Lk σ 7 (.int .i64 (v69.2)) ∧ Lk σ 8 (.int .u8 (v91.1)) ∧ Lk σ 10 (.int .u8 (v94.1)) ∧ Lk σ 57 (.bool (y100)) ∧ H[b1]? = some (.cells (class_Set.c class_Set.zero) 36) ∧ H[b70]? = some (.cells (class_Set.c v69.1) 36) ∧ Iv c.nb [] H0 H) (fun J hJ=>?_) ?_
  ·skip
   cases g112:decide (v69.2 = 0)
   ·skip
    have ey100:=cond_f ey100 g112
    have a113:=ld_agg (M:=Mt) (t:=36) f88 T.ag36 (by rw [class_Set.enc.len]; exact T.sz36) Seg.refl
    obtain ⟨v115,ev115,ey100⟩:=bind_s ey100
    have a114:=ha_class_Set_Len c.ro H82 v12.1 v115 ev115
    obtain rfl:=Option.some.inj ey100
    simp only [C.f27r7p0,R,Nat.reduceEqDiff,g112,a113,h49,c_fn F48,a114]
    refine hJ _ ?_
    exact ⟨h48,h50,rfl,(by first | rfl | (simp only [g112]; rfl) | simp only [g112,Lk,RB,Nat.reduceEqDiff,not_false_eq_true]),(by first | rfl | (simp only [g112]; rfl) | simp only [g112,Lk,RB,Nat.reduceEqDiff,not_false_eq_true]),(by first | rfl | (simp only [g112]; rfl) | simp only [g112,Lk,RB,Nat.reduceEqDiff,not_false_eq_true]),(by first | rfl | (simp only [g112]; rfl) | simp only [g112,Lk,RB,Nat.reduceEqDiff,not_false_eq_true]),f87,f84,i86⟩
   ·skip
    have ey100:=cond_t ey100 g112
    obtain rfl:=Option.some.inj ey100
    simp only [C.f27r7p0,R,Nat.reduceEqDiff,g112]
    refine hJ _ ?_
    exact ⟨h48,h50,rfl,(by first | rfl | (simp only [g112]; rfl) | simp only [g112,Lk,RB,Nat.reduceEqDiff,not_false_eq_true]),(by first | rfl | (simp only [g112]; rfl) | simp only [g112,Lk,RB,Nat.reduceEqDiff,not_false_eq_true]),(by first | rfl | (simp only [g112]; rfl) | simp only [g112,Lk,RB,Nat.reduceEqDiff,not_false_eq_true]),(by first | rfl | (simp only [g112]; rfl) | simp only [g112,Lk,RB,Nat.reduceEqDiff,not_false_eq_true]),f87,f84,i86⟩
  rintro ⟨σ116,H101,d117⟩ ⟨h102,h103,h104,h105,h106,h107,h108,f109,f110,i111⟩
  obtain ⟨y121,ey121,hm⟩:=bind_s hm
  refine rn_app_k (fun ⟨σ,H,_⟩=>Lk σ 2 (.pointer (some ⟨b1,0,none⟩)) ∧ Lk σ 5 (.int .i64 (v12.2)) ∧ Lk σ 7 (.int .i64 (v69.2)) ∧ Lk σ 8 (.int .u8 (v91.1)) ∧ Lk σ 10 (.int .u8 (v94.1)) ∧ Lk σ 62 (.bool (y121)) ∧ H[b1]? = some (.cells (class_Set.c class_Set.zero) 36) ∧ Iv c.nb [] H0 H) (fun J hJ=>?_) ?_
  ·skip
   cases g131:y100
   ·skip
    have ey121:=cond_f ey121 g131
    have a132:=ld_agg (M:=Mt) (t:=36) f110 T.ag36 (by rw [class_Set.enc.len]; exact T.sz36) Seg.refl
    obtain ⟨v134,ev134,ey121⟩:=bind_s ey121
    have a133:=ha_class_Set_Len c.ro H101 v69.1 v134 ev134
    obtain rfl:=Option.some.inj ey121
    simp only [C.f27r7p1,R,Nat.reduceEqDiff,h108,g131,a132,h104,c_fn F48,a133]
    refine hJ _ ?_
    exact ⟨h102,h103,h105,h106,h107,(by first | rfl | (simp only [g131]; rfl) | simp only [g131,Lk,RB,Nat.reduceEqDiff,not_false_eq_true]),f109,i111⟩
   ·skip
    have ey121:=cond_t ey121 g131
    obtain rfl:=Option.some.inj ey121
    simp only [C.f27r7p1,R,Nat.reduceEqDiff,h108,g131]
    refine hJ _ ?_
    exact ⟨h102,h103,h105,h106,h107,(by first | rfl | (simp only [g131]; rfl) | simp only [g131,Lk,RB,Nat.reduceEqDiff,not_false_eq_true]),f109,i111⟩
  rintro ⟨σ135,H122,d136⟩ ⟨h123,h124,h125,h126,h127,h128,f129,i130⟩
  refine rn_k (fun ⟨σ,H,_⟩=>Lk σ 2 (.pointer (some ⟨b1,0,none⟩)) ∧ Lk σ 5 (.int .i64 (v12.2)) ∧ Lk σ 7 (.int .i64 (v69.2)) ∧ Lk σ 8 (.int .u8 (v91.1)) ∧ Lk σ 10 (.int .u8 (v94.1)) ∧ Lk σ 67 (.bool (y121 || (decide (v94.1 < v91.1)))) ∧ H[b1]? = some (.cells (class_Set.c class_Set.zero) 36) ∧ Iv c.nb [] H0 H) (fun J hJ=>?_) ?_
  ·skip
   cases g146:y121
   ·skip
    simp only [C.f27r7p2,R,Nat.reduceEqDiff,h128,g146,h127,h126]
    refine hJ _ ?_
    exact ⟨h123,h124,h125,h126,h127,(by first | rfl | (simp only [g146]; rfl) | simp only [g146,Lk,RB,Nat.reduceEqDiff,not_false_eq_true]),f129,i130⟩
   ·skip
    simp only [C.f27r7p2,R,Nat.reduceEqDiff,h128,g146]
    refine hJ _ ?_
    exact ⟨h123,h124,h125,h126,h127,(by first | rfl | (simp only [g146]; rfl) | simp only [g146,Lk,RB,Nat.reduceEqDiff,not_false_eq_true]),f129,i130⟩
  rintro ⟨σ147,H137,d148⟩ ⟨h138,h139,h140,h141,h142,h143,f144,i145⟩
  refine hJ _ ?_
  refine tk_cond (t:=y121 || (decide (v94.1 < v91.1))) h143 (fun g149=>?_) (fun g149=>?_)
  ·replace hm:=cond_t hm g149
   refine tk_os okM hok fun J hJ=>?_
   obtain ⟨H150,a151,f152,u153⟩:=st_ok (M:=Mt) (t:=36) (v:=(vAgg (class_Set.c (class_Set.zero)))) (c:=class_Set.c class_Set.zero) (cs':=class_Set.c class_Set.zero) f144 (by rw [class_Set.enc.len]; exact T.sz36) vAgg_cells (class_Set.enc.one _) (Nat.le_trans hcn r6) (le0 class_Set.enc.len) (wrs_all (eqL class_Set.enc.len))
   have i154:=i145.up u153 r6
   simp only [C.f27r8,R,Nat.reduceEqDiff,bd36_,a151,h138]
   refine hJ _ ?_
   refine tk_ret okM ?_
   refine x96 _ _ (by simp) ?_
   obtain rfl:=Option.some.inj hm
   exact end_flat (.inl rfl) (vs:=[(vAgg (class_Set.c (class_Set.zero))),(.int .i64 (0))]) (resC' (v:=(vAgg (class_Set.c (class_Set.zero)))) h138 (ldv_of (ld_agg (M:=Mt) (t:=36) f152 T.ag36 (by rw [class_Set.enc.len]; exact T.sz36) Seg.refl)) (resT' (v:=(.int .i64 (0))) rfl resN)) (fm_cons (flat_agg class_Set.enc _) (fm_cons rfl fm_nil))
  ·replace hm:=cond_f hm g149
   refine tk_skip okM ?_
   refine n95 _ ?_
   refine tk_os okM hok fun J hJ=>?_
   obtain ⟨v156,ev156,hm⟩:=bind_s hm
   have a155:=ha_class_Range c.ro H137 v91.1 v94.1 v156 ev156
   obtain ⟨H157,a158,f159,u160⟩:=st_ok (M:=Mt) (t:=36) (v:=(vAgg (class_Set.c (v156)))) (c:=class_Set.c v156) (cs':=class_Set.c v156) f144 (by rw [class_Set.enc.len]; exact T.sz36) vAgg_cells (class_Set.enc.one _) (Nat.le_trans hcn r6) (le0 class_Set.enc.len) (wrs_all (eqL class_Set.enc.len))
   have i161:=i145.up u160 r6
   simp only [C.f27r9,R,Nat.reduceEqDiff,h141,h142,c_fn F20,a155,h139,h140,a158,h138]
   refine hJ _ ?_
   refine tk_ret okM ?_
   obtain rfl:=Option.some.inj hm
   exact end_flat (.inl rfl) (vs:=[(vAgg (class_Set.c (v156))),(.int .i64 (IntKind.i64.wrap ((IntKind.i64.wrap (v12.2 + 1)) + v69.2)))]) (resC' (v:=(vAgg (class_Set.c (v156)))) h138 (ldv_of (ld_agg (M:=Mt) (t:=36) f159 T.ag36 (by rw [class_Set.enc.len]; exact T.sz36) Seg.refl)) (resT' (v:=(.int .i64 (IntKind.i64.wrap ((IntKind.i64.wrap (v12.2 + 1)) + v69.2)))) rfl resN)) (fm_cons (flat_agg class_Set.enc _) (fm_cons rfl fm_nil))
def b_ref06_starts (n:Nat) (x0:ByteArray) (x1:Int) (x2:ByteArray):Option (Bool):=(bif ((decide (0 ≤ x1)) && (decide (x1 ≤ ((x0.size:Int))))) && (decide (((x2.size:Int)) ≤ (IntKind.i64.wrap (((x0.size:Int)) - x1)))) then ((sub x0 x1 (IntKind.i64.wrap (x1 + ((x2.size:Int))))).bind fun v19=>some (decide (v19 = x2))) else some false).bind fun y20=>some y20
theorem w_ref06_starts {call:CallF} (hok:CallOk Mt call) {n:Nat} {H0:Hp} {x0:ByteArray} {x1:Int} {x2:ByteArray} {r:Bool} {ro:Nat} (hro:ro ≤ H0.length) (hm:b_ref06_starts n x0 x1 x2 = some r) :
  Pt Mt ro 28 [(.string x0),(.int .i64 x1),(.string x2)] H0 (.bool (r)) H0 []:=by
 refine pt_new0 okM F28d (by exact Nat.le_of_ble_eq_true rfl) ?_ hro
 intro c hnt hnb hcr
 have hcn:c.ro ≤ c.nb:=by omega
 have iv:Iv c.nb [] H0 H0:=by rw [hnb]; exact iv_refl
 rw [show args0 [(.string x0),(.int .i64 x1),(.string x2)] = [(0,(.string x0)),(1,(.int .i64 x1)),(2,(.string x2))] from rfl]
 rw [b_ref06_starts] at hm
 simp only [C.f28]
 refine tk_os okM hok fun J hJ=>?_
 simp only [C.f28r0,R,Nat.reduceEqDiff]
 refine hJ _ ?_
 refine tk_os okM hok fun J hJ=>?_
 rw [C.f28r1]
 refine rn_app_k (fun ⟨σ,H,_⟩=>Lk σ 0 (.string (x0)) ∧ Lk σ 1 (.int .i64 (x1)) ∧ Lk σ 2 (.string (x2)) ∧ Lk σ 14 (.bool ((decide (0 ≤ x1)) && (decide (x1 ≤ ((x0.size:Int)))))) ∧ Iv c.nb [] H0 H) (fun J hJ=>?_) ?_
 ·skip
  cases g7:decide (0 ≤ x1)
  ·skip
   simp only [C.f28r1p0,R,Nat.reduceEqDiff,g7]
   refine hJ _ ?_
   exact ⟨(by first | rfl | (simp only [g7]; rfl) | simp only [g7,Lk,RB,Nat.reduceEqDiff,not_false_eq_true]),(by first | rfl | (simp only [g7]; rfl) | simp only [g7,Lk,RB,Nat.reduceEqDiff,not_false_eq_true]),(by first | rfl | (simp only [g7]; rfl) | simp only [g7,Lk,RB,Nat.reduceEqDiff,not_false_eq_true]),(by first | rfl | (simp only [g7]; rfl) | simp only [g7,Lk,RB,Nat.reduceEqDiff,not_false_eq_true]),iv⟩
  ·skip
   simp only [C.f28r1p0,R,Nat.reduceEqDiff,g7,len_str (M:=Mt) Tryd.underlying9]
   refine hJ _ ?_
   exact ⟨(by first | rfl | (simp only [g7]; rfl) | simp only [g7,Lk,RB,Nat.reduceEqDiff,not_false_eq_true]),(by first | rfl | (simp only [g7]; rfl) | simp only [g7,Lk,RB,Nat.reduceEqDiff,not_false_eq_true]),(by first | rfl | (simp only [g7]; rfl) | simp only [g7,Lk,RB,Nat.reduceEqDiff,not_false_eq_true]),(by first | rfl | (simp only [g7]; rfl) | simp only [g7,Lk,RB,Nat.reduceEqDiff,not_false_eq_true]),iv⟩
 rintro ⟨σ8,H1,d9⟩ ⟨h2,h3,h4,h5,i6⟩
 refine rn_app_k (fun ⟨σ,H,_⟩=>Lk σ 0 (.string (x0)) ∧ Lk σ 1 (.int .i64 (x1)) ∧ Lk σ 2 (.string (x2)) ∧ Lk σ 23 (.bool (((decide (0 ≤ x1)) && (decide (x1 ≤ ((x0.size:Int))))) && (decide (((x2.size:Int)) ≤ (IntKind.i64.wrap (((x0.size:Int)) - x1)))))) ∧ Iv c.nb [] H0 H) (fun J hJ=>?_) ?_
 ·skip
  cases g16:(decide (0 ≤ x1)) && (decide (x1 ≤ ((x0.size:Int))))
  ·skip
   simp only [C.f28r1p1,R,Nat.reduceEqDiff,h5,g16]
   refine hJ _ ?_
   exact ⟨h2,h3,h4,(by first | rfl | (simp only [g16]; rfl) | simp only [g16,Lk,RB,Nat.reduceEqDiff,not_false_eq_true]),i6⟩
  ·skip
   simp only [C.f28r1p1,R,Nat.reduceEqDiff,h5,g16,h2,len_str (M:=Mt) Tryd.underlying9,h3,h4]
   refine hJ _ ?_
   exact ⟨h2,h3,h4,(by first | rfl | (simp only [g16]; rfl) | simp only [g16,Lk,RB,Nat.reduceEqDiff,not_false_eq_true]),i6⟩
 rintro ⟨σ17,H10,d18⟩ ⟨h11,h12,h13,h14,i15⟩
 obtain ⟨y20,ey20,hm⟩:=bind_s hm
 refine rn_app_k (fun ⟨σ,H,_⟩=>Lk σ 34 (.bool (y20)) ∧ Iv c.nb [] H0 H) (fun J hJ=>?_) ?_
 ·skip
  cases g24:((decide (0 ≤ x1)) && (decide (x1 ≤ ((x0.size:Int))))) && (decide (((x2.size:Int)) ≤ (IntKind.i64.wrap (((x0.size:Int)) - x1))))
  ·skip
   have ey20:=cond_f ey20 g24
   obtain rfl:=Option.some.inj ey20
   simp only [C.f28r1p2,R,Nat.reduceEqDiff,h14,g24]
   refine hJ _ ?_
   exact ⟨(by first | rfl | (simp only [g24]; rfl) | simp only [g24,Lk,RB,Nat.reduceEqDiff,not_false_eq_true]),i15⟩
  ·skip
   have ey20:=cond_t ey20 g24
   obtain ⟨v25,ev25,ey20⟩:=bind_s ey20
   obtain rfl:=Option.some.inj ey20
   simp only [C.f28r1p2,R,Nat.reduceEqDiff,h14,g24,h11,h12,h13,len_str (M:=Mt) Tryd.underlying9,sl_str2 (M:=Mt) Tryd.underlying9,ev25]
   refine hJ _ ?_
   exact ⟨(by first | rfl | (simp only [g24]; rfl) | simp only [g24,Lk,RB,Nat.reduceEqDiff,not_false_eq_true]),i15⟩
 rintro ⟨σ26,H21,d27⟩ ⟨h22,i23⟩
 simp only [C.f28r1p3,R,Nat.reduceEqDiff,h22]
 refine hJ _ ?_
 refine tk_ret okM ?_
 obtain rfl:=Option.some.inj hm
 exact end_flat (.inl rfl) (vs:=[(.bool (y20))]) (resT' (v:=(.bool (y20))) rfl resN) (fm_cons rfl fm_nil)
def b_ref06_item (c_ref06_one:T_ref06_one) (c_ref06_escape:T_ref06_escape) (n:Nat) (x0:ByteArray) (x1:Int):Option (ref01_Set × Int):=(bif decide (((x0.size:Int)) ≤ x1) then some true else ((bt x0 x1).bind fun v13=>some (decide (v13 = 91)))).bind fun y14=>(bif y14 then some true else ((bt x0 x1).bind fun v26=>some (decide (v26 = 93)))).bind fun y27=>(bif y27 then some true else ((bt x0 x1).bind fun v39=>some (decide (v39 = 45)))).bind fun y40=>bif y40 then (some (ref01_Set.zero,0)) else ((bt x0 x1).bind fun v60=>bif decide (v60 = 92) then ((c_ref06_escape x0 x1).bind fun v63=>some (v63.1,v63.2)) else ((c_ref06_one v60).bind fun v70=>some (v70,IntKind.i64.wrap (x1 + 1))))
theorem w_ref06_item {call:CallF} (hok:CallOk Mt call) {n:Nat} {c_ref06_one:T_ref06_one} (ha_ref06_one:A_ref06_one call c_ref06_one) {c_ref06_escape:T_ref06_escape} (ha_ref06_escape:A_ref06_escape call c_ref06_escape) {H0:Hp} {x0:ByteArray} {x1:Int} {r:ref01_Set × Int} {ro:Nat} (hro:ro ≤ H0.length) (hm:b_ref06_item c_ref06_one c_ref06_escape n x0 x1 = some r) :
  Pt Mt ro 29 [(.string x0),(.int .i64 x1)] H0 (.tuple [(vAgg (ref01_Set.c (r.1))),(.int .i64 (r.2))].toArray) H0 []:=by
 refine pt_new0 okM F29d (by exact Nat.le_of_ble_eq_true rfl) ?_ hro
 intro c hnt hnb hcr
 have hcn:c.ro ≤ c.nb:=by omega
 have iv:Iv c.nb [] H0 H0:=by rw [hnb]; exact iv_refl
 rw [show args0 [(.string x0),(.int .i64 x1)] = [(0,(.string x0)),(1,(.int .i64 x1))] from rfl]
 rw [b_ref06_item] at hm
 simp only [C.f29]
 refine tk_os okM hok fun J hJ=>?_
 obtain ⟨b1,H2,a3,f4,q5,r6,x7,i8⟩:=al_ok H0 68 (ref01_Set.c ref01_Set.zero) iv.le
 have i9:=i8 _ _ iv
 simp only [C.f29r0,R,Nat.reduceEqDiff,zs68,a3]
 refine hJ _ ?_
 refine tk_seq_k fun K n11 x12=>?_
 refine tk_os okM hok fun J hJ=>?_
 rw [C.f29r1]
 obtain ⟨y14,ey14,hm⟩:=bind_s hm
 refine rn_app_k (fun ⟨σ,H,_⟩=>Lk σ 0 (.string (x0)) ∧ Lk σ 1 (.int .i64 (x1)) ∧ Lk σ 4 (.pointer (some ⟨b1,0,none⟩)) ∧ Lk σ 15 (.bool (y14)) ∧ H[b1]? = some (.cells (ref01_Set.c ref01_Set.zero) 68) ∧ Iv c.nb [] H0 H) (fun J hJ=>?_) ?_
 ·skip
  cases g22:decide (((x0.size:Int)) ≤ x1)
  ·skip
   have ey14:=cond_f ey14 g22
   obtain ⟨v23,ev23,ey14⟩:=bind_s ey14
   obtain rfl:=Option.some.inj ey14
   simp only [C.f29r1p0,R,Nat.reduceEqDiff,len_str (M:=Mt) Tryd.underlying9,g22,idxP_str (M:=Mt) Tryd.underlying9,ev23]
   refine hJ _ ?_
   exact ⟨(by first | rfl | (simp only [g22]; rfl) | simp only [g22,Lk,RB,Nat.reduceEqDiff,not_false_eq_true]),(by first | rfl | (simp only [g22]; rfl) | simp only [g22,Lk,RB,Nat.reduceEqDiff,not_false_eq_true]),rfl,(by first | rfl | (simp only [g22]; rfl) | simp only [g22,Lk,RB,Nat.reduceEqDiff,not_false_eq_true]),f4,i9⟩
  ·skip
   have ey14:=cond_t ey14 g22
   obtain rfl:=Option.some.inj ey14
   simp only [C.f29r1p0,R,Nat.reduceEqDiff,len_str (M:=Mt) Tryd.underlying9,g22]
   refine hJ _ ?_
   exact ⟨(by first | rfl | (simp only [g22]; rfl) | simp only [g22,Lk,RB,Nat.reduceEqDiff,not_false_eq_true]),(by first | rfl | (simp only [g22]; rfl) | simp only [g22,Lk,RB,Nat.reduceEqDiff,not_false_eq_true]),rfl,(by first | rfl | (simp only [g22]; rfl) | simp only [g22,Lk,RB,Nat.reduceEqDiff,not_false_eq_true]),f4,i9⟩
 rintro ⟨σ24,H15,d25⟩ ⟨h16,h17,h18,h19,f20,i21⟩
 obtain ⟨y27,ey27,hm⟩:=bind_s hm
 refine rn_app_k (fun ⟨σ,H,_⟩=>Lk σ 0 (.string (x0)) ∧ Lk σ 1 (.int .i64 (x1)) ∧ Lk σ 4 (.pointer (some ⟨b1,0,none⟩)) ∧ Lk σ 21 (.bool (y27)) ∧ H[b1]? = some (.cells (ref01_Set.c ref01_Set.zero) 68) ∧ Iv c.nb [] H0 H) (fun J hJ=>?_) ?_
 ·skip
  cases g35:y14
  ·skip
   have ey27:=cond_f ey27 g35
   obtain ⟨v36,ev36,ey27⟩:=bind_s ey27
   obtain rfl:=Option.some.inj ey27
   simp only [C.f29r1p1,R,Nat.reduceEqDiff,h19,g35,h16,h17,idxP_str (M:=Mt) Tryd.underlying9,ev36]
   refine hJ _ ?_
   exact ⟨h16,h17,h18,(by first | rfl | (simp only [g35]; rfl) | simp only [g35,Lk,RB,Nat.reduceEqDiff,not_false_eq_true]),f20,i21⟩
  ·skip
   have ey27:=cond_t ey27 g35
   obtain rfl:=Option.some.inj ey27
   simp only [C.f29r1p1,R,Nat.reduceEqDiff,h19,g35]
   refine hJ _ ?_
   exact ⟨h16,h17,h18,(by first | rfl | (simp only [g35]; rfl) | simp only [g35,Lk,RB,Nat.reduceEqDiff,not_false_eq_true]),f20,i21⟩
 rintro ⟨σ37,H28,d38⟩ ⟨h29,h30,h31,h32,f33,i34⟩
 obtain ⟨y40,ey40,hm⟩:=bind_s hm
 refine rn_k (fun ⟨σ,H,_⟩=>Lk σ 0 (.string (x0)) ∧ Lk σ 1 (.int .i64 (x1)) ∧ Lk σ 4 (.pointer (some ⟨b1,0,none⟩)) ∧ Lk σ 27 (.bool (y40)) ∧ H[b1]? = some (.cells (ref01_Set.c ref01_Set.zero) 68) ∧ Iv c.nb [] H0 H) (fun J hJ=>?_) ?_
 ·skip
  cases g48:y27
  ·skip
   have ey40:=cond_f ey40 g48
   obtain ⟨v49,ev49,ey40⟩:=bind_s ey40
   obtain rfl:=Option.some.inj ey40
   simp only [C.f29r1p2,R,Nat.reduceEqDiff,h32,g48,h29,h30,idxP_str (M:=Mt) Tryd.underlying9,ev49]
   refine hJ _ ?_
   exact ⟨h29,h30,h31,(by first | rfl | (simp only [g48]; rfl) | simp only [g48,Lk,RB,Nat.reduceEqDiff,not_false_eq_true]),f33,i34⟩
  ·skip
   have ey40:=cond_t ey40 g48
   obtain rfl:=Option.some.inj ey40
   simp only [C.f29r1p2,R,Nat.reduceEqDiff,h32,g48]
   refine hJ _ ?_
   exact ⟨h29,h30,h31,(by first | rfl | (simp only [g48]; rfl) | simp only [g48,Lk,RB,Nat.reduceEqDiff,not_false_eq_true]),f33,i34⟩
 rintro ⟨σ50,H41,d51⟩ ⟨h42,h43,h44,h45,f46,i47⟩
 refine hJ _ ?_
 refine tk_cond (t:=y40) h45 (fun g52=>?_) (fun g52=>?_)
 ·replace hm:=cond_t hm g52
  refine tk_os okM hok fun J hJ=>?_
  obtain ⟨H53,a54,f55,u56⟩:=st_ok (M:=Mt) (t:=68) (v:=(vAgg (ref01_Set.c (ref01_Set.zero)))) (c:=ref01_Set.c ref01_Set.zero) (cs':=ref01_Set.c ref01_Set.zero) f46 (by rw [ref01_Set.enc.len]; exact T.sz68) vAgg_cells (ref01_Set.enc.one _) (Nat.le_trans hcn r6) (le0 ref01_Set.enc.len) (wrs_all (eqL ref01_Set.enc.len))
  have i57:=i47.up u56 r6
  simp only [C.f29r2,R,Nat.reduceEqDiff,bd68_,a54,h44]
  refine hJ _ ?_
  refine tk_ret okM ?_
  refine x12 _ _ (by simp) ?_
  obtain rfl:=Option.some.inj hm
  exact end_flat (.inl rfl) (vs:=[(vAgg (ref01_Set.c (ref01_Set.zero))),(.int .i64 (0))]) (resC' (v:=(vAgg (ref01_Set.c (ref01_Set.zero)))) h44 (ldv_of (ld_agg (M:=Mt) (t:=68) f55 T.ag68 (by rw [ref01_Set.enc.len]; exact T.sz68) Seg.refl)) (resT' (v:=(.int .i64 (0))) rfl resN)) (fm_cons (flat_agg ref01_Set.enc _) (fm_cons rfl fm_nil))
 ·replace hm:=cond_f hm g52
  refine tk_skip okM ?_
  refine n11 _ ?_
  refine tk_seq_k fun K n58 x59=>?_
  refine tk_os okM hok fun J hJ=>?_
  obtain ⟨v60,ev60,hm⟩:=bind_s hm
  simp only [C.f29r3,R,Nat.reduceEqDiff,h42,h43,idxP_str (M:=Mt) Tryd.underlying9,ev60]
  refine hJ _ ?_
  refine tk_cond (t:=decide (v60 = 92)) rfl (fun g61=>?_) (fun g61=>?_)
  ·replace hm:=cond_t hm g61
   refine tk_os okM hok fun J hJ=>?_
   obtain ⟨v63,ev63,hm⟩:=bind_s hm
   have a62:=ha_ref06_escape c.ro H41 x0 x1 v63 ev63
   obtain ⟨H64,a65,f66,u67⟩:=st_ok (M:=Mt) (t:=68) (v:=(vAgg (ref01_Set.c (v63.1)))) (c:=ref01_Set.c v63.1) (cs':=ref01_Set.c v63.1) f46 (by rw [ref01_Set.enc.len]; exact T.sz68) vAgg_cells (ref01_Set.enc.one _) (Nat.le_trans hcn r6) (le0 ref01_Set.enc.len) (wrs_all (eqL ref01_Set.enc.len))
   have i68:=i47.up u67 r6
   simp only [C.f29r4,R,Nat.reduceEqDiff,h42,h43,c_fn F44,a62,a65,h44]
   refine hJ _ ?_
   refine tk_ret okM ?_
   refine x59 _ _ (by simp) ?_
   obtain rfl:=Option.some.inj hm
   exact end_flat (.inl rfl) (vs:=[(vAgg (ref01_Set.c (v63.1))),(.int .i64 (v63.2))]) (resC' (v:=(vAgg (ref01_Set.c (v63.1)))) h44 (ldv_of (ld_agg (M:=Mt) (t:=68) f66 T.ag68 (by rw [ref01_Set.enc.len]; exact T.sz68) Seg.refl)) (resT' (v:=(.int .i64 (v63.2))) rfl resN)) (fm_cons (flat_agg ref01_Set.enc _) (fm_cons rfl fm_nil))
  ·replace hm:=cond_f hm g61
   refine tk_skip okM ?_
   refine n58 _ ?_
   refine tk_os okM hok fun J hJ=>?_
   obtain ⟨v70,ev70,hm⟩:=bind_s hm
   have a69:=ha_ref06_one c.ro H41 v60 v70 ev70
   obtain ⟨H71,a72,f73,u74⟩:=st_ok (M:=Mt) (t:=68) (v:=(vAgg (ref01_Set.c (v70)))) (c:=ref01_Set.c v70) (cs':=ref01_Set.c v70) f46 (by rw [ref01_Set.enc.len]; exact T.sz68) vAgg_cells (ref01_Set.enc.one _) (Nat.le_trans hcn r6) (le0 ref01_Set.enc.len) (wrs_all (eqL ref01_Set.enc.len))
   have i75:=i47.up u74 r6
   simp only [C.f29r5,R,Nat.reduceEqDiff,h42,h43,idxP_str (M:=Mt) Tryd.underlying9,ev60,c_fn F43,a69,a72,h44]
   refine hJ _ ?_
   refine tk_ret okM ?_
   obtain rfl:=Option.some.inj hm
   exact end_flat (.inl rfl) (vs:=[(vAgg (ref01_Set.c (v70))),(.int .i64 (IntKind.i64.wrap (x1 + 1)))]) (resC' (v:=(vAgg (ref01_Set.c (v70)))) h44 (ldv_of (ld_agg (M:=Mt) (t:=68) f73 T.ag68 (by rw [ref01_Set.enc.len]; exact T.sz68) Seg.refl)) (resT' (v:=(.int .i64 (IntKind.i64.wrap (x1 + 1)))) rfl resN)) (fm_cons (flat_agg ref01_Set.enc _) (fm_cons rfl fm_nil))
def b_ref01_Min_1 (n:Nat):Nat → ref01_Set → Int → Option (Int × Bool)
 | 0,_,_=>none
 | k + 1,x16,x4_17=>bif decide (x4_17 < 256) then ((ck 256 x4_17).bind fun j35=>bif x16.f_In.nth j35 then (some (IntKind.u8.wrap x4_17,true)) else (b_ref01_Min_1 n k x16 (IntKind.i64.wrap (x4_17 + 1)))) else (some (0,false))
def b_ref01_Min (n:Nat) (x0:ref01_Set):Option (Int × Bool):=b_ref01_Min_1 n n x0 0
theorem w_ref01_Min {call:CallF} (hok:CallOk Mt call) {n:Nat} {H0:Hp} {x0:ref01_Set} {r:Int × Bool} {ro:Nat} (hro:ro ≤ H0.length) (hm:b_ref01_Min n x0 = some r) :
  Pt Mt ro 30 [(vAgg (ref01_Set.c x0))] H0 (.tuple [(.int .u8 (r.1)),(.bool (r.2))].toArray) H0 []:=by
 refine pt_new0 okM F30d (by exact Nat.le_of_ble_eq_true rfl) ?_ hro
 intro c hnt hnb hcr
 have hcn:c.ro ≤ c.nb:=by omega
 have iv:Iv c.nb [] H0 H0:=by rw [hnb]; exact iv_refl
 rw [show args0 [(vAgg (ref01_Set.c x0))] = [(0,(vAgg (ref01_Set.c x0)))] from rfl]
 rw [b_ref01_Min] at hm
 simp only [C.f30,C.f30b0]
 refine tk_os okM hok fun J hJ=>?_
 obtain ⟨b1,H2,a3,f4,q5,r6,x7,i8⟩:=bx_ok (M:=Mt) (t:=68) (u:=(vAgg (ref01_Set.c (x0)))) (cs:=ref01_Set.c x0) H0 iv.le (by rw [ref01_Set.enc.len]; exact T.sz68) vAgg_cells (ref01_Set.enc.one _)
 have i9:=i8 _ _ iv
 simp only [C.f30r0,R,Nat.reduceEqDiff,a3]
 refine hJ _ ?_
 refine tk_seq_k fun K n11 x12=>?_
 refine tk_os okM hok fun J hJ=>?_
 simp only [C.f30r1,R,Nat.reduceEqDiff]
 refine hJ _ ?_
 refine tk_block_k fun K n13 e14 x15=>?_
 refine tk_loop_k (n:=n) (fun k1 ⟨σ,H,_⟩=>∃ x16 x4_17,b_ref01_Min_1 n k1 x16 x4_17 = some r ∧ Lk σ 1 (.pointer (some ⟨b1,0,none⟩)) ∧ Lk σ 4 (.int .i64 x4_17) ∧ H[b1]? = some (.cells (ref01_Set.c x16) 68) ∧ Iv c.nb [] H0 H) ?_ ?_ ?_
 ·exact ⟨x0,0,hm,rfl,rfl,f4,i9⟩
 ·rintro ⟨σ,H,d⟩ ⟨_,_,hm,_⟩
  cases hm
 ·intro k1 K n18 x19
  rintro ⟨σ25,H20,d26⟩ ⟨x16,x4_17,hm,h21,h22,f23,i24⟩
  rw [b_ref01_Min_1.eq_2] at hm
  refine tk_seq_k fun K n27 x28=>?_
  refine tk_os okM hok fun J hJ=>?_
  simp only [C.f30r2,R,Nat.reduceEqDiff,h22]
  refine hJ _ ?_
  refine tk_cond (t:=decide (x4_17 < 256)) rfl (fun g29=>?_) (fun g29=>?_)
  ·replace hm:=cond_t hm g29
   refine tk_skip okM ?_
   refine n27 _ ?_
   refine tk_seq_k fun K n30 x31=>?_
   refine tk_block_k fun K n32 e33 x34=>?_
   refine tk_os okM hok fun J hJ=>?_
   obtain ⟨j35,ej35,hm⟩:=bind_s hm
   have a36:=ld_one (M:=Mt) (t:=4) f23 T.ag4 ((Seg.refl.sub (ref01_Set.seg0 x16)).sub (sgA enc_bool.len (a:=x16.f_In) (ck_lt ej35).1))
   simp only [C.f30r4,R,Nat.reduceEqDiff,h22,fa68_0,h21,ia66,ej35,a36]
   refine hJ _ ?_
   refine tk_cond (t:=x16.f_In.nth j35) rfl (fun g37=>?_) (fun g37=>?_)
   ·replace hm:=cond_t hm g37
    refine tk_os okM hok fun J hJ=>?_
    simp only [C.f30r5,R,Nat.reduceEqDiff,h22,cv_int (M:=Mt) Tryd.underlying3 Tryd.underlying5]
    refine hJ _ ?_
    refine tk_ret okM ?_
    refine x34 _ _ (by simp) (by simp) ?_
    refine x31 _ _ (by simp) ?_
    refine x19 _ _ (by simp) ?_
    refine x15 _ _ (by simp) (by simp) ?_
    refine x12 _ _ (by simp) ?_
    obtain rfl:=Option.some.inj hm
    exact end_flat (.inl rfl) (vs:=[(.int .u8 (IntKind.u8.wrap x4_17)),(.bool (true))]) (resT' (v:=(.int .u8 (IntKind.u8.wrap x4_17))) rfl (resT' (v:=(.bool (true))) rfl resN)) (fm_cons rfl (fm_cons rfl fm_nil))
   ·replace hm:=cond_f hm g37
    refine tk_skip okM ?_
    refine n32 _ ?_
    refine n30 _ ?_
    refine tk_oe okM hok fun J hJ=>?_
    simp only [C.f30r3,R,Nat.reduceEqDiff,h22]
    refine hJ _ ?_
    refine n18 _ ?_
    exact ⟨x16,IntKind.i64.wrap (x4_17 + 1),hm,h21,rfl,f23,i24⟩
  ·replace hm:=cond_f hm g29
   refine tk_exit okM ?_
   refine x28 _ _ (by simp) ?_
   refine x19 _ _ (by simp) ?_
   refine e14 _ ?_
   refine n11 _ ?_
   refine tk_os okM hok fun J hJ=>?_
   simp only [C.f30r6,R,Nat.reduceEqDiff]
   refine hJ _ ?_
   refine tk_ret okM ?_
   obtain rfl:=Option.some.inj hm
   exact end_flat (.inl rfl) (vs:=[(.int .u8 (0)),(.bool (false))]) (resT' (v:=(.int .u8 (0))) rfl (resT' (v:=(.bool (false))) rfl resN)) (fm_cons rfl (fm_cons rfl fm_nil))
def b_ref01_Len_2 (n:Nat) (q1:ref01_Set → Int → Int → Option (Int)) (x32:ref01_Set) (x3_33:Int) (x4_34:Int):Option (Int):=q1 x32 x3_33 (IntKind.i64.wrap (x4_34 + 1))
def b_ref01_Len_1 (n:Nat):Nat → ref01_Set → Int → Int → Option (Int)
 | 0,_,_,_=>none
 | k + 1,x16,x3_17,x4_18=>bif decide (x4_18 < 256) then ((ck 256 x4_18).bind fun j48=>bif x16.f_In.nth j48 then (b_ref01_Len_2 n (b_ref01_Len_1 n k) x16 (IntKind.i64.wrap (x3_17 + 1)) x4_18) else (b_ref01_Len_2 n (b_ref01_Len_1 n k) x16 x3_17 x4_18)) else (some x3_17)
def b_ref01_Len (n:Nat) (x0:ref01_Set):Option (Int):=b_ref01_Len_1 n n x0 0 0
theorem w_ref01_Len {call:CallF} (hok:CallOk Mt call) {n:Nat} {H0:Hp} {x0:ref01_Set} {r:Int} {ro:Nat} (hro:ro ≤ H0.length) (hm:b_ref01_Len n x0 = some r) :
  Pt Mt ro 31 [(vAgg (ref01_Set.c x0))] H0 (.int .i64 (r)) H0 []:=by
 refine pt_new0 okM F31d (by exact Nat.le_of_ble_eq_true rfl) ?_ hro
 intro c hnt hnb hcr
 have hcn:c.ro ≤ c.nb:=by omega
 have iv:Iv c.nb [] H0 H0:=by rw [hnb]; exact iv_refl
 rw [show args0 [(vAgg (ref01_Set.c x0))] = [(0,(vAgg (ref01_Set.c x0)))] from rfl]
 rw [b_ref01_Len] at hm
 simp only [C.f31,C.f31b0]
 refine tk_os okM hok fun J hJ=>?_
 obtain ⟨b1,H2,a3,f4,q5,r6,x7,i8⟩:=bx_ok (M:=Mt) (t:=68) (u:=(vAgg (ref01_Set.c (x0)))) (cs:=ref01_Set.c x0) H0 iv.le (by rw [ref01_Set.enc.len]; exact T.sz68) vAgg_cells (ref01_Set.enc.one _)
 have i9:=i8 _ _ iv
 simp only [C.f31r0,R,Nat.reduceEqDiff,a3]
 refine hJ _ ?_
 refine tk_os okM hok fun J hJ=>?_
 simp only [C.f31r1,R,Nat.reduceEqDiff]
 refine hJ _ ?_
 refine tk_seq_k fun K n11 x12=>?_
 refine tk_os okM hok fun J hJ=>?_
 simp only [C.f31r2,R,Nat.reduceEqDiff]
 refine hJ _ ?_
 refine tk_block_k fun K n13 e14 x15=>?_
 refine tk_loop_k (n:=n) (fun k1 ⟨σ,H,_⟩=>∃ x16 x3_17 x4_18,b_ref01_Len_1 n k1 x16 x3_17 x4_18 = some r ∧ Lk σ 1 (.pointer (some ⟨b1,0,none⟩)) ∧ Lk σ 3 (.int .i64 x3_17) ∧ Lk σ 4 (.int .i64 x4_18) ∧ H[b1]? = some (.cells (ref01_Set.c x16) 68) ∧ Iv c.nb [] H0 H) ?_ ?_ ?_
 ·exact ⟨x0,0,0,hm,rfl,rfl,rfl,f4,i9⟩
 ·rintro ⟨σ,H,d⟩ ⟨_,_,_,hm,_⟩
  cases hm
 ·intro k1 K n19 x20
  rintro ⟨σ27,H21,d28⟩ ⟨x16,x3_17,x4_18,hm,h22,h23,h24,f25,i26⟩
  rw [b_ref01_Len_1.eq_2] at hm
  refine tk_seq_k fun K n29 x30=>?_
  refine tk_os okM hok fun J hJ=>?_
  simp only [C.f31r3,R,Nat.reduceEqDiff,h24]
  refine hJ _ ?_
  refine tk_cond (t:=decide (x4_18 < 256)) rfl (fun g31=>?_) (fun g31=>?_)
  ·replace hm:=cond_t hm g31
   refine tk_skip okM ?_
   refine n29 _ ?_
   refine tk_seq_j (fun ⟨σ,H,_⟩=>∃ x32 x3_33 x4_34,b_ref01_Len_2 n (b_ref01_Len_1 n k1) x32 x3_33 x4_34 = some r ∧ Lk σ 1 (.pointer (some ⟨b1,0,none⟩)) ∧ Lk σ 3 (.int .i64 x3_33) ∧ Lk σ 4 (.int .i64 x4_34) ∧ H[b1]? = some (.cells (ref01_Set.c x32) 68) ∧ Iv c.nb [] H0 H) ?_ ?_
   ·skip
    rintro ⟨σ41,H35,d42⟩ ⟨x32,x3_33,x4_34,hm,h36,h37,h38,f39,i40⟩
    rw [b_ref01_Len_2] at hm
    refine tk_oe okM hok fun J hJ=>?_
    simp only [C.f31r4,R,Nat.reduceEqDiff,h38]
    refine hJ _ ?_
    refine n19 _ ?_
    exact ⟨x32,x3_33,IntKind.i64.wrap (x4_34 + 1),hm,h36,h37,rfl,f39,i40⟩
   ·refine fun K n43 x44=>?_
    refine tk_block_k fun K n45 e46 x47=>?_
    refine tk_os okM hok fun J hJ=>?_
    obtain ⟨j48,ej48,hm⟩:=bind_s hm
    have a49:=ld_one (M:=Mt) (t:=4) f25 T.ag4 ((Seg.refl.sub (ref01_Set.seg0 x16)).sub (sgA enc_bool.len (a:=x16.f_In) (ck_lt ej48).1))
    simp only [C.f31r5,R,Nat.reduceEqDiff,h24,fa68_0,h22,ia66,ej48,a49]
    refine hJ _ ?_
    refine tk_cond (t:=x16.f_In.nth j48) rfl (fun g50=>?_) (fun g50=>?_)
    ·replace hm:=cond_t hm g50
     refine tk_oe okM hok fun J hJ=>?_
     simp only [C.f31r6,R,Nat.reduceEqDiff,h23]
     refine hJ _ ?_
     refine n45 _ ?_
     refine n43 _ ?_
     exact ⟨x16,IntKind.i64.wrap (x3_17 + 1),x4_18,hm,h22,rfl,h24,f25,i26⟩
    ·replace hm:=cond_f hm g50
     refine tk_skip okM ?_
     refine n45 _ ?_
     refine n43 _ ?_
     exact ⟨x16,x3_17,x4_18,hm,h22,h23,h24,f25,i26⟩
  ·replace hm:=cond_f hm g31
   refine tk_exit okM ?_
   refine x30 _ _ (by simp) ?_
   refine x20 _ _ (by simp) ?_
   refine e14 _ ?_
   refine n11 _ ?_
   refine tk_os okM hok fun J hJ=>?_
   simp only [C.f31r7,R,Nat.reduceEqDiff,h23]
   refine hJ _ ?_
   refine tk_ret okM ?_
   obtain rfl:=Option.some.inj hm
   exact end_flat (.inl rfl) (vs:=[(.int .i64 (x3_17))]) (resT' (v:=(.int .i64 (x3_17))) rfl resN) (fm_cons rfl fm_nil)
def b_ref01_Range_1 (n:Nat):Nat → Int → Int → ref01_Set → ref01_Set → Int → Option (ref01_Set)
 | 0,_,_,_,_,_=>none
 | k + 1,x0_33,x1_34,x35,x36,x6_37=>bif decide (x6_37 < 256) then ((ck 256 x6_37).bind fun j73=>b_ref01_Range_1 n k x0_33 x1_34 x35 ({ x36 with f_In:=x36.f_In.put j73 ((decide ((IntKind.i64.wrap x0_33) ≤ x6_37)) && (decide (x6_37 ≤ (IntKind.i64.wrap x1_34)))) }) (IntKind.i64.wrap (x6_37 + 1))) else (some x36)
def b_ref01_Range (n:Nat) (x0:Int) (x1:Int):Option (ref01_Set):=b_ref01_Range_1 n n x0 x1 ref01_Set.zero ref01_Set.zero 0
theorem w_ref01_Range {call:CallF} (hok:CallOk Mt call) {n:Nat} {H0:Hp} {x0:Int} {x1:Int} {r:ref01_Set} {ro:Nat} (hro:ro ≤ H0.length) (hm:b_ref01_Range n x0 x1 = some r) :
  Pt Mt ro 32 [(.int .u8 x0),(.int .u8 x1)] H0 (vAgg (ref01_Set.c (r))) H0 []:=by
 refine pt_new0 okM F32d (by exact Nat.le_of_ble_eq_true rfl) ?_ hro
 intro c hnt hnb hcr
 have hcn:c.ro ≤ c.nb:=by omega
 have iv:Iv c.nb [] H0 H0:=by rw [hnb]; exact iv_refl
 rw [show args0 [(.int .u8 x0),(.int .u8 x1)] = [(0,(.int .u8 x0)),(1,(.int .u8 x1))] from rfl]
 rw [b_ref01_Range] at hm
 simp only [C.f32,C.f32b0]
 refine tk_os okM hok fun J hJ=>?_
 obtain ⟨b1,H2,a3,f4,q5,r6,x7,i8⟩:=al_ok H0 68 (ref01_Set.c ref01_Set.zero) iv.le
 have i9:=i8 _ _ iv
 simp only [C.f32r0,R,Nat.reduceEqDiff,zs68,a3]
 refine hJ _ ?_
 refine tk_os okM hok fun J hJ=>?_
 obtain ⟨b11,H12,a13,f14,q15,r16,x17,i18⟩:=al_ok H2 68 (ref01_Set.c ref01_Set.zero) i9.le
 have i19:=i18 _ _ i9
 have f20:=x17 _ _ f4
 obtain ⟨H22,a23,f24,u25⟩:=st_ok (M:=Mt) (t:=68) (v:=(vAgg (ref01_Set.c (ref01_Set.zero)))) (c:=ref01_Set.c ref01_Set.zero) (cs':=ref01_Set.c ref01_Set.zero) f14 (by rw [ref01_Set.enc.len]; exact T.sz68) vAgg_cells (ref01_Set.enc.one _) (Nat.le_trans hcn r16) (le0 ref01_Set.enc.len) (wrs_all (eqL ref01_Set.enc.len))
 have i26:=i19.up u25 r16
 have f27:=(u25.get _ (ne_len f4 q15)).trans f20
 simp only [C.f32r1,R,Nat.reduceEqDiff,bd68_,zs68,a13,a23]
 refine hJ _ ?_
 refine tk_seq_k fun K n28 x29=>?_
 refine tk_os okM hok fun J hJ=>?_
 simp only [C.f32r2,R,Nat.reduceEqDiff]
 refine hJ _ ?_
 refine tk_block_k fun K n30 e31 x32=>?_
 refine tk_loop_k (n:=n) (fun k1 ⟨σ,H,_⟩=>∃ x0_33 x1_34 x35 x36 x6_37,b_ref01_Range_1 n k1 x0_33 x1_34 x35 x36 x6_37 = some r ∧ Lk σ 0 (.int .u8 x0_33) ∧ Lk σ 1 (.int .u8 x1_34) ∧ Lk σ 4 (.pointer (some ⟨b1,0,none⟩)) ∧ Lk σ 5 (.pointer (some ⟨b11,0,none⟩)) ∧ Lk σ 6 (.int .i64 x6_37) ∧ H[b1]? = some (.cells (ref01_Set.c x35) 68) ∧ H[b11]? = some (.cells (ref01_Set.c x36) 68) ∧ Iv c.nb [] H0 H) ?_ ?_ ?_
 ·exact ⟨x0,x1,ref01_Set.zero,ref01_Set.zero,0,hm,rfl,rfl,rfl,rfl,rfl,f27,f24,i26⟩
 ·rintro ⟨σ,H,d⟩ ⟨_,_,_,_,_,hm,_⟩
  cases hm
 ·intro k1 K n38 x39
  rintro ⟨σ49,H40,d50⟩ ⟨x0_33,x1_34,x35,x36,x6_37,hm,h41,h42,h43,h44,h45,f46,f47,i48⟩
  rw [b_ref01_Range_1.eq_2] at hm
  refine tk_seq_k fun K n51 x52=>?_
  refine tk_os okM hok fun J hJ=>?_
  simp only [C.f32r3,R,Nat.reduceEqDiff,h45]
  refine hJ _ ?_
  refine tk_cond (t:=decide (x6_37 < 256)) rfl (fun g53=>?_) (fun g53=>?_)
  ·replace hm:=cond_t hm g53
   refine tk_skip okM ?_
   refine n51 _ ?_
   refine tk_seq_k fun K n54 x55=>?_
   refine tk_block_k fun K n56 e57 x58=>?_
   refine tk_oe okM hok fun J hJ=>?_
   rw [C.f32r5]
   refine rn_app_k (fun ⟨σ,H,_⟩=>Lk σ 0 (.int .u8 (x0_33)) ∧ Lk σ 1 (.int .u8 (x1_34)) ∧ Lk σ 4 (.pointer (some ⟨b1,0,none⟩)) ∧ Lk σ 5 (.pointer (some ⟨b11,0,none⟩)) ∧ Lk σ 6 (.int .i64 (x6_37)) ∧ Lk σ 12 (.int .i64 (x6_37)) ∧ Lk σ 22 (.bool ((decide ((IntKind.i64.wrap x0_33) ≤ x6_37)) && (decide (x6_37 ≤ (IntKind.i64.wrap x1_34))))) ∧ H[b1]? = some (.cells (ref01_Set.c x35) 68) ∧ H[b11]? = some (.cells (ref01_Set.c x36) 68) ∧ Iv c.nb [] H0 H) (fun J hJ=>?_) ?_
   ·skip
    cases g70:decide ((IntKind.i64.wrap x0_33) ≤ x6_37)
    ·skip
     simp only [C.f32r5p0,R,Nat.reduceEqDiff,h45,h41,cv_int (M:=Mt) Tryd.underlying5 Tryd.underlying3,g70]
     refine hJ _ ?_
     exact ⟨h41,h42,h43,h44,h45,(by first | rfl | (simp only [g70]; rfl) | simp only [g70,Lk,RB,Nat.reduceEqDiff,not_false_eq_true]),(by first | rfl | (simp only [g70]; rfl) | simp only [g70,Lk,RB,Nat.reduceEqDiff,not_false_eq_true]),f46,f47,i48⟩
    ·skip
     simp only [C.f32r5p0,R,Nat.reduceEqDiff,h45,h41,cv_int (M:=Mt) Tryd.underlying5 Tryd.underlying3,g70,h42]
     refine hJ _ ?_
     exact ⟨h41,h42,h43,h44,h45,(by first | rfl | (simp only [g70]; rfl) | simp only [g70,Lk,RB,Nat.reduceEqDiff,not_false_eq_true]),(by first | rfl | (simp only [g70]; rfl) | simp only [g70,Lk,RB,Nat.reduceEqDiff,not_false_eq_true]),f46,f47,i48⟩
   rintro ⟨σ71,H59,d72⟩ ⟨h60,h61,h62,h63,h64,h65,h66,f67,f68,i69⟩
   obtain ⟨j73,ej73,hm⟩:=bind_s hm
   obtain ⟨H74,a75,f76,u77⟩:=st_ok (M:=Mt) (t:=4) (v:=(.bool ((decide ((IntKind.i64.wrap x0_33) ≤ x6_37)) && (decide (x6_37 ≤ (IntKind.i64.wrap x1_34)))))) (c:=cBool ((decide ((IntKind.i64.wrap x0_33) ≤ x6_37)) && (decide (x6_37 ≤ (IntKind.i64.wrap x1_34))))) (cs':=ref01_Set.c ({ x36 with f_In:=x36.f_In.put j73 ((decide ((IntKind.i64.wrap x0_33) ≤ x6_37)) && (decide (x6_37 ≤ (IntKind.i64.wrap x1_34)))) })) f68 (by rw [enc_bool.len]; exact T.sz4) rfl (enc_bool.one _) (Nat.le_trans hcn r16) (Nat.le_trans (Nat.le_of_eq (congrArg _ (eqL enc_bool.len))) ((Seg.refl.sub (ref01_Set.seg0 x36)).sub (sgA enc_bool.len (a:=x36.f_In) (ck_lt ej73).1)).2) (by rw [wrs_in (Seg.refl.sub (ref01_Set.seg0 x36)) (by have:=(ck_lt ej73).1; simp only [enc_bool.len,(enc_arr (n:=256) enc_bool).len]; omega),wrA enc_bool.len (a:=x36.f_In) (v:=(decide ((IntKind.i64.wrap x0_33) ≤ x6_37)) && (decide (x6_37 ≤ (IntKind.i64.wrap x1_34)))) (ck_lt ej73).1,Nat.zero_add,ref01_Set.wr0 x36 (x36.f_In.put j73 ((decide ((IntKind.i64.wrap x0_33) ≤ x6_37)) && (decide (x6_37 ≤ (IntKind.i64.wrap x1_34)))))])
   have i78:=i69.up u77 r16
   have f79:=(u77.get _ (ne_len f4 q15)).trans f67
   simp only [C.f32r5p1,R,Nat.reduceEqDiff,fa68_0,h63,ia66,ej73,h65,a75,h66]
   refine hJ _ ?_
   refine n56 _ ?_
   refine n54 _ ?_
   refine tk_oe okM hok fun J hJ=>?_
   simp only [C.f32r4,R,Nat.reduceEqDiff,h64]
   refine hJ _ ?_
   refine n38 _ ?_
   exact ⟨x0_33,x1_34,x35,{ x36 with f_In:=x36.f_In.put j73 ((decide ((IntKind.i64.wrap x0_33) ≤ x6_37)) && (decide (x6_37 ≤ (IntKind.i64.wrap x1_34)))) },IntKind.i64.wrap (x6_37 + 1),hm,h60,h61,h62,h63,rfl,f79,f76,i78⟩
  ·replace hm:=cond_f hm g53
   refine tk_exit okM ?_
   refine x52 _ _ (by simp) ?_
   refine x39 _ _ (by simp) ?_
   refine e31 _ ?_
   refine n28 _ ?_
   refine tk_os okM hok fun J hJ=>?_
   have a80:=ld_agg (M:=Mt) (t:=68) f47 T.ag68 (by rw [ref01_Set.enc.len]; exact T.sz68) Seg.refl
   obtain ⟨H81,a82,f83,u84⟩:=st_ok (M:=Mt) (t:=68) (v:=(vAgg (ref01_Set.c (x36)))) (c:=ref01_Set.c x36) (cs':=ref01_Set.c x36) f46 (by rw [ref01_Set.enc.len]; exact T.sz68) vAgg_cells (ref01_Set.enc.one _) (Nat.le_trans hcn r6) (le0 ref01_Set.enc.len) (wrs_all (eqL ref01_Set.enc.len))
   have i85:=i48.up u84 r6
   have f86:=(u84.get _ (ne_len f4 q15).symm).trans f47
   simp only [C.f32r6,R,Nat.reduceEqDiff,a80,h44,a82,h43]
   refine hJ _ ?_
   refine tk_ret okM ?_
   obtain rfl:=Option.some.inj hm
   exact end_flat (.inl rfl) (vs:=[(vAgg (ref01_Set.c (x36)))]) (resC' (v:=(vAgg (ref01_Set.c (x36)))) h43 (ldv_of (ld_agg (M:=Mt) (t:=68) f83 T.ag68 (by rw [ref01_Set.enc.len]; exact T.sz68) Seg.refl)) resN) (fm_cons (flat_agg ref01_Set.enc _) fm_nil)
def b_ref01_Or_1 (n:Nat):Nat → ref01_Set → ref01_Set → ref01_Set → Int → Option (ref01_Set)
 | 0,_,_,_,_=>none
 | k + 1,x39,x40,x41,x5_42=>bif decide (x5_42 < 256) then ((ck 256 x5_42).bind fun j64=>b_ref01_Or_1 n k ({ x39 with f_In:=x39.f_In.put j64 ((x39.f_In.nth j64) || (x40.f_In.nth j64)) }) x40 x41 (IntKind.i64.wrap (x5_42 + 1))) else (some x39)
def b_ref01_Or (n:Nat) (x0:ref01_Set) (x1:ref01_Set):Option (ref01_Set):=b_ref01_Or_1 n n x0 x1 ref01_Set.zero 0
theorem w_ref01_Or {call:CallF} (hok:CallOk Mt call) {n:Nat} {H0:Hp} {x0:ref01_Set} {x1:ref01_Set} {r:ref01_Set} {ro:Nat} (hro:ro ≤ H0.length) (hm:b_ref01_Or n x0 x1 = some r) :
  Pt Mt ro 33 [(vAgg (ref01_Set.c x0)),(vAgg (ref01_Set.c x1))] H0 (vAgg (ref01_Set.c (r))) H0 []:=by
 refine pt_new0 okM F33d (by exact Nat.le_of_ble_eq_true rfl) ?_ hro
 intro c hnt hnb hcr
 have hcn:c.ro ≤ c.nb:=by omega
 have iv:Iv c.nb [] H0 H0:=by rw [hnb]; exact iv_refl
 rw [show args0 [(vAgg (ref01_Set.c x0)),(vAgg (ref01_Set.c x1))] = [(0,(vAgg (ref01_Set.c x0))),(1,(vAgg (ref01_Set.c x1)))] from rfl]
 rw [b_ref01_Or] at hm
 simp only [C.f33,C.f33b0]
 refine tk_os okM hok fun J hJ=>?_
 obtain ⟨b1,H2,a3,f4,q5,r6,x7,i8⟩:=bx_ok (M:=Mt) (t:=68) (u:=(vAgg (ref01_Set.c (x0)))) (cs:=ref01_Set.c x0) H0 iv.le (by rw [ref01_Set.enc.len]; exact T.sz68) vAgg_cells (ref01_Set.enc.one _)
 have i9:=i8 _ _ iv
 obtain ⟨b11,H12,a13,f14,q15,r16,x17,i18⟩:=bx_ok (M:=Mt) (t:=68) (u:=(vAgg (ref01_Set.c (x1)))) (cs:=ref01_Set.c x1) H2 i9.le (by rw [ref01_Set.enc.len]; exact T.sz68) vAgg_cells (ref01_Set.enc.one _)
 have i19:=i18 _ _ i9
 have f20:=x17 _ _ f4
 obtain ⟨b22,H23,a24,f25,q26,r27,x28,i29⟩:=al_ok H12 68 (ref01_Set.c ref01_Set.zero) i19.le
 have i30:=i29 _ _ i19
 have f31:=x28 _ _ f20
 have f32:=x28 _ _ f14
 simp only [C.f33r0,R,Nat.reduceEqDiff,a3,a13,zs68,a24]
 refine hJ _ ?_
 refine tk_seq_k fun K n34 x35=>?_
 refine tk_os okM hok fun J hJ=>?_
 simp only [C.f33r1,R,Nat.reduceEqDiff]
 refine hJ _ ?_
 refine tk_block_k fun K n36 e37 x38=>?_
 refine tk_loop_k (n:=n) (fun k1 ⟨σ,H,_⟩=>∃ x39 x40 x41 x5_42,b_ref01_Or_1 n k1 x39 x40 x41 x5_42 = some r ∧ Lk σ 2 (.pointer (some ⟨b1,0,none⟩)) ∧ Lk σ 3 (.pointer (some ⟨b11,0,none⟩)) ∧ Lk σ 4 (.pointer (some ⟨b22,0,none⟩)) ∧ Lk σ 5 (.int .i64 x5_42) ∧ H[b1]? = some (.cells (ref01_Set.c x39) 68) ∧ H[b11]? = some (.cells (ref01_Set.c x40) 68) ∧ H[b22]? = some (.cells (ref01_Set.c x41) 68) ∧ Iv c.nb [] H0 H) ?_ ?_ ?_
 ·exact ⟨x0,x1,ref01_Set.zero,0,hm,rfl,rfl,rfl,rfl,f31,f32,f25,i30⟩
 ·rintro ⟨σ,H,d⟩ ⟨_,_,_,_,hm,_⟩
  cases hm
 ·intro k1 K n43 x44
  rintro ⟨σ54,H45,d55⟩ ⟨x39,x40,x41,x5_42,hm,h46,h47,h48,h49,f50,f51,f52,i53⟩
  rw [b_ref01_Or_1.eq_2] at hm
  refine tk_seq_k fun K n56 x57=>?_
  refine tk_os okM hok fun J hJ=>?_
  simp only [C.f33r2,R,Nat.reduceEqDiff,h49]
  refine hJ _ ?_
  refine tk_cond (t:=decide (x5_42 < 256)) rfl (fun g58=>?_) (fun g58=>?_)
  ·replace hm:=cond_t hm g58
   refine tk_skip okM ?_
   refine n56 _ ?_
   refine tk_seq_k fun K n59 x60=>?_
   refine tk_block_k fun K n61 e62 x63=>?_
   refine tk_oe okM hok fun J hJ=>?_
   rw [C.f33r4]
   obtain ⟨j64,ej64,hm⟩:=bind_s hm
   have a65:=ld_one (M:=Mt) (t:=4) f50 T.ag4 ((Seg.refl.sub (ref01_Set.seg0 x39)).sub (sgA enc_bool.len (a:=x39.f_In) (ck_lt ej64).1))
   refine rn_app_k (fun ⟨σ,H,_⟩=>Lk σ 2 (.pointer (some ⟨b1,0,none⟩)) ∧ Lk σ 3 (.pointer (some ⟨b11,0,none⟩)) ∧ Lk σ 4 (.pointer (some ⟨b22,0,none⟩)) ∧ Lk σ 5 (.int .i64 (x5_42)) ∧ Lk σ 10 (.int .i64 (x5_42)) ∧ Lk σ 20 (.bool ((x39.f_In.nth j64) || (x40.f_In.nth j64))) ∧ H[b1]? = some (.cells (ref01_Set.c x39) 68) ∧ H[b11]? = some (.cells (ref01_Set.c x40) 68) ∧ H[b22]? = some (.cells (ref01_Set.c x41) 68) ∧ Iv c.nb [] H0 H) (fun J hJ=>?_) ?_
   ·skip
    cases g78:x39.f_In.nth j64
    ·skip
     have a79:=ld_one (M:=Mt) (t:=4) f51 T.ag4 ((Seg.refl.sub (ref01_Set.seg0 x40)).sub (sgA enc_bool.len (a:=x40.f_In) (ck_lt ej64).1))
     simp only [C.f33r4p0,R,Nat.reduceEqDiff,h49,fa68_0,h46,ia66,ej64,a65,g78,h47,a79]
     refine hJ _ ?_
     exact ⟨h46,h47,h48,h49,(by first | rfl | (simp only [g78]; rfl) | simp only [g78,Lk,RB,Nat.reduceEqDiff,not_false_eq_true]),(by first | rfl | (simp only [g78]; rfl) | simp only [g78,Lk,RB,Nat.reduceEqDiff,not_false_eq_true]),f50,f51,f52,i53⟩
    ·skip
     simp only [C.f33r4p0,R,Nat.reduceEqDiff,h49,fa68_0,h46,ia66,ej64,a65,g78]
     refine hJ _ ?_
     exact ⟨h46,h47,h48,h49,(by first | rfl | (simp only [g78]; rfl) | simp only [g78,Lk,RB,Nat.reduceEqDiff,not_false_eq_true]),(by first | rfl | (simp only [g78]; rfl) | simp only [g78,Lk,RB,Nat.reduceEqDiff,not_false_eq_true]),f50,f51,f52,i53⟩
   rintro ⟨σ80,H67,d81⟩ ⟨h68,h69,h70,h71,h72,h73,f74,f75,f76,i77⟩
   obtain ⟨H82,a83,f84,u85⟩:=st_ok (M:=Mt) (t:=4) (v:=(.bool ((x39.f_In.nth j64) || (x40.f_In.nth j64)))) (c:=cBool ((x39.f_In.nth j64) || (x40.f_In.nth j64))) (cs':=ref01_Set.c ({ x39 with f_In:=x39.f_In.put j64 ((x39.f_In.nth j64) || (x40.f_In.nth j64)) })) f74 (by rw [enc_bool.len]; exact T.sz4) rfl (enc_bool.one _) (Nat.le_trans hcn r6) (Nat.le_trans (Nat.le_of_eq (congrArg _ (eqL enc_bool.len))) ((Seg.refl.sub (ref01_Set.seg0 x39)).sub (sgA enc_bool.len (a:=x39.f_In) (ck_lt ej64).1)).2) (by rw [wrs_in (Seg.refl.sub (ref01_Set.seg0 x39)) (by have:=(ck_lt ej64).1; simp only [enc_bool.len,(enc_arr (n:=256) enc_bool).len]; omega),wrA enc_bool.len (a:=x39.f_In) (v:=(x39.f_In.nth j64) || (x40.f_In.nth j64)) (ck_lt ej64).1,Nat.zero_add,ref01_Set.wr0 x39 (x39.f_In.put j64 ((x39.f_In.nth j64) || (x40.f_In.nth j64)))])
   have i86:=i77.up u85 r6
   have f87:=(u85.get _ (ne_len f4 q15).symm).trans f75
   have f88:=(u85.get _ (ne_len f20 q26).symm).trans f76
   simp only [C.f33r4p1,R,Nat.reduceEqDiff,fa68_0,h68,ia66,ej64,h72,a83,h73]
   refine hJ _ ?_
   refine n61 _ ?_
   refine n59 _ ?_
   refine tk_oe okM hok fun J hJ=>?_
   simp only [C.f33r3,R,Nat.reduceEqDiff,h71]
   refine hJ _ ?_
   refine n43 _ ?_
   exact ⟨{ x39 with f_In:=x39.f_In.put j64 ((x39.f_In.nth j64) || (x40.f_In.nth j64)) },x40,x41,IntKind.i64.wrap (x5_42 + 1),hm,h68,h69,h70,rfl,f84,f87,f88,i86⟩
  ·replace hm:=cond_f hm g58
   refine tk_exit okM ?_
   refine x57 _ _ (by simp) ?_
   refine x44 _ _ (by simp) ?_
   refine e37 _ ?_
   refine n34 _ ?_
   refine tk_os okM hok fun J hJ=>?_
   have a89:=ld_agg (M:=Mt) (t:=68) f50 T.ag68 (by rw [ref01_Set.enc.len]; exact T.sz68) Seg.refl
   obtain ⟨H90,a91,f92,u93⟩:=st_ok (M:=Mt) (t:=68) (v:=(vAgg (ref01_Set.c (x39)))) (c:=ref01_Set.c x39) (cs':=ref01_Set.c x39) f52 (by rw [ref01_Set.enc.len]; exact T.sz68) vAgg_cells (ref01_Set.enc.one _) (Nat.le_trans hcn r27) (le0 ref01_Set.enc.len) (wrs_all (eqL ref01_Set.enc.len))
   have i94:=i53.up u93 r27
   have f95:=(u93.get _ (ne_len f20 q26)).trans f50
   have f96:=(u93.get _ (ne_len f14 q26)).trans f51
   simp only [C.f33r5,R,Nat.reduceEqDiff,a89,h46,a91,h48]
   refine hJ _ ?_
   refine tk_ret okM ?_
   obtain rfl:=Option.some.inj hm
   exact end_flat (.inl rfl) (vs:=[(vAgg (ref01_Set.c (x39)))]) (resC' (v:=(vAgg (ref01_Set.c (x39)))) h48 (ldv_of (ld_agg (M:=Mt) (t:=68) f92 T.ag68 (by rw [ref01_Set.enc.len]; exact T.sz68) Seg.refl)) resN) (fm_cons (flat_agg ref01_Set.enc _) fm_nil)
def b_ref01_Not_1 (n:Nat):Nat → ref01_Set → ref01_Set → Int → Option (ref01_Set)
 | 0,_,_,_=>none
 | k + 1,x27,x28,x3_29=>bif decide (x3_29 < 256) then ((ck 256 x3_29).bind fun j49=>b_ref01_Not_1 n k ({ x27 with f_In:=x27.f_In.put j49 (!(x27.f_In.nth j49)) }) x28 (IntKind.i64.wrap (x3_29 + 1))) else (some x27)
def b_ref01_Not (n:Nat) (x0:ref01_Set):Option (ref01_Set):=b_ref01_Not_1 n n x0 ref01_Set.zero 0
theorem w_ref01_Not {call:CallF} (hok:CallOk Mt call) {n:Nat} {H0:Hp} {x0:ref01_Set} {r:ref01_Set} {ro:Nat} (hro:ro ≤ H0.length) (hm:b_ref01_Not n x0 = some r) :
  Pt Mt ro 34 [(vAgg (ref01_Set.c x0))] H0 (vAgg (ref01_Set.c (r))) H0 []:=by
 refine pt_new0 okM F34d (by exact Nat.le_of_ble_eq_true rfl) ?_ hro
 intro c hnt hnb hcr
 have hcn:c.ro ≤ c.nb:=by omega
 have iv:Iv c.nb [] H0 H0:=by rw [hnb]; exact iv_refl
 rw [show args0 [(vAgg (ref01_Set.c x0))] = [(0,(vAgg (ref01_Set.c x0)))] from rfl]
 rw [b_ref01_Not] at hm
 simp only [C.f34,C.f34b0]
 refine tk_os okM hok fun J hJ=>?_
 obtain ⟨b1,H2,a3,f4,q5,r6,x7,i8⟩:=bx_ok (M:=Mt) (t:=68) (u:=(vAgg (ref01_Set.c (x0)))) (cs:=ref01_Set.c x0) H0 iv.le (by rw [ref01_Set.enc.len]; exact T.sz68) vAgg_cells (ref01_Set.enc.one _)
 have i9:=i8 _ _ iv
 obtain ⟨b11,H12,a13,f14,q15,r16,x17,i18⟩:=al_ok H2 68 (ref01_Set.c ref01_Set.zero) i9.le
 have i19:=i18 _ _ i9
 have f20:=x17 _ _ f4
 simp only [C.f34r0,R,Nat.reduceEqDiff,a3,zs68,a13]
 refine hJ _ ?_
 refine tk_seq_k fun K n22 x23=>?_
 refine tk_os okM hok fun J hJ=>?_
 simp only [C.f34r1,R,Nat.reduceEqDiff]
 refine hJ _ ?_
 refine tk_block_k fun K n24 e25 x26=>?_
 refine tk_loop_k (n:=n) (fun k1 ⟨σ,H,_⟩=>∃ x27 x28 x3_29,b_ref01_Not_1 n k1 x27 x28 x3_29 = some r ∧ Lk σ 1 (.pointer (some ⟨b1,0,none⟩)) ∧ Lk σ 2 (.pointer (some ⟨b11,0,none⟩)) ∧ Lk σ 3 (.int .i64 x3_29) ∧ H[b1]? = some (.cells (ref01_Set.c x27) 68) ∧ H[b11]? = some (.cells (ref01_Set.c x28) 68) ∧ Iv c.nb [] H0 H) ?_ ?_ ?_
 ·exact ⟨x0,ref01_Set.zero,0,hm,rfl,rfl,rfl,f20,f14,i19⟩
 ·rintro ⟨σ,H,d⟩ ⟨_,_,_,hm,_⟩
  cases hm
 ·intro k1 K n30 x31
  rintro ⟨σ39,H32,d40⟩ ⟨x27,x28,x3_29,hm,h33,h34,h35,f36,f37,i38⟩
  rw [b_ref01_Not_1.eq_2] at hm
  refine tk_seq_k fun K n41 x42=>?_
  refine tk_os okM hok fun J hJ=>?_
  simp only [C.f34r2,R,Nat.reduceEqDiff,h35]
  refine hJ _ ?_
  refine tk_cond (t:=decide (x3_29 < 256)) rfl (fun g43=>?_) (fun g43=>?_)
  ·replace hm:=cond_t hm g43
   refine tk_skip okM ?_
   refine n41 _ ?_
   refine tk_seq_k fun K n44 x45=>?_
   refine tk_block_k fun K n46 e47 x48=>?_
   refine tk_oe okM hok fun J hJ=>?_
   obtain ⟨j49,ej49,hm⟩:=bind_s hm
   have a50:=ld_one (M:=Mt) (t:=4) f36 T.ag4 ((Seg.refl.sub (ref01_Set.seg0 x27)).sub (sgA enc_bool.len (a:=x27.f_In) (ck_lt ej49).1))
   obtain ⟨H51,a52,f53,u54⟩:=st_ok (M:=Mt) (t:=4) (v:=(.bool (!(x27.f_In.nth j49)))) (c:=cBool (!(x27.f_In.nth j49))) (cs':=ref01_Set.c ({ x27 with f_In:=x27.f_In.put j49 (!(x27.f_In.nth j49)) })) f36 (by rw [enc_bool.len]; exact T.sz4) rfl (enc_bool.one _) (Nat.le_trans hcn r6) (Nat.le_trans (Nat.le_of_eq (congrArg _ (eqL enc_bool.len))) ((Seg.refl.sub (ref01_Set.seg0 x27)).sub (sgA enc_bool.len (a:=x27.f_In) (ck_lt ej49).1)).2) (by rw [wrs_in (Seg.refl.sub (ref01_Set.seg0 x27)) (by have:=(ck_lt ej49).1; simp only [enc_bool.len,(enc_arr (n:=256) enc_bool).len]; omega),wrA enc_bool.len (a:=x27.f_In) (v:=!(x27.f_In.nth j49)) (ck_lt ej49).1,Nat.zero_add,ref01_Set.wr0 x27 (x27.f_In.put j49 (!(x27.f_In.nth j49)))])
   have i55:=i38.up u54 r6
   have f56:=(u54.get _ (ne_len f4 q15).symm).trans f37
   simp only [C.f34r4,R,Nat.reduceEqDiff,h35,fa68_0,h33,ia66,ej49,a50,a52]
   refine hJ _ ?_
   refine n46 _ ?_
   refine n44 _ ?_
   refine tk_oe okM hok fun J hJ=>?_
   simp only [C.f34r3,R,Nat.reduceEqDiff,h35]
   refine hJ _ ?_
   refine n30 _ ?_
   exact ⟨{ x27 with f_In:=x27.f_In.put j49 (!(x27.f_In.nth j49)) },x28,IntKind.i64.wrap (x3_29 + 1),hm,h33,h34,rfl,f53,f56,i55⟩
  ·replace hm:=cond_f hm g43
   refine tk_exit okM ?_
   refine x42 _ _ (by simp) ?_
   refine x31 _ _ (by simp) ?_
   refine e25 _ ?_
   refine n22 _ ?_
   refine tk_os okM hok fun J hJ=>?_
   have a57:=ld_agg (M:=Mt) (t:=68) f36 T.ag68 (by rw [ref01_Set.enc.len]; exact T.sz68) Seg.refl
   obtain ⟨H58,a59,f60,u61⟩:=st_ok (M:=Mt) (t:=68) (v:=(vAgg (ref01_Set.c (x27)))) (c:=ref01_Set.c x27) (cs':=ref01_Set.c x27) f37 (by rw [ref01_Set.enc.len]; exact T.sz68) vAgg_cells (ref01_Set.enc.one _) (Nat.le_trans hcn r16) (le0 ref01_Set.enc.len) (wrs_all (eqL ref01_Set.enc.len))
   have i62:=i38.up u61 r16
   have f63:=(u61.get _ (ne_len f4 q15)).trans f36
   simp only [C.f34r5,R,Nat.reduceEqDiff,a57,h33,a59,h34]
   refine hJ _ ?_
   refine tk_ret okM ?_
   obtain rfl:=Option.some.inj hm
   exact end_flat (.inl rfl) (vs:=[(vAgg (ref01_Set.c (x27)))]) (resC' (v:=(vAgg (ref01_Set.c (x27)))) h34 (ldv_of (ld_agg (M:=Mt) (t:=68) f60 T.ag68 (by rw [ref01_Set.enc.len]; exact T.sz68) Seg.refl)) resN) (fm_cons (flat_agg ref01_Set.enc _) fm_nil)
def b_ref01_Words_2 (n:Nat) (q1:ref01_Set → (Arr Int 4) → (Arr Int 4) → Int → Option ((Arr Int 4))) (x66:ref01_Set) (x67:(Arr Int 4)) (x68:(Arr Int 4)) (x4_69:Int):Option ((Arr Int 4)):=q1 x66 x67 x68 (IntKind.i64.wrap (x4_69 - 1))
def b_ref01_Words_1 (n:Nat):Nat → ref01_Set → (Arr Int 4) → (Arr Int 4) → Int → Option ((Arr Int 4))
 | 0,_,_,_,_=>none
 | k + 1,x46,x47,x48,x4_49=>bif decide (0 ≤ x4_49) then ((quoO .i64 x4_49 64).bind fun v86=>(ck 4 v86).bind fun j87=>(ck 256 x4_49).bind fun j96=>bif x46.f_In.nth j96 then (b_ref01_Words_2 n (b_ref01_Words_1 n k) x46 x47 ((x48.put j87 (IntKind.u64.wrap ((x48.nth j87) * 2))).put j87 (IntKind.u64.wrap (((x48.put j87 (IntKind.u64.wrap ((x48.nth j87) * 2))).nth j87) + 1))) x4_49) else (b_ref01_Words_2 n (b_ref01_Words_1 n k) x46 x47 (x48.put j87 (IntKind.u64.wrap ((x48.nth j87) * 2))) x4_49)) else (some x48)
def b_ref01_Words (n:Nat) (x0:ref01_Set):Option ((Arr Int 4)):=b_ref01_Words_1 n n x0 ((Arr.rep 4 0)) ((Arr.rep 4 0)) 255
theorem w_ref01_Words {call:CallF} (hok:CallOk Mt call) {n:Nat} {H0:Hp} {x0:ref01_Set} {r:(Arr Int 4)} {ro:Nat} (hro:ro ≤ H0.length) (hm:b_ref01_Words n x0 = some r) :
  Pt Mt ro 35 [(vAgg (ref01_Set.c x0))] H0 (vAgg ((cArr (n:=4) (cInt .u64)) (r))) H0 []:=by
 refine pt_new0 okM F35d (by exact Nat.le_of_ble_eq_true rfl) ?_ hro
 intro c hnt hnb hcr
 have hcn:c.ro ≤ c.nb:=by omega
 have iv:Iv c.nb [] H0 H0:=by rw [hnb]; exact iv_refl
 rw [show args0 [(vAgg (ref01_Set.c x0))] = [(0,(vAgg (ref01_Set.c x0)))] from rfl]
 rw [b_ref01_Words] at hm
 simp only [C.f35,C.f35b0]
 refine tk_os okM hok fun J hJ=>?_
 obtain ⟨b1,H2,a3,f4,q5,r6,x7,i8⟩:=bx_ok (M:=Mt) (t:=68) (u:=(vAgg (ref01_Set.c (x0)))) (cs:=ref01_Set.c x0) H0 iv.le (by rw [ref01_Set.enc.len]; exact T.sz68) vAgg_cells (ref01_Set.enc.one _)
 have i9:=i8 _ _ iv
 obtain ⟨b11,H12,a13,f14,q15,r16,x17,i18⟩:=al_ok H2 34 ((cArr (n:=4) (cInt .u64)) (Arr.rep 4 0)) i9.le
 have i19:=i18 _ _ i9
 have f20:=x17 _ _ f4
 simp only [C.f35r0,R,Nat.reduceEqDiff,a3,zs34,a13]
 refine hJ _ ?_
 refine tk_os okM hok fun J hJ=>?_
 obtain ⟨b22,H23,a24,f25,q26,r27,x28,i29⟩:=al_ok H12 34 ((cArr (n:=4) (cInt .u64)) (Arr.rep 4 0)) i19.le
 have i30:=i29 _ _ i19
 have f31:=x28 _ _ f20
 have f32:=x28 _ _ f14
 obtain ⟨H34,a35,f36,u37⟩:=st_ok (M:=Mt) (t:=34) (v:=(vAgg ((cArr (n:=4) (cInt .u64)) ((Arr.rep 4 0))))) (c:=(cArr (n:=4) (cInt .u64)) ((Arr.rep 4 0))) (cs':=(cArr (n:=4) (cInt .u64)) ((Arr.rep 4 0))) f25 (by rw [(enc_arr (n:=4) enc_int).len]; exact T.sz34) vAgg_cells ((enc_arr (n:=4) enc_int).one _) (Nat.le_trans hcn r27) (le0 (enc_arr (n:=4) enc_int).len) (wrs_all (eqL (enc_arr (n:=4) enc_int).len))
 have i38:=i30.up u37 r27
 have f39:=(u37.get _ (ne_len f20 q26)).trans f31
 have f40:=(u37.get _ (ne_len f14 q26)).trans f32
 simp only [C.f35r1,R,Nat.reduceEqDiff,bd_zero (M:=Mt) zs34 Tryd.underlying34,zs34,a24,a35]
 refine hJ _ ?_
 refine tk_seq_k fun K n41 x42=>?_
 refine tk_os okM hok fun J hJ=>?_
 simp only [C.f35r2,R,Nat.reduceEqDiff]
 refine hJ _ ?_
 refine tk_block_k fun K n43 e44 x45=>?_
 refine tk_loop_k (n:=n) (fun k1 ⟨σ,H,_⟩=>∃ x46 x47 x48 x4_49,b_ref01_Words_1 n k1 x46 x47 x48 x4_49 = some r ∧ Lk σ 1 (.pointer (some ⟨b1,0,none⟩)) ∧ Lk σ 2 (.pointer (some ⟨b11,0,none⟩)) ∧ Lk σ 3 (.pointer (some ⟨b22,0,none⟩)) ∧ Lk σ 4 (.int .i64 x4_49) ∧ H[b1]? = some (.cells (ref01_Set.c x46) 68) ∧ H[b11]? = some (.cells ((cArr (n:=4) (cInt .u64)) x47) 34) ∧ H[b22]? = some (.cells ((cArr (n:=4) (cInt .u64)) x48) 34) ∧ Iv c.nb [] H0 H) ?_ ?_ ?_
 ·exact ⟨x0,(Arr.rep 4 0),(Arr.rep 4 0),255,hm,rfl,rfl,rfl,rfl,f39,f40,f36,i38⟩
 ·rintro ⟨σ,H,d⟩ ⟨_,_,_,_,hm,_⟩
  cases hm
 ·intro k1 K n50 x51
  rintro ⟨σ61,H52,d62⟩ ⟨x46,x47,x48,x4_49,hm,h53,h54,h55,h56,f57,f58,f59,i60⟩
  rw [b_ref01_Words_1.eq_2] at hm
  refine tk_seq_k fun K n63 x64=>?_
  refine tk_os okM hok fun J hJ=>?_
  simp only [C.f35r3,R,Nat.reduceEqDiff,h56]
  refine hJ _ ?_
  refine tk_cond (t:=decide (0 ≤ x4_49)) rfl (fun g65=>?_) (fun g65=>?_)
  ·replace hm:=cond_t hm g65
   refine tk_skip okM ?_
   refine n63 _ ?_
   refine tk_seq_j (fun ⟨σ,H,_⟩=>∃ x66 x67 x68 x4_69,b_ref01_Words_2 n (b_ref01_Words_1 n k1) x66 x67 x68 x4_69 = some r ∧ Lk σ 1 (.pointer (some ⟨b1,0,none⟩)) ∧ Lk σ 2 (.pointer (some ⟨b11,0,none⟩)) ∧ Lk σ 3 (.pointer (some ⟨b22,0,none⟩)) ∧ Lk σ 4 (.int .i64 x4_69) ∧ H[b1]? = some (.cells (ref01_Set.c x66) 68) ∧ H[b11]? = some (.cells ((cArr (n:=4) (cInt .u64)) x67) 34) ∧ H[b22]? = some (.cells ((cArr (n:=4) (cInt .u64)) x68) 34) ∧ Iv c.nb [] H0 H) ?_ ?_
   ·skip
    rintro ⟨σ79,H70,d80⟩ ⟨x66,x67,x68,x4_69,hm,h71,h72,h73,h74,f75,f76,f77,i78⟩
    rw [b_ref01_Words_2] at hm
    refine tk_oe okM hok fun J hJ=>?_
    simp only [C.f35r4,R,Nat.reduceEqDiff,h74]
    refine hJ _ ?_
    refine n50 _ ?_
    exact ⟨x66,x67,x68,IntKind.i64.wrap (x4_69 - 1),hm,h71,h72,h73,rfl,f75,f76,f77,i78⟩
   ·refine fun K n81 x82=>?_
    refine tk_block_k fun K n83 e84 x85=>?_
    refine tk_os okM hok fun J hJ=>?_
    obtain ⟨v86,ev86,hm⟩:=bind_s hm
    obtain ⟨j87,ej87,hm⟩:=bind_s hm
    have a88:=ld_one (M:=Mt) (t:=33) f59 T.ag33 (Seg.refl.sub (sgA enc_int.len (a:=x48) (ck_lt ej87).1))
    obtain ⟨H89,a90,f91,u92⟩:=st_ok (M:=Mt) (t:=33) (v:=(.int .u64 (IntKind.u64.wrap ((x48.nth j87) * 2)))) (c:=(cInt .u64) (IntKind.u64.wrap ((x48.nth j87) * 2))) (cs':=(cArr (n:=4) (cInt .u64)) (x48.put j87 (IntKind.u64.wrap ((x48.nth j87) * 2)))) f59 (by rw [enc_int.len]; exact T.sz33) rfl (enc_int.one _) (Nat.le_trans hcn r27) (Nat.le_trans (Nat.le_of_eq (congrArg _ (eqL enc_int.len))) (Seg.refl.sub (sgA enc_int.len (a:=x48) (ck_lt ej87).1)).2) (by rw [Nat.zero_add,wrA enc_int.len (a:=x48) (v:=IntKind.u64.wrap ((x48.nth j87) * 2)) (ck_lt ej87).1])
    have i93:=i60.up u92 r27
    have f94:=(u92.get _ (ne_len f20 q26)).trans f57
    have f95:=(u92.get _ (ne_len f14 q26)).trans f58
    simp only [C.f35r5,R,Nat.reduceEqDiff,h56,ev86,ia34,ej87,h55,a88,a90]
    refine hJ _ ?_
    refine tk_os okM hok fun J hJ=>?_
    obtain ⟨j96,ej96,hm⟩:=bind_s hm
    have a97:=ld_one (M:=Mt) (t:=4) f94 T.ag4 ((Seg.refl.sub (ref01_Set.seg0 x46)).sub (sgA enc_bool.len (a:=x46.f_In) (ck_lt ej96).1))
    simp only [C.f35r6,R,Nat.reduceEqDiff,h56,fa68_0,h53,ia66,ej96,a97]
    refine hJ _ ?_
    refine tk_cond (t:=x46.f_In.nth j96) rfl (fun g98=>?_) (fun g98=>?_)
    ·replace hm:=cond_t hm g98
     refine tk_oe okM hok fun J hJ=>?_
     have a99:=ld_one (M:=Mt) (t:=33) f91 T.ag33 (Seg.refl.sub (sgA enc_int.len (a:=x48.put j87 (IntKind.u64.wrap ((x48.nth j87) * 2))) (ck_lt ej87).1))
     obtain ⟨H100,a101,f102,u103⟩:=st_ok (M:=Mt) (t:=33) (v:=(.int .u64 (IntKind.u64.wrap (((x48.put j87 (IntKind.u64.wrap ((x48.nth j87) * 2))).nth j87) + 1)))) (c:=(cInt .u64) (IntKind.u64.wrap (((x48.put j87 (IntKind.u64.wrap ((x48.nth j87) * 2))).nth j87) + 1))) (cs':=(cArr (n:=4) (cInt .u64)) ((x48.put j87 (IntKind.u64.wrap ((x48.nth j87) * 2))).put j87 (IntKind.u64.wrap (((x48.put j87 (IntKind.u64.wrap ((x48.nth j87) * 2))).nth j87) + 1)))) f91 (by rw [enc_int.len]; exact T.sz33) rfl (enc_int.one _) (Nat.le_trans hcn r27) (Nat.le_trans (Nat.le_of_eq (congrArg _ (eqL enc_int.len))) (Seg.refl.sub (sgA enc_int.len (a:=x48.put j87 (IntKind.u64.wrap ((x48.nth j87) * 2))) (ck_lt ej87).1)).2) (by rw [Nat.zero_add,wrA enc_int.len (a:=x48.put j87 (IntKind.u64.wrap ((x48.nth j87) * 2))) (v:=IntKind.u64.wrap (((x48.put j87 (IntKind.u64.wrap ((x48.nth j87) * 2))).nth j87) + 1)) (ck_lt ej87).1])
     have i104:=i93.up u103 r27
     have f105:=(u103.get _ (ne_len f20 q26)).trans f94
     have f106:=(u103.get _ (ne_len f14 q26)).trans f95
     simp only [C.f35r7,R,Nat.reduceEqDiff,h56,ev86,ia34,ej87,h55,a99,a101]
     refine hJ _ ?_
     refine n83 _ ?_
     refine n81 _ ?_
     exact ⟨x46,x47,(x48.put j87 (IntKind.u64.wrap ((x48.nth j87) * 2))).put j87 (IntKind.u64.wrap (((x48.put j87 (IntKind.u64.wrap ((x48.nth j87) * 2))).nth j87) + 1)),x4_49,hm,h53,h54,h55,h56,f105,f106,f102,i104⟩
    ·replace hm:=cond_f hm g98
     refine tk_skip okM ?_
     refine n83 _ ?_
     refine n81 _ ?_
     exact ⟨x46,x47,x48.put j87 (IntKind.u64.wrap ((x48.nth j87) * 2)),x4_49,hm,h53,h54,h55,h56,f94,f95,f91,i93⟩
  ·replace hm:=cond_f hm g65
   refine tk_exit okM ?_
   refine x64 _ _ (by simp) ?_
   refine x51 _ _ (by simp) ?_
   refine e44 _ ?_
   refine n41 _ ?_
   refine tk_os okM hok fun J hJ=>?_
   have a107:=ld_agg (M:=Mt) (t:=34) f59 T.ag34 (by rw [(enc_arr (n:=4) enc_int).len]; exact T.sz34) Seg.refl
   obtain ⟨H108,a109,f110,u111⟩:=st_ok (M:=Mt) (t:=34) (v:=(vAgg ((cArr (n:=4) (cInt .u64)) (x48)))) (c:=(cArr (n:=4) (cInt .u64)) x48) (cs':=(cArr (n:=4) (cInt .u64)) x48) f58 (by rw [(enc_arr (n:=4) enc_int).len]; exact T.sz34) vAgg_cells ((enc_arr (n:=4) enc_int).one _) (Nat.le_trans hcn r16) (le0 (enc_arr (n:=4) enc_int).len) (wrs_all (eqL (enc_arr (n:=4) enc_int).len))
   have i112:=i60.up u111 r16
   have f113:=(u111.get _ (ne_len f4 q15)).trans f57
   have f114:=(u111.get _ (ne_len f14 q26).symm).trans f59
   simp only [C.f35r8,R,Nat.reduceEqDiff,a107,h55,a109,h54]
   refine hJ _ ?_
   refine tk_ret okM ?_
   obtain rfl:=Option.some.inj hm
   exact end_flat (.inl rfl) (vs:=[(vAgg ((cArr (n:=4) (cInt .u64)) (x48)))]) (resC' (v:=(vAgg ((cArr (n:=4) (cInt .u64)) (x48)))) h54 (ldv_of (ld_agg (M:=Mt) (t:=34) f110 T.ag34 (by rw [(enc_arr (n:=4) enc_int).len]; exact T.sz34) Seg.refl)) resN) (fm_cons (flat_agg (enc_arr (n:=4) enc_int) _) fm_nil)
def b_class_Set_add (n:Nat) (x0:class_Set) (x1:Int):Option (class_Set):=(quoO .u8 x1 64).bind fun v2=>(ck 4 v2).bind fun j3=>(remO x1 64).bind fun v5=>(shlO .u64 1 v5).bind fun v6=>some ({ x0 with f_W:=x0.f_W.put j3 (orI .u64 (x0.f_W.nth j3) v6) })
theorem w_class_Set_add {call:CallF} (hok:CallOk Mt call) {n:Nat} {H0:Hp} {x0:class_Set} {b0:Nat} {x1:Int} {r:class_Set} {ro:Nat} (hro:ro ≤ H0.length) (hO:H0[b0]? = some (.cells (class_Set.c x0) 36)) (hB:ro ≤ b0) (hm:b_class_Set_add n x0 x1 = some r) :
  Pt Mt ro 36 [(.pointer (some ⟨b0,0,none⟩)),(.int .u8 x1)] H0 (.tuple [].toArray) (H0.set b0 (.cells (class_Set.c r) 36)) []:=by
 refine pt_mut okM F36d (by exact Nat.le_of_ble_eq_true rfl) hro ?_ (by simp) ?_ ?_
 ·exact fun b hb=>up_set.get b (by omega)
 ·exact kept_set hO (class_Set.enc.flat _)
 intro c hnt hnb hcr
 have hcn:c.ro ≤ c.nb:=by omega
 replace hB:c.ro ≤ b0:=by omega
 have iv:Iv c.nb [b0] H0 H0:=by rw [hnb]; exact iv_refl
 rw [show args0 [(.pointer (some ⟨b0,0,none⟩)),(.int .u8 x1)] = [(0,(.pointer (some ⟨b0,0,none⟩))),(1,(.int .u8 x1))] from rfl]
 rw [b_class_Set_add] at hm
 simp only [C.f36]
 refine tk_oe okM hok fun J hJ=>?_
 obtain ⟨v2,ev2,hm⟩:=bind_s hm
 obtain ⟨j3,ej3,hm⟩:=bind_s hm
 have a4:=ld_one (M:=Mt) (t:=33) hO T.ag33 ((Seg.refl.sub (class_Set.seg0 x0)).sub (sgA enc_int.len (a:=x0.f_W) (ck_lt ej3).1))
 obtain ⟨v5,ev5,hm⟩:=bind_s hm
 obtain ⟨v6,ev6,hm⟩:=bind_s hm
 obtain ⟨H7,a8,f9,u10⟩:=st_ok (M:=Mt) (t:=33) (v:=(.int .u64 (orI .u64 (x0.f_W.nth j3) v6))) (c:=(cInt .u64) (orI .u64 (x0.f_W.nth j3) v6)) (cs':=class_Set.c ({ x0 with f_W:=x0.f_W.put j3 (orI .u64 (x0.f_W.nth j3) v6) })) hO (by rw [enc_int.len]; exact T.sz33) rfl (enc_int.one _) hB (Nat.le_trans (Nat.le_of_eq (congrArg _ (eqL enc_int.len))) ((Seg.refl.sub (class_Set.seg0 x0)).sub (sgA enc_int.len (a:=x0.f_W) (ck_lt ej3).1)).2) (by rw [wrs_in (Seg.refl.sub (class_Set.seg0 x0)) (by have:=(ck_lt ej3).1; simp only [enc_int.len,(enc_arr (n:=4) enc_int).len]; omega),wrA enc_int.len (a:=x0.f_W) (v:=orI .u64 (x0.f_W.nth j3) v6) (ck_lt ej3).1,Nat.zero_add,class_Set.wr0 x0 (x0.f_W.put j3 (orI .u64 (x0.f_W.nth j3) v6))])
 have i11:=iv.upX u10 (by simp)
 simp only [C.f36r0,R,Nat.reduceEqDiff,ev2,fa36_0,ia34,ej3,a4,ev5,ev6,a8]
 refine hJ _ ?_
 obtain rfl:=Option.some.inj hm
 exact end_mut (.inr rfl) (vs:=[]) resN fm_nil (by simp) (fun b hb=>by
  by_cases hx:b = b0
  ·subst hx; rw [get_set hO,f9]
  ·rw [(up_set).get _ hx,i11.old b (by omega) (by simpa using hx)])
def b_lex_simple (c_strings_IndexByte:T_strings_IndexByte) (n:Nat) (x0:Int):Option (Int × Bool):=(c_strings_IndexByte ((⟨#[46,94,36,124,41]⟩:ByteArray)) x0).bind fun v2=>bif decide (v2 < 0) then (some (0,false)) else ((ck 5 v2).bind fun j22=>some (((⟨[1,2,3,6,15],rfl⟩:(Arr Int 5))).nth j22,true))
theorem w_lex_simple {call:CallF} (hok:CallOk Mt call) {n:Nat} {c_strings_IndexByte:T_strings_IndexByte} (ha_strings_IndexByte:A_strings_IndexByte call c_strings_IndexByte) {H0:Hp} {x0:Int} {r:Int × Bool} {ro:Nat} (hro:ro ≤ H0.length) (hm:b_lex_simple c_strings_IndexByte n x0 = some r) :
  Pt Mt ro 37 [(.int .u8 x0)] H0 (.tuple [(.int .i64 (r.1)),(.bool (r.2))].toArray) H0 []:=by
 refine pt_new0 okM F37d (by exact Nat.le_of_ble_eq_true rfl) ?_ hro
 intro c hnt hnb hcr
 have hcn:c.ro ≤ c.nb:=by omega
 have iv:Iv c.nb [] H0 H0:=by rw [hnb]; exact iv_refl
 rw [show args0 [(.int .u8 x0)] = [(0,(.int .u8 x0))] from rfl]
 rw [b_lex_simple] at hm
 simp only [C.f37]
 refine tk_os okM hok fun J hJ=>?_
 simp only [C.f37r0,R,Nat.reduceEqDiff]
 refine hJ _ ?_
 refine tk_os okM hok fun J hJ=>?_
 obtain ⟨v2,ev2,hm⟩:=bind_s hm
 have a1:=ha_strings_IndexByte c.ro H0 ((⟨#[46,94,36,124,41]⟩:ByteArray)) x0 v2 ev2
 simp only [C.f37r1,R,Nat.reduceEqDiff,c_fn F49,a1]
 refine hJ _ ?_
 refine tk_os okM hok fun J hJ=>?_
 have a3 {H:Hp}:bdP Mt H 87 [(0,(.int .i64 (1))),(1,(.int .i64 (2))),(2,(.int .i64 (3))),(3,(.int .i64 (6))),(4,(.int .i64 (15)))] = some (.val (vAgg ((cArr (n:=5) (cInt .i64)) (⟨[1,2,3,6,15],rfl⟩:(Arr Int 5)))),H):=bd_arr (z:=1) Tryd.underlying87 T.zc87 rfl T.sz3 enc_int rfl rfl
 obtain ⟨b4,H5,a6,f7,q8,r9,x10,i11⟩:=al_ok H0 87 ((cArr (n:=5) (cInt .i64)) (Arr.rep 5 0)) iv.le
 have i12:=i11 _ _ iv
 obtain ⟨H14,a15,f16,u17⟩:=st_ok (M:=Mt) (t:=87) (v:=(vAgg ((cArr (n:=5) (cInt .i64)) ((⟨[1,2,3,6,15],rfl⟩:(Arr Int 5)))))) (c:=(cArr (n:=5) (cInt .i64)) ((⟨[1,2,3,6,15],rfl⟩:(Arr Int 5)))) (cs':=(cArr (n:=5) (cInt .i64)) ((⟨[1,2,3,6,15],rfl⟩:(Arr Int 5)))) f7 (by rw [(enc_arr (n:=5) enc_int).len]; exact T.sz87) vAgg_cells ((enc_arr (n:=5) enc_int).one _) (Nat.le_trans hcn r9) (le0 (enc_arr (n:=5) enc_int).len) (wrs_all (eqL (enc_arr (n:=5) enc_int).len))
 have i18:=i12.up u17 r9
 simp only [C.f37r2,R,Nat.reduceEqDiff,a3,zs87,a6,a15]
 refine hJ _ ?_
 refine tk_seq_k fun K n19 x20=>?_
 refine tk_os okM hok fun J hJ=>?_
 simp only [C.f37r3,R,Nat.reduceEqDiff]
 refine hJ _ ?_
 refine tk_cond (t:=decide (v2 < 0)) rfl (fun g21=>?_) (fun g21=>?_)
 ·replace hm:=cond_t hm g21
  refine tk_os okM hok fun J hJ=>?_
  simp only [C.f37r4,R,Nat.reduceEqDiff]
  refine hJ _ ?_
  refine tk_ret okM ?_
  refine x20 _ _ (by simp) ?_
  obtain rfl:=Option.some.inj hm
  exact end_flat (.inl rfl) (vs:=[(.int .i64 (0)),(.bool (false))]) (resT' (v:=(.int .i64 (0))) rfl (resT' (v:=(.bool (false))) rfl resN)) (fm_cons rfl (fm_cons rfl fm_nil))
 ·replace hm:=cond_f hm g21
  refine tk_skip okM ?_
  refine n19 _ ?_
  refine tk_os okM hok fun J hJ=>?_
  obtain ⟨j22,ej22,hm⟩:=bind_s hm
  have a23:=ld_one (M:=Mt) (t:=3) f16 T.ag3 (Seg.refl.sub (sgA enc_int.len (a:=(⟨[1,2,3,6,15],rfl⟩:(Arr Int 5))) (ck_lt ej22).1))
  simp only [C.f37r5,R,Nat.reduceEqDiff,ia87,ej22,a23]
  refine hJ _ ?_
  refine tk_ret okM ?_
  obtain rfl:=Option.some.inj hm
  exact end_flat (.inl rfl) (vs:=[(.int .i64 (((⟨[1,2,3,6,15],rfl⟩:(Arr Int 5))).nth j22)),(.bool (true))]) (resT' (v:=(.int .i64 (((⟨[1,2,3,6,15],rfl⟩:(Arr Int 5))).nth j22))) rfl (resT' (v:=(.bool (true))) rfl resN)) (fm_cons rfl (fm_cons rfl fm_nil))
end Go.Proofs.YtcjnmmeibppblaaDoor
