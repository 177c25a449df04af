import Derived.Test.YtcjnmmeibppblaaDoorTeBase
set_option maxRecDepth 100000
set_option linter.unusedVariables false
set_option linter.unusedSimpArgs false
namespace Go.Proofs.YtcjnmmeibppblaaDoor
open Go Go.AM
attribute [local congr] bind_first map_first
def b_lex_opening_2 (c_strings_HasPrefix:T_strings_HasPrefix) (c_lex_hasRune:T_lex_hasRune) (n:Nat):Nat → lex_Token → ByteArray → ByteArray → Nat → Option (lex_Token × Int × Int)
 | 0,_,_,_,_=>none
 | k + 1,x76,x7_77,x78,x79=>bif decide (x79 < x78.size) then (bif (decide ((((Utf8.decode x78 x79).1:Int)) = 58)) && (!decide (x7_77 = ((⟨#[]⟩:ByteArray)))) then (some (({ lex_Token.zero with f_Kind:=14,f_Flags:=x7_77 }:lex_Token),IntKind.i64.wrap (3 + ((x7_77.size:Int))),0)) else ((bif ((!decide ((((Utf8.decode x78 x79).1:Int)) = 105)) && (!decide ((((Utf8.decode x78 x79).1:Int)) = 109))) && (!decide ((((Utf8.decode x78 x79).1:Int)) = 115)) then some true else ((c_lex_hasRune x7_77 (((Utf8.decode x78 x79).1:Int))).bind fun v161=>some v161)).bind fun y162=>bif y162 then (some (lex_Token.zero,0,3)) else ((sadd x7_77 (Utf8.encode (((Utf8.decode x78 x79).1:Int)))).bind fun v184=>b_lex_opening_2 c_strings_HasPrefix c_lex_hasRune n k x76 v184 x78 (x79 + (Utf8.decode x78 x79).2)))) else (some (lex_Token.zero,0,3))
def b_lex_opening_1 (c_strings_HasPrefix:T_strings_HasPrefix) (c_lex_hasRune:T_lex_hasRune) (n:Nat):Nat → ByteArray → lex_Token → (Arr ByteArray 6) → Int → Option (lex_Token × Int × Int)
 | 0,_,_,_,_=>none
 | k + 1,x0_27,x28,x14_29,x15_30=>bif decide (x15_30 < 6) then ((ck 6 x15_30).bind fun j50=>(c_strings_HasPrefix x0_27 (x14_29.nth j50)).bind fun v52=>bif v52 then (some (({ lex_Token.zero with f_Kind:=IntKind.i64.wrap (8 + x15_30) }:lex_Token),((x14_29.nth j50).size:Int),0)) else (b_lex_opening_1 c_strings_HasPrefix c_lex_hasRune n k x0_27 x28 x14_29 (IntKind.i64.wrap (x15_30 + 1)))) else ((sub x0_27 2 x0_27.size).bind fun v61=>b_lex_opening_2 c_strings_HasPrefix c_lex_hasRune n n x28 ((⟨#[]⟩:ByteArray)) v61 0)
def b_lex_opening (c_strings_HasPrefix:T_strings_HasPrefix) (c_lex_hasRune:T_lex_hasRune) (n:Nat) (x0:ByteArray):Option (lex_Token × Int × Int):=(c_strings_HasPrefix x0 ((⟨#[40,63]⟩:ByteArray))).bind fun v14=>bif !v14 then (some (({ lex_Token.zero with f_Kind:=7 }:lex_Token),1,0)) else (b_lex_opening_1 c_strings_HasPrefix c_lex_hasRune n n x0 lex_Token.zero ((⟨[(⟨#[40,63,58]⟩:ByteArray),(⟨#[40,63,61]⟩:ByteArray),(⟨#[40,63,33]⟩:ByteArray),(⟨#[40,63,60,61]⟩:ByteArray),(⟨#[40,63,60,33]⟩:ByteArray),(⟨#[40,63,62]⟩:ByteArray)],rfl⟩:(Arr ByteArray 6))) 0)
theorem w_lex_opening {call:CallF} (hok:CallOk Mt call) {n:Nat} {c_strings_HasPrefix:T_strings_HasPrefix} (ha_strings_HasPrefix:A_strings_HasPrefix call c_strings_HasPrefix) {c_lex_hasRune:T_lex_hasRune} (ha_lex_hasRune:A_lex_hasRune call c_lex_hasRune) {H0:Hp} {x0:ByteArray} {r:lex_Token × Int × Int} {ro:Nat} (hro:ro ≤ H0.length) (hm:b_lex_opening c_strings_HasPrefix c_lex_hasRune n x0 = some r) :
  Pt Mt ro 38 [(.string x0)] H0 (.tuple [(vAgg (lex_Token.c (r.1))),(.int .i64 (r.2.1)),(.int .i64 (r.2.2))].toArray) H0 []:=by
 refine pt_new0 okM F38d (by exact Nat.le_of_ble_eq_true rfl) ?_ hro
 intro c hnt hnb hcr
 have hcn:c.ro ≤ c.nb:=by omega
 have iv:Iv c.nb [] H0 H0:=by rw [hnb]; exact iv_refl
 rw [show args0 [(.string x0)] = [(0,(.string x0))] from rfl]
 rw [b_lex_opening] at hm
 simp only [C.f38,C.f38b0,C.f38b1]
 refine tk_os okM hok fun J hJ=>?_
 obtain ⟨b1,H2,a3,f4,q5,r6,x7,i8⟩:=al_ok H0 46 (lex_Token.c lex_Token.zero) iv.le
 have i9:=i8 _ _ iv
 simp only [C.f38r0,R,Nat.reduceEqDiff,zs46,a3]
 refine hJ _ ?_
 refine tk_seq_k fun K n11 x12=>?_
 refine tk_os okM hok fun J hJ=>?_
 obtain ⟨v14,ev14,hm⟩:=bind_s hm
 have a13:=ha_strings_HasPrefix c.ro H2 x0 ((⟨#[40,63]⟩:ByteArray)) v14 ev14
 simp only [C.f38r1,R,Nat.reduceEqDiff,c_fn F26,a13]
 refine hJ _ ?_
 refine tk_cond (t:=!v14) rfl (fun g15=>?_) (fun g15=>?_)
 ·replace hm:=cond_t hm g15
  refine tk_os okM hok fun J hJ=>?_
  obtain ⟨H16,a17,f18,u19⟩:=st_ok (M:=Mt) (t:=46) (v:=(vAgg (lex_Token.c (({ lex_Token.zero with f_Kind:=7 }:lex_Token))))) (c:=lex_Token.c (({ lex_Token.zero with f_Kind:=7 }:lex_Token))) (cs':=lex_Token.c (({ lex_Token.zero with f_Kind:=7 }:lex_Token))) f4 (by rw [lex_Token.enc.len]; exact T.sz46) vAgg_cells (lex_Token.enc.one _) (Nat.le_trans hcn r6) (le0 lex_Token.enc.len) (wrs_all (eqL lex_Token.enc.len))
  have i20:=i9.up u19 r6
  simp only [C.f38r2,R,Nat.reduceEqDiff,bd46_0,a17]
  refine hJ _ ?_
  refine tk_ret okM ?_
  refine x12 _ _ (by simp) ?_
  obtain rfl:=Option.some.inj hm
  exact end_flat (.inl rfl) (vs:=[(vAgg (lex_Token.c (({ lex_Token.zero with f_Kind:=7 }:lex_Token)))),(.int .i64 (1)),(.int .i64 (0))]) (resC' (v:=(vAgg (lex_Token.c (({ lex_Token.zero with f_Kind:=7 }:lex_Token))))) rfl (ldv_of (ld_agg (M:=Mt) (t:=46) f18 T.ag46 (by rw [lex_Token.enc.len]; exact T.sz46) Seg.refl)) (resT' (v:=(.int .i64 (1))) rfl (resT' (v:=(.int .i64 (0))) rfl resN))) (fm_cons (flat_agg lex_Token.enc _) (fm_cons rfl (fm_cons rfl fm_nil)))
 ·replace hm:=cond_f hm g15
  refine tk_skip okM ?_
  refine n11 _ ?_
  refine tk_seq_k fun K n21 x22=>?_
  refine tk_os okM hok fun J hJ=>?_
  have a23 {H:Hp}:bdP Mt H 88 [(0,(.string ((⟨#[40,63,58]⟩:ByteArray)))),(1,(.string ((⟨#[40,63,61]⟩:ByteArray)))),(2,(.string ((⟨#[40,63,33]⟩:ByteArray)))),(3,(.string ((⟨#[40,63,60,61]⟩:ByteArray)))),(4,(.string ((⟨#[40,63,60,33]⟩:ByteArray)))),(5,(.string ((⟨#[40,63,62]⟩:ByteArray))))] = some (.val (vAgg ((cArr (n:=6) cStr) (⟨[(⟨#[40,63,58]⟩:ByteArray),(⟨#[40,63,61]⟩:ByteArray),(⟨#[40,63,33]⟩:ByteArray),(⟨#[40,63,60,61]⟩:ByteArray),(⟨#[40,63,60,33]⟩:ByteArray),(⟨#[40,63,62]⟩:ByteArray)],rfl⟩:(Arr ByteArray 6)))),H):=bd_arr (z:=1) Tryd.underlying88 T.zc88 rfl T.sz9 enc_str rfl rfl
  simp only [C.f38r3,R,Nat.reduceEqDiff,a23]
  refine hJ _ ?_
  refine tk_block_k fun K n24 e25 x26=>?_
  refine tk_loop_k (n:=n) (fun k1 ⟨σ,H,_⟩=>∃ x0_27 x28 x14_29 x15_30,b_lex_opening_1 c_strings_HasPrefix c_lex_hasRune n k1 x0_27 x28 x14_29 x15_30 = some r ∧ Lk σ 0 (.string x0_27) ∧ Lk σ 2 (.pointer (some ⟨b1,0,none⟩)) ∧ Lk σ 14 (vAgg ((cArr (n:=6) cStr) x14_29)) ∧ Lk σ 15 (.int .i64 x15_30) ∧ H[b1]? = some (.cells (lex_Token.c x28) 46) ∧ Iv c.nb [] H0 H) ?_ ?_ ?_
  ·exact ⟨x0,lex_Token.zero,(⟨[(⟨#[40,63,58]⟩:ByteArray),(⟨#[40,63,61]⟩:ByteArray),(⟨#[40,63,33]⟩:ByteArray),(⟨#[40,63,60,61]⟩:ByteArray),(⟨#[40,63,60,33]⟩:ByteArray),(⟨#[40,63,62]⟩:ByteArray)],rfl⟩:(Arr ByteArray 6)),0,hm,rfl,rfl,rfl,rfl,f4,i9⟩
  ·rintro ⟨σ,H,d⟩ ⟨_,_,_,_,hm,_⟩
   cases hm
  ·intro k1 K n31 x32
   rintro ⟨σ40,H33,d41⟩ ⟨x0_27,x28,x14_29,x15_30,hm,h34,h35,h36,h37,f38,i39⟩
   rw [b_lex_opening_1.eq_2] at hm
   refine tk_os okM hok fun J hJ=>?_
   simp only [C.f38r4,R,Nat.reduceEqDiff,h37]
   refine hJ _ ?_
   refine tk_seq_k fun K n42 x43=>?_
   refine tk_cond (t:=decide (x15_30 < 6)) rfl (fun g44=>?_) (fun g44=>?_)
   ·replace hm:=cond_t hm g44
    refine tk_skip okM ?_
    refine n42 _ ?_
    refine tk_seq_k fun K n45 x46=>?_
    refine tk_block_k fun K n47 e48 x49=>?_
    refine tk_os okM hok fun J hJ=>?_
    obtain ⟨j50,ej50,hm⟩:=bind_s hm
    simp only [C.f38r5,R,Nat.reduceEqDiff,h37,ix88,ej50,h36]
    refine hJ _ ?_
    refine tk_os okM hok fun J hJ=>?_
    obtain ⟨v52,ev52,hm⟩:=bind_s hm
    have a51:=ha_strings_HasPrefix c.ro H33 x0_27 (x14_29.nth j50) v52 ev52
    simp only [C.f38r6,R,Nat.reduceEqDiff,h34,c_fn F26,a51]
    refine hJ _ ?_
    refine tk_cond (t:=v52) rfl (fun g53=>?_) (fun g53=>?_)
    ·replace hm:=cond_t hm g53
     refine tk_os okM hok fun J hJ=>?_
     obtain ⟨H54,a55,f56,u57⟩:=st_ok (M:=Mt) (t:=46) (v:=(vAgg (lex_Token.c (({ lex_Token.zero with f_Kind:=IntKind.i64.wrap (8 + x15_30) }:lex_Token))))) (c:=lex_Token.c (({ lex_Token.zero with f_Kind:=IntKind.i64.wrap (8 + x15_30) }:lex_Token))) (cs':=lex_Token.c (({ lex_Token.zero with f_Kind:=IntKind.i64.wrap (8 + x15_30) }:lex_Token))) f38 (by rw [lex_Token.enc.len]; exact T.sz46) vAgg_cells (lex_Token.enc.one _) (Nat.le_trans hcn r6) (le0 lex_Token.enc.len) (wrs_all (eqL lex_Token.enc.len))
     have i58:=i39.up u57 r6
     simp only [C.f38r7,R,Nat.reduceEqDiff,bd46_0,len_str (M:=Mt) Tryd.underlying9,a55,h35]
     refine hJ _ ?_
     refine tk_ret okM ?_
     refine x49 _ _ (by simp) (by simp) ?_
     refine x46 _ _ (by simp) ?_
     refine x32 _ _ (by simp) ?_
     refine x26 _ _ (by simp) (by simp) ?_
     refine x22 _ _ (by simp) ?_
     obtain rfl:=Option.some.inj hm
     exact end_flat (.inl rfl) (vs:=[(vAgg (lex_Token.c (({ lex_Token.zero with f_Kind:=IntKind.i64.wrap (8 + x15_30) }:lex_Token)))),(.int .i64 (((x14_29.nth j50).size:Int))),(.int .i64 (0))]) (resC' (v:=(vAgg (lex_Token.c (({ lex_Token.zero with f_Kind:=IntKind.i64.wrap (8 + x15_30) }:lex_Token))))) h35 (ldv_of (ld_agg (M:=Mt) (t:=46) f56 T.ag46 (by rw [lex_Token.enc.len]; exact T.sz46) Seg.refl)) (resT' (v:=(.int .i64 (((x14_29.nth j50).size:Int)))) rfl (resT' (v:=(.int .i64 (0))) rfl resN))) (fm_cons (flat_agg lex_Token.enc _) (fm_cons rfl (fm_cons rfl fm_nil)))
    ·replace hm:=cond_f hm g53
     refine tk_skip okM ?_
     refine n47 _ ?_
     refine n45 _ ?_
     refine tk_oe okM hok fun J hJ=>?_
     simp only [C.f38r8,R,Nat.reduceEqDiff,h37]
     refine hJ _ ?_
     refine n31 _ ?_
     exact ⟨x0_27,x28,x14_29,IntKind.i64.wrap (x15_30 + 1),hm,h34,h35,h36,rfl,f38,i39⟩
   ·replace hm:=cond_f hm g44
    refine tk_exit okM ?_
    refine x43 _ _ (by simp) ?_
    refine x32 _ _ (by simp) ?_
    refine e25 _ ?_
    refine n21 _ ?_
    refine tk_os okM hok fun J hJ=>?_
    simp only [C.f38r9,R,Nat.reduceEqDiff]
    refine hJ _ ?_
    refine tk_seq_k fun K n59 x60=>?_
    refine tk_os okM hok fun J hJ=>?_
    obtain ⟨v61,ev61,hm⟩:=bind_s hm
    obtain ⟨b62,H63,a64,f65,q66,r67,x68,i69⟩:=rg_ok (M:=Mt) (t:=9) H33 v61 i39.le Tryd.underlying9
    have i70:=i69 _ _ i39
    have f71:=x68 _ _ f38
    simp only [C.f38r10,R,Nat.reduceEqDiff,h34,sl_str (M:=Mt) Tryd.underlying9,ev61,a64]
    refine hJ _ ?_
    refine tk_block_k fun K n73 e74 x75=>?_
    refine tk_loop_k (n:=n) (fun k2 ⟨σ,H,_⟩=>∃ x76 x7_77 x78 x79,b_lex_opening_2 c_strings_HasPrefix c_lex_hasRune n k2 x76 x7_77 x78 x79 = some r ∧ Lk σ 2 (.pointer (some ⟨b1,0,none⟩)) ∧ Lk σ 7 (.string x7_77) ∧ Lk σ 30 (.pointer (some ⟨b62,0,none⟩)) ∧ H[b1]? = some (.cells (lex_Token.c x76) 46) ∧ H[b62]? = some (.iter x78 x79) ∧ Iv c.nb [] H0 H) ?_ ?_ ?_
    ·exact ⟨x28,(⟨#[]⟩:ByteArray),v61,0,hm,h35,rfl,rfl,f71,f65,i70⟩
    ·rintro ⟨σ,H,d⟩ ⟨_,_,_,_,hm,_⟩
     cases hm
    ·intro k2 K n80 x81
     rintro ⟨σ89,H82,d90⟩ ⟨x76,x7_77,x78,x79,hm,h83,h84,h85,f86,f87,i88⟩
     rw [b_lex_opening_2.eq_2] at hm
     cases g91:decide (x79 < x78.size)
     ·replace hm:=cond_f hm g91
      refine tk_os okM hok fun J hJ=>?_
      have a92:=nx_f (M:=Mt) f87 (Nat.le_trans hcn r67) g91
      simp only [C.f38r11,R,Nat.reduceEqDiff,a92,h85]
      refine hJ _ ?_
      refine tk_seq_k fun K n93 x94=>?_
      refine tk_cond_f rfl ?_
      refine tk_exit okM ?_
      refine x94 _ _ (by simp) ?_
      refine x81 _ _ (by simp) ?_
      refine e74 _ ?_
      refine n59 _ ?_
      refine tk_os okM hok fun J hJ=>?_
      obtain ⟨H95,a96,f97,u98⟩:=st_ok (M:=Mt) (t:=46) (v:=(vAgg (lex_Token.c (lex_Token.zero)))) (c:=lex_Token.c lex_Token.zero) (cs':=lex_Token.c lex_Token.zero) f86 (by rw [lex_Token.enc.len]; exact T.sz46) vAgg_cells (lex_Token.enc.one _) (Nat.le_trans hcn r6) (le0 lex_Token.enc.len) (wrs_all (eqL lex_Token.enc.len))
      have i99:=i88.up u98 r6
      have f100:=(u98.get _ (ne_len f38 q66).symm).trans f87
      simp only [C.f38r18,R,Nat.reduceEqDiff,bd46_,a96,h83]
      refine hJ _ ?_
      refine tk_ret okM ?_
      obtain rfl:=Option.some.inj hm
      exact end_flat (.inl rfl) (vs:=[(vAgg (lex_Token.c (lex_Token.zero))),(.int .i64 (0)),(.int .i64 (3))]) (resC' (v:=(vAgg (lex_Token.c (lex_Token.zero)))) h83 (ldv_of (ld_agg (M:=Mt) (t:=46) f97 T.ag46 (by rw [lex_Token.enc.len]; exact T.sz46) Seg.refl)) (resT' (v:=(.int .i64 (0))) rfl (resT' (v:=(.int .i64 (3))) rfl resN))) (fm_cons (flat_agg lex_Token.enc _) (fm_cons rfl (fm_cons rfl fm_nil)))
     ·replace hm:=cond_t hm g91
      refine tk_os okM hok fun J hJ=>?_
      obtain ⟨H101,a102,f103,u104⟩:=nx_t (M:=Mt) f87 (Nat.le_trans hcn r67) g91
      have i105:=i88.up u104 r67
      have f106:=(u104.get _ (ne_len f38 q66)).trans f86
      simp only [C.f38r11,R,Nat.reduceEqDiff,a102,h85]
      refine hJ _ ?_
      refine tk_seq_k fun K n107 x108=>?_
      refine tk_cond_t rfl ?_
      refine tk_skip okM ?_
      refine n107 _ ?_
      refine tk_block_k fun K n109 e110 x111=>?_
      refine tk_os okM hok fun J hJ=>?_
      simp only [C.f38r12,R,Nat.reduceEqDiff]
      refine hJ _ ?_
      refine tk_seq_k fun K n112 x113=>?_
      refine tk_block_k fun K n114 e115 x116=>?_
      refine tk_os okM hok fun J hJ=>?_
      rw [C.f38r13]
      refine rn_app_k (fun ⟨σ,H,_⟩=>Lk σ 2 (.pointer (some ⟨b1,0,none⟩)) ∧ Lk σ 7 (.string (x7_77)) ∧ Lk σ 9 (.int .i32 (((Utf8.decode x78 x79).1:Int))) ∧ Lk σ 30 (.pointer (some ⟨b62,0,none⟩)) ∧ Lk σ 40 (.bool ((decide ((((Utf8.decode x78 x79).1:Int)) = 58)) && (!decide (x7_77 = ((⟨#[]⟩:ByteArray)))))) ∧ H[b1]? = some (.cells (lex_Token.c x76) 46) ∧ H[b62]? = some (.iter x78 (x79 + (Utf8.decode x78 x79).2)) ∧ Iv c.nb [] H0 H) (fun J hJ=>?_) ?_
      ·skip
       cases g126:decide ((((Utf8.decode x78 x79).1:Int)) = 58)
       ·skip
        simp only [C.f38r13p0,R,Nat.reduceEqDiff,g126]
        refine hJ _ ?_
        exact ⟨h83,h84,(by first | rfl | (simp only [g126]; rfl) | simp only [g126,Lk,RB,Nat.reduceEqDiff,not_false_eq_true]),h85,(by first | rfl | (simp only [g126]; rfl) | simp only [g126,Lk,RB,Nat.reduceEqDiff,not_false_eq_true]),f106,f103,i105⟩
       ·skip
        simp only [C.f38r13p0,R,Nat.reduceEqDiff,g126,h84]
        refine hJ _ ?_
        exact ⟨h83,h84,(by first | rfl | (simp only [g126]; rfl) | simp only [g126,Lk,RB,Nat.reduceEqDiff,not_false_eq_true]),h85,(by first | rfl | (simp only [g126]; rfl) | simp only [g126,Lk,RB,Nat.reduceEqDiff,not_false_eq_true]),f106,f103,i105⟩
      rintro ⟨σ127,H117,d128⟩ ⟨h118,h119,h120,h121,h122,f123,f124,i125⟩
      simp only [C.f38r13p1,R,Nat.reduceEqDiff,h122]
      refine hJ _ ?_
      refine tk_cond (t:=(decide ((((Utf8.decode x78 x79).1:Int)) = 58)) && (!decide (x7_77 = ((⟨#[]⟩:ByteArray))))) rfl (fun g129=>?_) (fun g129=>?_)
      ·replace hm:=cond_t hm g129
       refine tk_os okM hok fun J hJ=>?_
       obtain ⟨H130,a131,f132,u133⟩:=st_ok (M:=Mt) (t:=46) (v:=(vAgg (lex_Token.c (({ lex_Token.zero with f_Kind:=14,f_Flags:=x7_77 }:lex_Token))))) (c:=lex_Token.c (({ lex_Token.zero with f_Kind:=14,f_Flags:=x7_77 }:lex_Token))) (cs':=lex_Token.c (({ lex_Token.zero with f_Kind:=14,f_Flags:=x7_77 }:lex_Token))) f123 (by rw [lex_Token.enc.len]; exact T.sz46) vAgg_cells (lex_Token.enc.one _) (Nat.le_trans hcn r6) (le0 lex_Token.enc.len) (wrs_all (eqL lex_Token.enc.len))
       have i134:=i125.up u133 r6
       have f135:=(u133.get _ (ne_len f38 q66).symm).trans f124
       simp only [C.f38r14,R,Nat.reduceEqDiff,h119,bd46_0_6,len_str (M:=Mt) Tryd.underlying9,a131,h118]
       refine hJ _ ?_
       refine tk_ret okM ?_
       refine x116 _ _ (by simp) (by simp) ?_
       refine x113 _ _ (by simp) ?_
       refine x111 _ _ (by simp) (by simp) ?_
       refine x81 _ _ (by simp) ?_
       refine x75 _ _ (by simp) (by simp) ?_
       refine x60 _ _ (by simp) ?_
       obtain rfl:=Option.some.inj hm
       exact end_flat (.inl rfl) (vs:=[(vAgg (lex_Token.c (({ lex_Token.zero with f_Kind:=14,f_Flags:=x7_77 }:lex_Token)))),(.int .i64 (IntKind.i64.wrap (3 + ((x7_77.size:Int))))),(.int .i64 (0))]) (resC' (v:=(vAgg (lex_Token.c (({ lex_Token.zero with f_Kind:=14,f_Flags:=x7_77 }:lex_Token))))) h118 (ldv_of (ld_agg (M:=Mt) (t:=46) f132 T.ag46 (by rw [lex_Token.enc.len]; exact T.sz46) Seg.refl)) (resT' (v:=(.int .i64 (IntKind.i64.wrap (3 + ((x7_77.size:Int)))))) rfl (resT' (v:=(.int .i64 (0))) rfl resN))) (fm_cons (flat_agg lex_Token.enc _) (fm_cons rfl (fm_cons rfl fm_nil)))
      ·replace hm:=cond_f hm g129
       refine tk_os okM hok fun J hJ=>?_
       rw [C.f38r15]
       refine rn_app_k (fun ⟨σ,H,_⟩=>Lk σ 2 (.pointer (some ⟨b1,0,none⟩)) ∧ Lk σ 7 (.string (x7_77)) ∧ Lk σ 9 (.int .i32 (((Utf8.decode x78 x79).1:Int))) ∧ Lk σ 30 (.pointer (some ⟨b62,0,none⟩)) ∧ Lk σ 52 (.bool ((!decide ((((Utf8.decode x78 x79).1:Int)) = 105)) && (!decide ((((Utf8.decode x78 x79).1:Int)) = 109)))) ∧ H[b1]? = some (.cells (lex_Token.c x76) 46) ∧ H[b62]? = some (.iter x78 (x79 + (Utf8.decode x78 x79).2)) ∧ Iv c.nb [] H0 H) (fun J hJ=>?_) ?_
       ·skip
        cases g145:!decide ((((Utf8.decode x78 x79).1:Int)) = 105)
        ·skip
         simp only [C.f38r15p0,R,Nat.reduceEqDiff,h120,g145]
         refine hJ _ ?_
         exact ⟨h118,h119,h120,h121,(by first | rfl | (simp only [g145]; rfl) | simp only [g145,Lk,RB,Nat.reduceEqDiff,not_false_eq_true]),f123,f124,i125⟩
        ·skip
         simp only [C.f38r15p0,R,Nat.reduceEqDiff,h120,g145]
         refine hJ _ ?_
         exact ⟨h118,h119,h120,h121,(by first | rfl | (simp only [g145]; rfl) | simp only [g145,Lk,RB,Nat.reduceEqDiff,not_false_eq_true]),f123,f124,i125⟩
       rintro ⟨σ146,H136,d147⟩ ⟨h137,h138,h139,h140,h141,f142,f143,i144⟩
       refine rn_app_k (fun ⟨σ,H,_⟩=>Lk σ 2 (.pointer (some ⟨b1,0,none⟩)) ∧ Lk σ 7 (.string (x7_77)) ∧ Lk σ 9 (.int .i32 (((Utf8.decode x78 x79).1:Int))) ∧ Lk σ 30 (.pointer (some ⟨b62,0,none⟩)) ∧ Lk σ 56 (.bool (((!decide ((((Utf8.decode x78 x79).1:Int)) = 105)) && (!decide ((((Utf8.decode x78 x79).1:Int)) = 109))) && (!decide ((((Utf8.decode x78 x79).1:Int)) = 115)))) ∧ H[b1]? = some (.cells (lex_Token.c x76) 46) ∧ H[b62]? = some (.iter x78 (x79 + (Utf8.decode x78 x79).2)) ∧ Iv c.nb [] H0 H) (fun J hJ=>?_) ?_
       ·skip
        cases g157:(!decide ((((Utf8.decode x78 x79).1:Int)) = 105)) && (!decide ((((Utf8.decode x78 x79).1:Int)) = 109))
        ·skip
         simp only [C.f38r15p1,R,Nat.reduceEqDiff,h141,g157]
         refine hJ _ ?_
         exact ⟨h137,h138,h139,h140,(by first | rfl | (simp only [g157]; rfl) | simp only [g157,Lk,RB,Nat.reduceEqDiff,not_false_eq_true]),f142,f143,i144⟩
        ·skip
         simp only [C.f38r15p1,R,Nat.reduceEqDiff,h141,g157,h139]
         refine hJ _ ?_
         exact ⟨h137,h138,h139,h140,(by first | rfl | (simp only [g157]; rfl) | simp only [g157,Lk,RB,Nat.reduceEqDiff,not_false_eq_true]),f142,f143,i144⟩
       rintro ⟨σ158,H148,d159⟩ ⟨h149,h150,h151,h152,h153,f154,f155,i156⟩
       obtain ⟨y162,ey162,hm⟩:=bind_s hm
       refine rn_app_k (fun ⟨σ,H,_⟩=>Lk σ 2 (.pointer (some ⟨b1,0,none⟩)) ∧ Lk σ 7 (.string (x7_77)) ∧ Lk σ 9 (.int .i32 (((Utf8.decode x78 x79).1:Int))) ∧ Lk σ 30 (.pointer (some ⟨b62,0,none⟩)) ∧ Lk σ 61 (.bool (y162)) ∧ H[b1]? = some (.cells (lex_Token.c x76) 46) ∧ H[b62]? = some (.iter x78 (x79 + (Utf8.decode x78 x79).2)) ∧ Iv c.nb [] H0 H) (fun J hJ=>?_) ?_
       ·skip
        cases g172:((!decide ((((Utf8.decode x78 x79).1:Int)) = 105)) && (!decide ((((Utf8.decode x78 x79).1:Int)) = 109))) && (!decide ((((Utf8.decode x78 x79).1:Int)) = 115))
        ·skip
         have ey162:=cond_f ey162 g172
         obtain ⟨v174,ev174,ey162⟩:=bind_s ey162
         have a173:=ha_lex_hasRune c.ro H148 x7_77 (((Utf8.decode x78 x79).1:Int)) v174 ev174
         obtain rfl:=Option.some.inj ey162
         simp only [C.f38r15p2,R,Nat.reduceEqDiff,h153,g172,h150,h151,c_fn F50,a173]
         refine hJ _ ?_
         exact ⟨h149,h150,h151,h152,(by first | rfl | (simp only [g172]; rfl) | simp only [g172,Lk,RB,Nat.reduceEqDiff,not_false_eq_true]),f154,f155,i156⟩
        ·skip
         have ey162:=cond_t ey162 g172
         obtain rfl:=Option.some.inj ey162
         simp only [C.f38r15p2,R,Nat.reduceEqDiff,h153,g172]
         refine hJ _ ?_
         exact ⟨h149,h150,h151,h152,(by first | rfl | (simp only [g172]; rfl) | simp only [g172,Lk,RB,Nat.reduceEqDiff,not_false_eq_true]),f154,f155,i156⟩
       rintro ⟨σ175,H163,d176⟩ ⟨h164,h165,h166,h167,h168,f169,f170,i171⟩
       simp only [C.f38r15p3,R,Nat.reduceEqDiff,h168]
       refine hJ _ ?_
       refine tk_cond (t:=y162) rfl (fun g177=>?_) (fun g177=>?_)
       ·replace hm:=cond_t hm g177
        refine tk_os okM hok fun J hJ=>?_
        obtain ⟨H178,a179,f180,u181⟩:=st_ok (M:=Mt) (t:=46) (v:=(vAgg (lex_Token.c (lex_Token.zero)))) (c:=lex_Token.c lex_Token.zero) (cs':=lex_Token.c lex_Token.zero) f169 (by rw [lex_Token.enc.len]; exact T.sz46) vAgg_cells (lex_Token.enc.one _) (Nat.le_trans hcn r6) (le0 lex_Token.enc.len) (wrs_all (eqL lex_Token.enc.len))
        have i182:=i171.up u181 r6
        have f183:=(u181.get _ (ne_len f38 q66).symm).trans f170
        simp only [C.f38r16,R,Nat.reduceEqDiff,bd46_,a179,h164]
        refine hJ _ ?_
        refine tk_ret okM ?_
        refine x116 _ _ (by simp) (by simp) ?_
        refine x113 _ _ (by simp) ?_
        refine x111 _ _ (by simp) (by simp) ?_
        refine x81 _ _ (by simp) ?_
        refine x75 _ _ (by simp) (by simp) ?_
        refine x60 _ _ (by simp) ?_
        obtain rfl:=Option.some.inj hm
        exact end_flat (.inl rfl) (vs:=[(vAgg (lex_Token.c (lex_Token.zero))),(.int .i64 (0)),(.int .i64 (3))]) (resC' (v:=(vAgg (lex_Token.c (lex_Token.zero)))) h164 (ldv_of (ld_agg (M:=Mt) (t:=46) f180 T.ag46 (by rw [lex_Token.enc.len]; exact T.sz46) Seg.refl)) (resT' (v:=(.int .i64 (0))) rfl (resT' (v:=(.int .i64 (3))) rfl resN))) (fm_cons (flat_agg lex_Token.enc _) (fm_cons rfl (fm_cons rfl fm_nil)))
       ·replace hm:=cond_f hm g177
        refine tk_skip okM ?_
        refine n114 _ ?_
        refine n112 _ ?_
        refine tk_oe okM hok fun J hJ=>?_
        obtain ⟨v184,ev184,hm⟩:=bind_s hm
        simp only [C.f38r17,R,Nat.reduceEqDiff,h165,h166,cv_r2s (M:=Mt) Tryd.underlying21 Tryd.underlying9,ev184]
        refine hJ _ ?_
        refine n109 _ ?_
        refine n80 _ ?_
        exact ⟨x76,v184,x78,x79 + (Utf8.decode x78 x79).2,hm,h164,rfl,h167,f169,f170,i171⟩
def b_lex_quant_2 (c_strings_HasPrefix:T_strings_HasPrefix) (c_lex_counted:T_lex_counted) (n:Nat) (x42:lex_Token) (x43:lex_Token) (x6_44:Int):Option (lex_Token × Int × Int):=some (x43,x6_44,0)
def b_lex_quant_1 (c_strings_HasPrefix:T_strings_HasPrefix) (c_lex_counted:T_lex_counted) (n:Nat) (x0_28:ByteArray) (x29:lex_Token) (x30:lex_Token) (x6_31:Int):Option (lex_Token × Int × Int):=(sub x0_28 x6_31 x0_28.size).bind fun v66=>(c_strings_HasPrefix v66 ((⟨#[63]⟩:ByteArray))).bind fun v68=>bif v68 then (b_lex_quant_2 c_strings_HasPrefix c_lex_counted n x29 ({ x30 with f_Mode:=1 }) (IntKind.i64.wrap (x6_31 + 1))) else ((c_strings_HasPrefix v66 ((⟨#[43]⟩:ByteArray))).bind fun v77=>bif v77 then (b_lex_quant_2 c_strings_HasPrefix c_lex_counted n x29 ({ x30 with f_Mode:=2 }) (IntKind.i64.wrap (x6_31 + 1))) else (b_lex_quant_2 c_strings_HasPrefix c_lex_counted n x29 x30 x6_31))
def b_lex_quant (c_strings_HasPrefix:T_strings_HasPrefix) (c_lex_counted:T_lex_counted) (n:Nat) (x0:ByteArray):Option (lex_Token × Int × Int):=(bt x0 0).bind fun v87=>bif decide (v87 = 43) then (b_lex_quant_1 c_strings_HasPrefix c_lex_counted n x0 lex_Token.zero ({ ({ lex_Token.zero with f_Kind:=16,f_Max:=(-1) }:lex_Token) with f_Min:=1 }) 1) else (bif decide (v87 = 63) then (b_lex_quant_1 c_strings_HasPrefix c_lex_counted n x0 lex_Token.zero ({ ({ lex_Token.zero with f_Kind:=16,f_Max:=(-1) }:lex_Token) with f_Max:=1 }) 1) else (bif decide (v87 = 123) then ((c_lex_counted x0).bind fun v107=>bif decide (v107.2.2 = 0) then (some (lex_Token.zero,0,3)) else (bif decide (100 < (max (({ { ({ lex_Token.zero with f_Kind:=16,f_Max:=(-1) }:lex_Token) with f_Min:=v107.1 } with f_Max:=v107.2.1 }).f_Min) (({ { ({ lex_Token.zero with f_Kind:=16,f_Max:=(-1) }:lex_Token) with f_Min:=v107.1 } with f_Max:=v107.2.1 }).f_Max))) then (some (lex_Token.zero,0,4)) else (bif (!decide ((({ { ({ lex_Token.zero with f_Kind:=16,f_Max:=(-1) }:lex_Token) with f_Min:=v107.1 } with f_Max:=v107.2.1 }).f_Max) = ((-1)))) && (decide ((({ { ({ lex_Token.zero with f_Kind:=16,f_Max:=(-1) }:lex_Token) with f_Min:=v107.1 } with f_Max:=v107.2.1 }).f_Max) < (({ { ({ lex_Token.zero with f_Kind:=16,f_Max:=(-1) }:lex_Token) with f_Min:=v107.1 } with f_Max:=v107.2.1 }).f_Min))) then (some (lex_Token.zero,0,3)) else (b_lex_quant_1 c_strings_HasPrefix c_lex_counted n x0 lex_Token.zero ({ { ({ lex_Token.zero with f_Kind:=16,f_Max:=(-1) }:lex_Token) with f_Min:=v107.1 } with f_Max:=v107.2.1 }) v107.2.2)))) else (b_lex_quant_1 c_strings_HasPrefix c_lex_counted n x0 lex_Token.zero (({ lex_Token.zero with f_Kind:=16,f_Max:=(-1) }:lex_Token)) 1)))
theorem w_lex_quant {call:CallF} (hok:CallOk Mt call) {n:Nat} {c_strings_HasPrefix:T_strings_HasPrefix} (ha_strings_HasPrefix:A_strings_HasPrefix call c_strings_HasPrefix) {c_lex_counted:T_lex_counted} (ha_lex_counted:A_lex_counted call c_lex_counted) {H0:Hp} {x0:ByteArray} {r:lex_Token × Int × Int} {ro:Nat} (hro:ro ≤ H0.length) (hm:b_lex_quant c_strings_HasPrefix c_lex_counted n x0 = some r) :
  Pt Mt ro 39 [(.string x0)] H0 (.tuple [(vAgg (lex_Token.c (r.1))),(.int .i64 (r.2.1)),(.int .i64 (r.2.2))].toArray) H0 []:=by
 refine pt_new0 okM F39d (by exact Nat.le_of_ble_eq_true rfl) ?_ hro
 intro c hnt hnb hcr
 have hcn:c.ro ≤ c.nb:=by omega
 have iv:Iv c.nb [] H0 H0:=by rw [hnb]; exact iv_refl
 rw [show args0 [(.string x0)] = [(0,(.string x0))] from rfl]
 rw [b_lex_quant] at hm
 simp only [C.f39]
 refine tk_os okM hok fun J hJ=>?_
 obtain ⟨b1,H2,a3,f4,q5,r6,x7,i8⟩:=al_ok H0 46 (lex_Token.c lex_Token.zero) iv.le
 have i9:=i8 _ _ iv
 simp only [C.f39r0,R,Nat.reduceEqDiff,zs46,a3]
 refine hJ _ ?_
 refine tk_os okM hok fun J hJ=>?_
 obtain ⟨b11,H12,a13,f14,q15,r16,x17,i18⟩:=al_ok H2 46 (lex_Token.c lex_Token.zero) i9.le
 have i19:=i18 _ _ i9
 have f20:=x17 _ _ f4
 obtain ⟨H22,a23,f24,u25⟩:=st_ok (M:=Mt) (t:=46) (v:=(vAgg (lex_Token.c (({ lex_Token.zero with f_Kind:=16,f_Max:=(-1) }:lex_Token))))) (c:=lex_Token.c (({ lex_Token.zero with f_Kind:=16,f_Max:=(-1) }:lex_Token))) (cs':=lex_Token.c (({ lex_Token.zero with f_Kind:=16,f_Max:=(-1) }:lex_Token))) f14 (by rw [lex_Token.enc.len]; exact T.sz46) vAgg_cells (lex_Token.enc.one _) (Nat.le_trans hcn r16) (le0 lex_Token.enc.len) (wrs_all (eqL lex_Token.enc.len))
 have i26:=i19.up u25 r16
 have f27:=(u25.get _ (ne_len f4 q15)).trans f20
 simp only [C.f39r1,R,Nat.reduceEqDiff,bd46_0_3,zs46,a13,a23]
 refine hJ _ ?_
 refine tk_seq_j (fun ⟨σ,H,_⟩=>∃ x0_28 x29 x30 x6_31,b_lex_quant_1 c_strings_HasPrefix c_lex_counted n x0_28 x29 x30 x6_31 = some r ∧ Lk σ 0 (.string x0_28) ∧ Lk σ 2 (.pointer (some ⟨b1,0,none⟩)) ∧ Lk σ 5 (.pointer (some ⟨b11,0,none⟩)) ∧ Lk σ 6 (.int .i64 x6_31) ∧ H[b1]? = some (.cells (lex_Token.c x29) 46) ∧ H[b11]? = some (.cells (lex_Token.c x30) 46) ∧ Iv c.nb [] H0 H) ?_ ?_
 ·skip
  rintro ⟨σ40,H32,d41⟩ ⟨x0_28,x29,x30,x6_31,hm,h33,h34,h35,h36,f37,f38,i39⟩
  rw [b_lex_quant_1] at hm
  refine tk_seq_j (fun ⟨σ,H,_⟩=>∃ x42 x43 x6_44,b_lex_quant_2 c_strings_HasPrefix c_lex_counted n x42 x43 x6_44 = some r ∧ Lk σ 2 (.pointer (some ⟨b1,0,none⟩)) ∧ Lk σ 5 (.pointer (some ⟨b11,0,none⟩)) ∧ Lk σ 6 (.int .i64 x6_44) ∧ H[b1]? = some (.cells (lex_Token.c x42) 46) ∧ H[b11]? = some (.cells (lex_Token.c x43) 46) ∧ Iv c.nb [] H0 H) ?_ ?_
  ·skip
   rintro ⟨σ52,H45,d53⟩ ⟨x42,x43,x6_44,hm,h46,h47,h48,f49,f50,i51⟩
   rw [b_lex_quant_2] at hm
   refine tk_os okM hok fun J hJ=>?_
   have a54:=ld_agg (M:=Mt) (t:=46) f50 T.ag46 (by rw [lex_Token.enc.len]; exact T.sz46) Seg.refl
   obtain ⟨H55,a56,f57,u58⟩:=st_ok (M:=Mt) (t:=46) (v:=(vAgg (lex_Token.c (x43)))) (c:=lex_Token.c x43) (cs':=lex_Token.c x43) f49 (by rw [lex_Token.enc.len]; exact T.sz46) vAgg_cells (lex_Token.enc.one _) (Nat.le_trans hcn r6) (le0 lex_Token.enc.len) (wrs_all (eqL lex_Token.enc.len))
   have i59:=i51.up u58 r6
   have f60:=(u58.get _ (ne_len f4 q15).symm).trans f50
   simp only [C.f39r21,R,Nat.reduceEqDiff,a54,h47,h48,a56,h46]
   refine hJ _ ?_
   refine tk_ret okM ?_
   obtain rfl:=Option.some.inj hm
   exact end_flat (.inl rfl) (vs:=[(vAgg (lex_Token.c (x43))),(.int .i64 (x6_44)),(.int .i64 (0))]) (resC' (v:=(vAgg (lex_Token.c (x43)))) h46 (ldv_of (ld_agg (M:=Mt) (t:=46) f57 T.ag46 (by rw [lex_Token.enc.len]; exact T.sz46) Seg.refl)) (resT' (v:=(.int .i64 (x6_44))) rfl (resT' (v:=(.int .i64 (0))) rfl resN))) (fm_cons (flat_agg lex_Token.enc _) (fm_cons rfl (fm_cons rfl fm_nil)))
  ·refine fun K n61 x62=>?_
   refine tk_block_k fun K n63 e64 x65=>?_
   refine tk_os okM hok fun J hJ=>?_
   obtain ⟨v66,ev66,hm⟩:=bind_s hm
   obtain ⟨v68,ev68,hm⟩:=bind_s hm
   have a67:=ha_strings_HasPrefix c.ro H32 v66 ((⟨#[63]⟩:ByteArray)) v68 ev68
   simp only [C.f39r15,R,Nat.reduceEqDiff,h33,h36,sl_str (M:=Mt) Tryd.underlying9,ev66,c_fn F26,a67]
   refine hJ _ ?_
   refine tk_cond (t:=v68) rfl (fun g69=>?_) (fun g69=>?_)
   ·replace hm:=cond_t hm g69
    refine tk_os okM hok fun J hJ=>?_
    obtain ⟨H70,a71,f72,u73⟩:=st_ok (M:=Mt) (t:=3) (v:=(.int .i64 (1))) (c:=(cInt .i64) 1) (cs':=lex_Token.c ({ x30 with f_Mode:=1 })) f38 (by rw [enc_int.len]; exact T.sz3) rfl (enc_int.one _) (Nat.le_trans hcn r16) (Nat.le_trans (Nat.le_of_eq (congrArg _ (eqL enc_int.len))) (Seg.refl.sub (lex_Token.seg4 x30)).2) (by rw [Nat.zero_add,lex_Token.wr4 x30 1])
    have i74:=i39.up u73 r16
    have f75:=(u73.get _ (ne_len f4 q15)).trans f37
    simp only [C.f39r16,R,Nat.reduceEqDiff,fa46_4,h35,a71]
    refine hJ _ ?_
    refine tk_oe okM hok fun J hJ=>?_
    simp only [C.f39r17,R,Nat.reduceEqDiff,h36]
    refine hJ _ ?_
    refine n63 _ ?_
    refine n61 _ ?_
    exact ⟨x29,{ x30 with f_Mode:=1 },IntKind.i64.wrap (x6_31 + 1),hm,h34,h35,rfl,f75,f72,i74⟩
   ·replace hm:=cond_f hm g69
    refine tk_os okM hok fun J hJ=>?_
    obtain ⟨v77,ev77,hm⟩:=bind_s hm
    have a76:=ha_strings_HasPrefix c.ro H32 v66 ((⟨#[43]⟩:ByteArray)) v77 ev77
    simp only [C.f39r18,R,Nat.reduceEqDiff,h33,h36,sl_str (M:=Mt) Tryd.underlying9,ev66,c_fn F26,a76]
    refine hJ _ ?_
    refine tk_cond (t:=v77) rfl (fun g78=>?_) (fun g78=>?_)
    ·replace hm:=cond_t hm g78
     refine tk_os okM hok fun J hJ=>?_
     obtain ⟨H79,a80,f81,u82⟩:=st_ok (M:=Mt) (t:=3) (v:=(.int .i64 (2))) (c:=(cInt .i64) 2) (cs':=lex_Token.c ({ x30 with f_Mode:=2 })) f38 (by rw [enc_int.len]; exact T.sz3) rfl (enc_int.one _) (Nat.le_trans hcn r16) (Nat.le_trans (Nat.le_of_eq (congrArg _ (eqL enc_int.len))) (Seg.refl.sub (lex_Token.seg4 x30)).2) (by rw [Nat.zero_add,lex_Token.wr4 x30 2])
     have i83:=i39.up u82 r16
     have f84:=(u82.get _ (ne_len f4 q15)).trans f37
     simp only [C.f39r19,R,Nat.reduceEqDiff,fa46_4,h35,a80]
     refine hJ _ ?_
     refine tk_oe okM hok fun J hJ=>?_
     simp only [C.f39r20,R,Nat.reduceEqDiff,h36]
     refine hJ _ ?_
     refine n63 _ ?_
     refine n61 _ ?_
     exact ⟨x29,{ x30 with f_Mode:=2 },IntKind.i64.wrap (x6_31 + 1),hm,h34,h35,rfl,f84,f81,i83⟩
    ·replace hm:=cond_f hm g78
     refine tk_skip okM ?_
     refine n63 _ ?_
     refine n61 _ ?_
     exact ⟨x29,x30,x6_31,hm,h34,h35,h36,f37,f38,i39⟩
 ·refine fun K n85 x86=>?_
  refine tk_os okM hok fun J hJ=>?_
  obtain ⟨v87,ev87,hm⟩:=bind_s hm
  simp only [C.f39r2,R,Nat.reduceEqDiff,idxP_str (M:=Mt) Tryd.underlying9,ev87]
  refine hJ _ ?_
  refine tk_block_k fun K n88 e89 x90=>?_
  refine tk_os okM hok fun J hJ=>?_
  simp only [C.f39r3,R,Nat.reduceEqDiff]
  refine hJ _ ?_
  refine tk_cond (t:=decide (v87 = 43)) rfl (fun g91=>?_) (fun g91=>?_)
  ·replace hm:=cond_t hm g91
   refine tk_oe okM hok fun J hJ=>?_
   obtain ⟨H92,a93,f94,u95⟩:=st_ok (M:=Mt) (t:=3) (v:=(.int .i64 (1))) (c:=(cInt .i64) 1) (cs':=lex_Token.c ({ ({ lex_Token.zero with f_Kind:=16,f_Max:=(-1) }:lex_Token) with f_Min:=1 })) f24 (by rw [enc_int.len]; exact T.sz3) rfl (enc_int.one _) (Nat.le_trans hcn r16) (Nat.le_trans (Nat.le_of_eq (congrArg _ (eqL enc_int.len))) (Seg.refl.sub (lex_Token.seg2 (({ lex_Token.zero with f_Kind:=16,f_Max:=(-1) }:lex_Token)))).2) (by rw [Nat.zero_add,lex_Token.wr2 (({ lex_Token.zero with f_Kind:=16,f_Max:=(-1) }:lex_Token)) 1])
   have i96:=i26.up u95 r16
   have f97:=(u95.get _ (ne_len f4 q15)).trans f27
   simp only [C.f39r4,R,Nat.reduceEqDiff,fa46_2,a93]
   refine hJ _ ?_
   refine n88 _ ?_
   refine n85 _ ?_
   exact ⟨x0,lex_Token.zero,{ ({ lex_Token.zero with f_Kind:=16,f_Max:=(-1) }:lex_Token) with f_Min:=1 },1,hm,rfl,rfl,rfl,rfl,f97,f94,i96⟩
  ·replace hm:=cond_f hm g91
   refine tk_os okM hok fun J hJ=>?_
   simp only [C.f39r5,R,Nat.reduceEqDiff]
   refine hJ _ ?_
   refine tk_cond (t:=decide (v87 = 63)) rfl (fun g98=>?_) (fun g98=>?_)
   ·replace hm:=cond_t hm g98
    refine tk_oe okM hok fun J hJ=>?_
    obtain ⟨H99,a100,f101,u102⟩:=st_ok (M:=Mt) (t:=3) (v:=(.int .i64 (1))) (c:=(cInt .i64) 1) (cs':=lex_Token.c ({ ({ lex_Token.zero with f_Kind:=16,f_Max:=(-1) }:lex_Token) with f_Max:=1 })) f24 (by rw [enc_int.len]; exact T.sz3) rfl (enc_int.one _) (Nat.le_trans hcn r16) (Nat.le_trans (Nat.le_of_eq (congrArg _ (eqL enc_int.len))) (Seg.refl.sub (lex_Token.seg3 (({ lex_Token.zero with f_Kind:=16,f_Max:=(-1) }:lex_Token)))).2) (by rw [Nat.zero_add,lex_Token.wr3 (({ lex_Token.zero with f_Kind:=16,f_Max:=(-1) }:lex_Token)) 1])
    have i103:=i26.up u102 r16
    have f104:=(u102.get _ (ne_len f4 q15)).trans f27
    simp only [C.f39r6,R,Nat.reduceEqDiff,fa46_3,a100]
    refine hJ _ ?_
    refine n88 _ ?_
    refine n85 _ ?_
    exact ⟨x0,lex_Token.zero,{ ({ lex_Token.zero with f_Kind:=16,f_Max:=(-1) }:lex_Token) with f_Max:=1 },1,hm,rfl,rfl,rfl,rfl,f104,f101,i103⟩
   ·replace hm:=cond_f hm g98
    refine tk_os okM hok fun J hJ=>?_
    simp only [C.f39r7,R,Nat.reduceEqDiff]
    refine hJ _ ?_
    refine tk_cond (t:=decide (v87 = 123)) rfl (fun g105=>?_) (fun g105=>?_)
    ·replace hm:=cond_t hm g105
     refine tk_os okM hok fun J hJ=>?_
     obtain ⟨v107,ev107,hm⟩:=bind_s hm
     have a106:=ha_lex_counted c.ro H22 x0 v107 ev107
     obtain ⟨H108,a109,f110,u111⟩:=st_ok (M:=Mt) (t:=3) (v:=(.int .i64 (v107.1))) (c:=(cInt .i64) v107.1) (cs':=lex_Token.c ({ ({ lex_Token.zero with f_Kind:=16,f_Max:=(-1) }:lex_Token) with f_Min:=v107.1 })) f24 (by rw [enc_int.len]; exact T.sz3) rfl (enc_int.one _) (Nat.le_trans hcn r16) (Nat.le_trans (Nat.le_of_eq (congrArg _ (eqL enc_int.len))) (Seg.refl.sub (lex_Token.seg2 (({ lex_Token.zero with f_Kind:=16,f_Max:=(-1) }:lex_Token)))).2) (by rw [Nat.zero_add,lex_Token.wr2 (({ lex_Token.zero with f_Kind:=16,f_Max:=(-1) }:lex_Token)) v107.1])
     have i112:=i26.up u111 r16
     have f113:=(u111.get _ (ne_len f4 q15)).trans f27
     obtain ⟨H114,a115,f116,u117⟩:=st_ok (M:=Mt) (t:=3) (v:=(.int .i64 (v107.2.1))) (c:=(cInt .i64) v107.2.1) (cs':=lex_Token.c ({ { ({ lex_Token.zero with f_Kind:=16,f_Max:=(-1) }:lex_Token) with f_Min:=v107.1 } with f_Max:=v107.2.1 })) f110 (by rw [enc_int.len]; exact T.sz3) rfl (enc_int.one _) (Nat.le_trans hcn r16) (Nat.le_trans (Nat.le_of_eq (congrArg _ (eqL enc_int.len))) (Seg.refl.sub (lex_Token.seg3 ({ ({ lex_Token.zero with f_Kind:=16,f_Max:=(-1) }:lex_Token) with f_Min:=v107.1 }))).2) (by rw [Nat.zero_add,lex_Token.wr3 ({ ({ lex_Token.zero with f_Kind:=16,f_Max:=(-1) }:lex_Token) with f_Min:=v107.1 }) v107.2.1])
     have i118:=i112.up u117 r16
     have f119:=(u117.get _ (ne_len f4 q15)).trans f113
     simp only [C.f39r8,R,Nat.reduceEqDiff,c_fn F51,a106,fa46_2,a109,fa46_3,a115]
     refine hJ _ ?_
     refine tk_block_k fun K n120 e121 x122=>?_
     refine tk_os okM hok fun J hJ=>?_
     simp only [C.f39r9,R,Nat.reduceEqDiff]
     refine hJ _ ?_
     refine tk_cond (t:=decide (v107.2.2 = 0)) rfl (fun g123=>?_) (fun g123=>?_)
     ·replace hm:=cond_t hm g123
      refine tk_os okM hok fun J hJ=>?_
      obtain ⟨H124,a125,f126,u127⟩:=st_ok (M:=Mt) (t:=46) (v:=(vAgg (lex_Token.c (lex_Token.zero)))) (c:=lex_Token.c lex_Token.zero) (cs':=lex_Token.c lex_Token.zero) f119 (by rw [lex_Token.enc.len]; exact T.sz46) vAgg_cells (lex_Token.enc.one _) (Nat.le_trans hcn r6) (le0 lex_Token.enc.len) (wrs_all (eqL lex_Token.enc.len))
      have i128:=i118.up u127 r6
      have f129:=(u127.get _ (ne_len f4 q15).symm).trans f116
      simp only [C.f39r10,R,Nat.reduceEqDiff,bd46_,a125]
      refine hJ _ ?_
      refine tk_ret okM ?_
      refine x122 _ _ (by simp) (by simp) ?_
      refine x90 _ _ (by simp) (by simp) ?_
      refine x86 _ _ (by simp) ?_
      obtain rfl:=Option.some.inj hm
      exact end_flat (.inl rfl) (vs:=[(vAgg (lex_Token.c (lex_Token.zero))),(.int .i64 (0)),(.int .i64 (3))]) (resC' (v:=(vAgg (lex_Token.c (lex_Token.zero)))) rfl (ldv_of (ld_agg (M:=Mt) (t:=46) f126 T.ag46 (by rw [lex_Token.enc.len]; exact T.sz46) Seg.refl)) (resT' (v:=(.int .i64 (0))) rfl (resT' (v:=(.int .i64 (3))) rfl resN))) (fm_cons (flat_agg lex_Token.enc _) (fm_cons rfl (fm_cons rfl fm_nil)))
     ·replace hm:=cond_f hm g123
      refine tk_os okM hok fun J hJ=>?_
      have a130:=ld_one (M:=Mt) (t:=3) f116 T.ag3 (Seg.refl.sub (lex_Token.seg2 ({ { ({ lex_Token.zero with f_Kind:=16,f_Max:=(-1) }:lex_Token) with f_Min:=v107.1 } with f_Max:=v107.2.1 })))
      have a131:=ld_one (M:=Mt) (t:=3) f116 T.ag3 (Seg.refl.sub (lex_Token.seg3 ({ { ({ lex_Token.zero with f_Kind:=16,f_Max:=(-1) }:lex_Token) with f_Min:=v107.1 } with f_Max:=v107.2.1 })))
      simp only [C.f39r11,R,Nat.reduceEqDiff,fa46_2,a130,fa46_3,a131]
      refine hJ _ ?_
      refine tk_cond (t:=decide (100 < (max (({ { ({ lex_Token.zero with f_Kind:=16,f_Max:=(-1) }:lex_Token) with f_Min:=v107.1 } with f_Max:=v107.2.1 }).f_Min) (({ { ({ lex_Token.zero with f_Kind:=16,f_Max:=(-1) }:lex_Token) with f_Min:=v107.1 } with f_Max:=v107.2.1 }).f_Max)))) rfl (fun g132=>?_) (fun g132=>?_)
      ·replace hm:=cond_t hm g132
       refine tk_os okM hok fun J hJ=>?_
       obtain ⟨H133,a134,f135,u136⟩:=st_ok (M:=Mt) (t:=46) (v:=(vAgg (lex_Token.c (lex_Token.zero)))) (c:=lex_Token.c lex_Token.zero) (cs':=lex_Token.c lex_Token.zero) f119 (by rw [lex_Token.enc.len]; exact T.sz46) vAgg_cells (lex_Token.enc.one _) (Nat.le_trans hcn r6) (le0 lex_Token.enc.len) (wrs_all (eqL lex_Token.enc.len))
       have i137:=i118.up u136 r6
       have f138:=(u136.get _ (ne_len f4 q15).symm).trans f116
       simp only [C.f39r12,R,Nat.reduceEqDiff,bd46_,a134]
       refine hJ _ ?_
       refine tk_ret okM ?_
       refine x122 _ _ (by simp) (by simp) ?_
       refine x90 _ _ (by simp) (by simp) ?_
       refine x86 _ _ (by simp) ?_
       obtain rfl:=Option.some.inj hm
       exact end_flat (.inl rfl) (vs:=[(vAgg (lex_Token.c (lex_Token.zero))),(.int .i64 (0)),(.int .i64 (4))]) (resC' (v:=(vAgg (lex_Token.c (lex_Token.zero)))) rfl (ldv_of (ld_agg (M:=Mt) (t:=46) f135 T.ag46 (by rw [lex_Token.enc.len]; exact T.sz46) Seg.refl)) (resT' (v:=(.int .i64 (0))) rfl (resT' (v:=(.int .i64 (4))) rfl resN))) (fm_cons (flat_agg lex_Token.enc _) (fm_cons rfl (fm_cons rfl fm_nil)))
      ·replace hm:=cond_f hm g132
       refine tk_os okM hok fun J hJ=>?_
       rw [C.f39r13]
       have a139:=ld_one (M:=Mt) (t:=3) f116 T.ag3 (Seg.refl.sub (lex_Token.seg3 ({ { ({ lex_Token.zero with f_Kind:=16,f_Max:=(-1) }:lex_Token) with f_Min:=v107.1 } with f_Max:=v107.2.1 })))
       refine rn_app_k (fun ⟨σ,H,_⟩=>Lk σ 0 (.string (x0)) ∧ Lk σ 2 (.pointer (some ⟨b1,0,none⟩)) ∧ Lk σ 5 (.pointer (some ⟨b11,0,none⟩)) ∧ Lk σ 6 (.int .i64 (v107.2.2)) ∧ Lk σ 48 (.bool ((!decide ((({ { ({ lex_Token.zero with f_Kind:=16,f_Max:=(-1) }:lex_Token) with f_Min:=v107.1 } with f_Max:=v107.2.1 }).f_Max) = ((-1)))) && (decide ((({ { ({ lex_Token.zero with f_Kind:=16,f_Max:=(-1) }:lex_Token) with f_Min:=v107.1 } with f_Max:=v107.2.1 }).f_Max) < (({ { ({ lex_Token.zero with f_Kind:=16,f_Max:=(-1) }:lex_Token) with f_Min:=v107.1 } with f_Max:=v107.2.1 }).f_Min))))) ∧ H[b1]? = some (.cells (lex_Token.c lex_Token.zero) 46) ∧ H[b11]? = some (.cells (lex_Token.c ({ { ({ lex_Token.zero with f_Kind:=16,f_Max:=(-1) }:lex_Token) with f_Min:=v107.1 } with f_Max:=v107.2.1 })) 46) ∧ Iv c.nb [] H0 H) (fun J hJ=>?_) ?_
       ·skip
        cases g151:!decide ((({ { ({ lex_Token.zero with f_Kind:=16,f_Max:=(-1) }:lex_Token) with f_Min:=v107.1 } with f_Max:=v107.2.1 }).f_Max) = ((-1)))
        ·skip
         simp only [C.f39r13p0,R,Nat.reduceEqDiff,fa46_3,a139,g151]
         refine hJ _ ?_
         exact ⟨(by first | rfl | (simp only [g151]; rfl) | simp only [g151,Lk,RB,Nat.reduceEqDiff,not_false_eq_true]),rfl,rfl,(by first | rfl | (simp only [g151]; rfl) | simp only [g151,Lk,RB,Nat.reduceEqDiff,not_false_eq_true]),(by first | rfl | (simp only [g151]; rfl) | simp only [g151,Lk,RB,Nat.reduceEqDiff,not_false_eq_true]),f119,f116,i118⟩
        ·skip
         have a152:=ld_one (M:=Mt) (t:=3) f116 T.ag3 (Seg.refl.sub (lex_Token.seg3 ({ { ({ lex_Token.zero with f_Kind:=16,f_Max:=(-1) }:lex_Token) with f_Min:=v107.1 } with f_Max:=v107.2.1 })))
         have a153:=ld_one (M:=Mt) (t:=3) f116 T.ag3 (Seg.refl.sub (lex_Token.seg2 ({ { ({ lex_Token.zero with f_Kind:=16,f_Max:=(-1) }:lex_Token) with f_Min:=v107.1 } with f_Max:=v107.2.1 })))
         simp only [C.f39r13p0,R,Nat.reduceEqDiff,fa46_3,a139,g151,a152,fa46_2,a153]
         refine hJ _ ?_
         exact ⟨(by first | rfl | (simp only [g151]; rfl) | simp only [g151,Lk,RB,Nat.reduceEqDiff,not_false_eq_true]),rfl,rfl,(by first | rfl | (simp only [g151]; rfl) | simp only [g151,Lk,RB,Nat.reduceEqDiff,not_false_eq_true]),(by first | rfl | (simp only [g151]; rfl) | simp only [g151,Lk,RB,Nat.reduceEqDiff,not_false_eq_true]),f119,f116,i118⟩
       rintro ⟨σ154,H142,d155⟩ ⟨h143,h144,h145,h146,h147,f148,f149,i150⟩
       simp only [C.f39r13p1,R,Nat.reduceEqDiff,h147]
       refine hJ _ ?_
       refine tk_cond (t:=(!decide ((({ { ({ lex_Token.zero with f_Kind:=16,f_Max:=(-1) }:lex_Token) with f_Min:=v107.1 } with f_Max:=v107.2.1 }).f_Max) = ((-1)))) && (decide ((({ { ({ lex_Token.zero with f_Kind:=16,f_Max:=(-1) }:lex_Token) with f_Min:=v107.1 } with f_Max:=v107.2.1 }).f_Max) < (({ { ({ lex_Token.zero with f_Kind:=16,f_Max:=(-1) }:lex_Token) with f_Min:=v107.1 } with f_Max:=v107.2.1 }).f_Min)))) rfl (fun g156=>?_) (fun g156=>?_)
       ·replace hm:=cond_t hm g156
        refine tk_os okM hok fun J hJ=>?_
        obtain ⟨H157,a158,f159,u160⟩:=st_ok (M:=Mt) (t:=46) (v:=(vAgg (lex_Token.c (lex_Token.zero)))) (c:=lex_Token.c lex_Token.zero) (cs':=lex_Token.c lex_Token.zero) f148 (by rw [lex_Token.enc.len]; exact T.sz46) vAgg_cells (lex_Token.enc.one _) (Nat.le_trans hcn r6) (le0 lex_Token.enc.len) (wrs_all (eqL lex_Token.enc.len))
        have i161:=i150.up u160 r6
        have f162:=(u160.get _ (ne_len f4 q15).symm).trans f149
        simp only [C.f39r14,R,Nat.reduceEqDiff,bd46_,a158,h144]
        refine hJ _ ?_
        refine tk_ret okM ?_
        refine x122 _ _ (by simp) (by simp) ?_
        refine x90 _ _ (by simp) (by simp) ?_
        refine x86 _ _ (by simp) ?_
        obtain rfl:=Option.some.inj hm
        exact end_flat (.inl rfl) (vs:=[(vAgg (lex_Token.c (lex_Token.zero))),(.int .i64 (0)),(.int .i64 (3))]) (resC' (v:=(vAgg (lex_Token.c (lex_Token.zero)))) h144 (ldv_of (ld_agg (M:=Mt) (t:=46) f159 T.ag46 (by rw [lex_Token.enc.len]; exact T.sz46) Seg.refl)) (resT' (v:=(.int .i64 (0))) rfl (resT' (v:=(.int .i64 (3))) rfl resN))) (fm_cons (flat_agg lex_Token.enc _) (fm_cons rfl (fm_cons rfl fm_nil)))
       ·replace hm:=cond_f hm g156
        refine tk_skip okM ?_
        refine n120 _ ?_
        refine n88 _ ?_
        refine n85 _ ?_
        exact ⟨x0,lex_Token.zero,{ { ({ lex_Token.zero with f_Kind:=16,f_Max:=(-1) }:lex_Token) with f_Min:=v107.1 } with f_Max:=v107.2.1 },v107.2.2,hm,h143,h144,h145,h146,f148,f149,i150⟩
    ·replace hm:=cond_f hm g105
     refine tk_skip okM ?_
     refine n88 _ ?_
     refine n85 _ ?_
     exact ⟨x0,lex_Token.zero,({ lex_Token.zero with f_Kind:=16,f_Max:=(-1) }:lex_Token),1,hm,rfl,rfl,rfl,rfl,f27,f24,i26⟩
def b_lex_escaped (c_strings_HasPrefix:T_strings_HasPrefix) (c_lex_digit:T_lex_digit) (c_lex_escape:T_lex_escape) (n:Nat) (x0:ByteArray):Option (lex_Token × Int × Int):=(sub x0 1 x0.size).bind fun v11=>(c_strings_HasPrefix v11 ((⟨#[98]⟩:ByteArray))).bind fun v18=>bif v18 then (some (({ lex_Token.zero with f_Kind:=4 }:lex_Token),2,0)) else ((c_strings_HasPrefix v11 ((⟨#[66]⟩:ByteArray))).bind fun v26=>bif v26 then (some (({ lex_Token.zero with f_Kind:=5 }:lex_Token),2,0)) else ((bif !decide (v11 = ((⟨#[]⟩:ByteArray))) then ((bt v11 0).bind fun v33=>(c_lex_digit v33 10).bind fun v35=>some (decide (0 < v35))) else some false).bind fun y36=>bif y36 then ((bt v11 0).bind fun v50=>(c_lex_digit v50 10).bind fun v52=>some (({ lex_Token.zero with f_Kind:=17,f_N:=v52 }:lex_Token),2,0)) else ((c_lex_escape v11).bind fun v59=>bif decide (v59.2 = 0) then (some (lex_Token.zero,0,3)) else (some (({ lex_Token.zero with f_Set:=v59.1 }:lex_Token),IntKind.i64.wrap (v59.2 + 1),0)))))
theorem w_lex_escaped {call:CallF} (hok:CallOk Mt call) {n:Nat} {c_strings_HasPrefix:T_strings_HasPrefix} (ha_strings_HasPrefix:A_strings_HasPrefix call c_strings_HasPrefix) {c_lex_digit:T_lex_digit} (ha_lex_digit:A_lex_digit call c_lex_digit) {c_lex_escape:T_lex_escape} (ha_lex_escape:A_lex_escape call c_lex_escape) {H0:Hp} {x0:ByteArray} {r:lex_Token × Int × Int} {ro:Nat} (hro:ro ≤ H0.length) (hm:b_lex_escaped c_strings_HasPrefix c_lex_digit c_lex_escape n x0 = some r) :
  Pt Mt ro 40 [(.string x0)] H0 (.tuple [(vAgg (lex_Token.c (r.1))),(.int .i64 (r.2.1)),(.int .i64 (r.2.2))].toArray) H0 []:=by
 refine pt_new0 okM F40d (by exact Nat.le_of_ble_eq_true rfl) ?_ hro
 intro c hnt hnb hcr
 have hcn:c.ro ≤ c.nb:=by omega
 have iv:Iv c.nb [] H0 H0:=by rw [hnb]; exact iv_refl
 rw [show args0 [(.string x0)] = [(0,(.string x0))] from rfl]
 rw [b_lex_escaped] at hm
 simp only [C.f40]
 refine tk_os okM hok fun J hJ=>?_
 obtain ⟨b1,H2,a3,f4,q5,r6,x7,i8⟩:=al_ok H0 46 (lex_Token.c lex_Token.zero) iv.le
 have i9:=i8 _ _ iv
 simp only [C.f40r0,R,Nat.reduceEqDiff,zs46,a3]
 refine hJ _ ?_
 refine tk_os okM hok fun J hJ=>?_
 obtain ⟨v11,ev11,hm⟩:=bind_s hm
 simp only [C.f40r1,R,Nat.reduceEqDiff,sl_str (M:=Mt) Tryd.underlying9,ev11]
 refine hJ _ ?_
 refine tk_seq_k fun K n12 x13=>?_
 refine tk_block_k fun K n14 e15 x16=>?_
 refine tk_os okM hok fun J hJ=>?_
 obtain ⟨v18,ev18,hm⟩:=bind_s hm
 have a17:=ha_strings_HasPrefix c.ro H2 v11 ((⟨#[98]⟩:ByteArray)) v18 ev18
 simp only [C.f40r2,R,Nat.reduceEqDiff,c_fn F26,a17]
 refine hJ _ ?_
 refine tk_cond (t:=v18) rfl (fun g19=>?_) (fun g19=>?_)
 ·replace hm:=cond_t hm g19
  refine tk_os okM hok fun J hJ=>?_
  obtain ⟨H20,a21,f22,u23⟩:=st_ok (M:=Mt) (t:=46) (v:=(vAgg (lex_Token.c (({ lex_Token.zero with f_Kind:=4 }:lex_Token))))) (c:=lex_Token.c (({ lex_Token.zero with f_Kind:=4 }:lex_Token))) (cs':=lex_Token.c (({ lex_Token.zero with f_Kind:=4 }:lex_Token))) f4 (by rw [lex_Token.enc.len]; exact T.sz46) vAgg_cells (lex_Token.enc.one _) (Nat.le_trans hcn r6) (le0 lex_Token.enc.len) (wrs_all (eqL lex_Token.enc.len))
  have i24:=i9.up u23 r6
  simp only [C.f40r3,R,Nat.reduceEqDiff,bd46_0,a21]
  refine hJ _ ?_
  refine tk_ret okM ?_
  refine x16 _ _ (by simp) (by simp) ?_
  refine x13 _ _ (by simp) ?_
  obtain rfl:=Option.some.inj hm
  exact end_flat (.inl rfl) (vs:=[(vAgg (lex_Token.c (({ lex_Token.zero with f_Kind:=4 }:lex_Token)))),(.int .i64 (2)),(.int .i64 (0))]) (resC' (v:=(vAgg (lex_Token.c (({ lex_Token.zero with f_Kind:=4 }:lex_Token))))) rfl (ldv_of (ld_agg (M:=Mt) (t:=46) f22 T.ag46 (by rw [lex_Token.enc.len]; exact T.sz46) Seg.refl)) (resT' (v:=(.int .i64 (2))) rfl (resT' (v:=(.int .i64 (0))) rfl resN))) (fm_cons (flat_agg lex_Token.enc _) (fm_cons rfl (fm_cons rfl fm_nil)))
 ·replace hm:=cond_f hm g19
  refine tk_os okM hok fun J hJ=>?_
  obtain ⟨v26,ev26,hm⟩:=bind_s hm
  have a25:=ha_strings_HasPrefix c.ro H2 v11 ((⟨#[66]⟩:ByteArray)) v26 ev26
  simp only [C.f40r4,R,Nat.reduceEqDiff,c_fn F26,a25]
  refine hJ _ ?_
  refine tk_cond (t:=v26) rfl (fun g27=>?_) (fun g27=>?_)
  ·replace hm:=cond_t hm g27
   refine tk_os okM hok fun J hJ=>?_
   obtain ⟨H28,a29,f30,u31⟩:=st_ok (M:=Mt) (t:=46) (v:=(vAgg (lex_Token.c (({ lex_Token.zero with f_Kind:=5 }:lex_Token))))) (c:=lex_Token.c (({ lex_Token.zero with f_Kind:=5 }:lex_Token))) (cs':=lex_Token.c (({ lex_Token.zero with f_Kind:=5 }:lex_Token))) f4 (by rw [lex_Token.enc.len]; exact T.sz46) vAgg_cells (lex_Token.enc.one _) (Nat.le_trans hcn r6) (le0 lex_Token.enc.len) (wrs_all (eqL lex_Token.enc.len))
   have i32:=i9.up u31 r6
   simp only [C.f40r5,R,Nat.reduceEqDiff,bd46_0,a29]
   refine hJ _ ?_
   refine tk_ret okM ?_
   refine x16 _ _ (by simp) (by simp) ?_
   refine x13 _ _ (by simp) ?_
   obtain rfl:=Option.some.inj hm
   exact end_flat (.inl rfl) (vs:=[(vAgg (lex_Token.c (({ lex_Token.zero with f_Kind:=5 }:lex_Token)))),(.int .i64 (2)),(.int .i64 (0))]) (resC' (v:=(vAgg (lex_Token.c (({ lex_Token.zero with f_Kind:=5 }:lex_Token))))) rfl (ldv_of (ld_agg (M:=Mt) (t:=46) f30 T.ag46 (by rw [lex_Token.enc.len]; exact T.sz46) Seg.refl)) (resT' (v:=(.int .i64 (2))) rfl (resT' (v:=(.int .i64 (0))) rfl resN))) (fm_cons (flat_agg lex_Token.enc _) (fm_cons rfl (fm_cons rfl fm_nil)))
  ·replace hm:=cond_f hm g27
   refine tk_os okM hok fun J hJ=>?_
   rw [C.f40r6]
   obtain ⟨y36,ey36,hm⟩:=bind_s hm
   refine rn_app_k (fun ⟨σ,H,_⟩=>Lk σ 2 (.pointer (some ⟨b1,0,none⟩)) ∧ Lk σ 5 (.string (v11)) ∧ Lk σ 26 (.bool (y36)) ∧ H[b1]? = some (.cells (lex_Token.c lex_Token.zero) 46) ∧ Iv c.nb [] H0 H) (fun J hJ=>?_) ?_
   ·skip
    cases g43:!decide (v11 = ((⟨#[]⟩:ByteArray)))
    ·skip
     have ey36:=cond_f ey36 g43
     obtain rfl:=Option.some.inj ey36
     simp only [C.f40r6p0,R,Nat.reduceEqDiff,g43]
     refine hJ _ ?_
     exact ⟨rfl,(by first | rfl | (simp only [g43]; rfl) | simp only [g43,Lk,RB,Nat.reduceEqDiff,not_false_eq_true]),(by first | rfl | (simp only [g43]; rfl) | simp only [g43,Lk,RB,Nat.reduceEqDiff,not_false_eq_true]),f4,i9⟩
    ·skip
     have ey36:=cond_t ey36 g43
     obtain ⟨v44,ev44,ey36⟩:=bind_s ey36
     obtain ⟨v46,ev46,ey36⟩:=bind_s ey36
     have a45:=ha_lex_digit c.ro H2 v44 10 v46 ev46
     obtain rfl:=Option.some.inj ey36
     simp only [C.f40r6p0,R,Nat.reduceEqDiff,g43,idxP_str (M:=Mt) Tryd.underlying9,ev44,c_fn F52,a45]
     refine hJ _ ?_
     exact ⟨rfl,(by first | rfl | (simp only [g43]; rfl) | simp only [g43,Lk,RB,Nat.reduceEqDiff,not_false_eq_true]),(by first | rfl | (simp only [g43]; rfl) | simp only [g43,Lk,RB,Nat.reduceEqDiff,not_false_eq_true]),f4,i9⟩
   rintro ⟨σ47,H37,d48⟩ ⟨h38,h39,h40,f41,i42⟩
   simp only [C.f40r6p1,R,Nat.reduceEqDiff,h40]
   refine hJ _ ?_
   refine tk_cond (t:=y36) rfl (fun g49=>?_) (fun g49=>?_)
   ·replace hm:=cond_t hm g49
    refine tk_os okM hok fun J hJ=>?_
    obtain ⟨v50,ev50,hm⟩:=bind_s hm
    obtain ⟨v52,ev52,hm⟩:=bind_s hm
    have a51:=ha_lex_digit c.ro H37 v50 10 v52 ev52
    obtain ⟨H53,a54,f55,u56⟩:=st_ok (M:=Mt) (t:=46) (v:=(vAgg (lex_Token.c (({ lex_Token.zero with f_Kind:=17,f_N:=v52 }:lex_Token))))) (c:=lex_Token.c (({ lex_Token.zero with f_Kind:=17,f_N:=v52 }:lex_Token))) (cs':=lex_Token.c (({ lex_Token.zero with f_Kind:=17,f_N:=v52 }:lex_Token))) f41 (by rw [lex_Token.enc.len]; exact T.sz46) vAgg_cells (lex_Token.enc.one _) (Nat.le_trans hcn r6) (le0 lex_Token.enc.len) (wrs_all (eqL lex_Token.enc.len))
    have i57:=i42.up u56 r6
    simp only [C.f40r7,R,Nat.reduceEqDiff,h39,idxP_str (M:=Mt) Tryd.underlying9,ev50,c_fn F52,a51,bd46_0_5,a54,h38]
    refine hJ _ ?_
    refine tk_ret okM ?_
    refine x16 _ _ (by simp) (by simp) ?_
    refine x13 _ _ (by simp) ?_
    obtain rfl:=Option.some.inj hm
    exact end_flat (.inl rfl) (vs:=[(vAgg (lex_Token.c (({ lex_Token.zero with f_Kind:=17,f_N:=v52 }:lex_Token)))),(.int .i64 (2)),(.int .i64 (0))]) (resC' (v:=(vAgg (lex_Token.c (({ lex_Token.zero with f_Kind:=17,f_N:=v52 }:lex_Token))))) h38 (ldv_of (ld_agg (M:=Mt) (t:=46) f55 T.ag46 (by rw [lex_Token.enc.len]; exact T.sz46) Seg.refl)) (resT' (v:=(.int .i64 (2))) rfl (resT' (v:=(.int .i64 (0))) rfl resN))) (fm_cons (flat_agg lex_Token.enc _) (fm_cons rfl (fm_cons rfl fm_nil)))
   ·replace hm:=cond_f hm g49
    refine tk_skip okM ?_
    refine n14 _ ?_
    refine n12 _ ?_
    refine tk_os okM hok fun J hJ=>?_
    obtain ⟨v59,ev59,hm⟩:=bind_s hm
    have a58:=ha_lex_escape c.ro H37 v11 v59 ev59
    obtain ⟨b60,H61,a62,f63,q64,r65,x66,i67⟩:=al_ok H37 36 (class_Set.c class_Set.zero) i42.le
    have i68:=i67 _ _ i42
    have f69:=x66 _ _ f41
    obtain ⟨H71,a72,f73,u74⟩:=st_ok (M:=Mt) (t:=36) (v:=(vAgg (class_Set.c (v59.1)))) (c:=class_Set.c v59.1) (cs':=class_Set.c v59.1) f63 (by rw [class_Set.enc.len]; exact T.sz36) vAgg_cells (class_Set.enc.one _) (Nat.le_trans hcn r65) (le0 class_Set.enc.len) (wrs_all (eqL class_Set.enc.len))
    have i75:=i68.up u74 r65
    have f76:=(u74.get _ (ne_len f41 q64)).trans f69
    simp only [C.f40r8,R,Nat.reduceEqDiff,h39,c_fn F53,a58,zs36,a62,a72]
    refine hJ _ ?_
    refine tk_seq_k fun K n77 x78=>?_
    refine tk_os okM hok fun J hJ=>?_
    simp only [C.f40r9,R,Nat.reduceEqDiff]
    refine hJ _ ?_
    refine tk_cond (t:=decide (v59.2 = 0)) rfl (fun g79=>?_) (fun g79=>?_)
    ·replace hm:=cond_t hm g79
     refine tk_os okM hok fun J hJ=>?_
     obtain ⟨H80,a81,f82,u83⟩:=st_ok (M:=Mt) (t:=46) (v:=(vAgg (lex_Token.c (lex_Token.zero)))) (c:=lex_Token.c lex_Token.zero) (cs':=lex_Token.c lex_Token.zero) f76 (by rw [lex_Token.enc.len]; exact T.sz46) vAgg_cells (lex_Token.enc.one _) (Nat.le_trans hcn r6) (le0 lex_Token.enc.len) (wrs_all (eqL lex_Token.enc.len))
     have i84:=i75.up u83 r6
     have f85:=(u83.get _ (ne_len f41 q64).symm).trans f73
     simp only [C.f40r10,R,Nat.reduceEqDiff,bd46_,a81,h38]
     refine hJ _ ?_
     refine tk_ret okM ?_
     refine x78 _ _ (by simp) ?_
     obtain rfl:=Option.some.inj hm
     exact end_flat (.inl rfl) (vs:=[(vAgg (lex_Token.c (lex_Token.zero))),(.int .i64 (0)),(.int .i64 (3))]) (resC' (v:=(vAgg (lex_Token.c (lex_Token.zero)))) h38 (ldv_of (ld_agg (M:=Mt) (t:=46) f82 T.ag46 (by rw [lex_Token.enc.len]; exact T.sz46) Seg.refl)) (resT' (v:=(.int .i64 (0))) rfl (resT' (v:=(.int .i64 (3))) rfl resN))) (fm_cons (flat_agg lex_Token.enc _) (fm_cons rfl (fm_cons rfl fm_nil)))
    ·replace hm:=cond_f hm g79
     refine tk_skip okM ?_
     refine n77 _ ?_
     refine tk_os okM hok fun J hJ=>?_
     have a86:=ld_agg (M:=Mt) (t:=36) f73 T.ag36 (by rw [class_Set.enc.len]; exact T.sz36) Seg.refl
     obtain ⟨H87,a88,f89,u90⟩:=st_ok (M:=Mt) (t:=46) (v:=(vAgg (lex_Token.c (({ lex_Token.zero with f_Set:=v59.1 }:lex_Token))))) (c:=lex_Token.c (({ lex_Token.zero with f_Set:=v59.1 }:lex_Token))) (cs':=lex_Token.c (({ lex_Token.zero with f_Set:=v59.1 }:lex_Token))) f76 (by rw [lex_Token.enc.len]; exact T.sz46) vAgg_cells (lex_Token.enc.one _) (Nat.le_trans hcn r6) (le0 lex_Token.enc.len) (wrs_all (eqL lex_Token.enc.len))
     have i91:=i75.up u90 r6
     have f92:=(u90.get _ (ne_len f41 q64).symm).trans f73
     simp only [C.f40r11,R,Nat.reduceEqDiff,a86,bd46_1,a88,h38]
     refine hJ _ ?_
     refine tk_ret okM ?_
     obtain rfl:=Option.some.inj hm
     exact end_flat (.inl rfl) (vs:=[(vAgg (lex_Token.c (({ lex_Token.zero with f_Set:=v59.1 }:lex_Token)))),(.int .i64 (IntKind.i64.wrap (v59.2 + 1))),(.int .i64 (0))]) (resC' (v:=(vAgg (lex_Token.c (({ lex_Token.zero with f_Set:=v59.1 }:lex_Token))))) h38 (ldv_of (ld_agg (M:=Mt) (t:=46) f89 T.ag46 (by rw [lex_Token.enc.len]; exact T.sz46) Seg.refl)) (resT' (v:=(.int .i64 (IntKind.i64.wrap (v59.2 + 1)))) rfl (resT' (v:=(.int .i64 (0))) rfl resN))) (fm_cons (flat_agg lex_Token.enc _) (fm_cons rfl (fm_cons rfl fm_nil)))
def b_ref06_flags_2 (n:Nat) (q1:ByteArray → ref06_Token → ByteArray → Int → Option (ref06_Token × Int × Int)):Nat → ByteArray → ref06_Token → ByteArray → Int → Int → Int → Option (ref06_Token × Int × Int)
 | 0,_,_,_,_,_,_=>none
 | k + 1,x0_97,x98,x7_99,x8_100,x9_101,x10_102=>bif decide (x10_102 < ((x7_99.size:Int))) then ((bt x7_99 x10_102).bind fun v124=>bif decide (v124 = x9_101) then (some (ref06_Token.zero,0,3)) else (b_ref06_flags_2 n q1 k x0_97 x98 x7_99 x8_100 x9_101 (IntKind.i64.wrap (x10_102 + 1)))) else ((sadd x7_99 (strOf (some ([x9_101]:List Int)))).bind fun v142=>q1 x0_97 x98 v142 (IntKind.i64.wrap (x8_100 + 1)))
def b_ref06_flags_1 (n:Nat):Nat → ByteArray → ref06_Token → ByteArray → Int → Option (ref06_Token × Int × Int)
 | 0,_,_,_,_=>none
 | k + 1,x0_16,x17,x7_18,x8_19=>bif decide (x8_19 < ((x0_16.size:Int))) then ((bt x0_16 x8_19).bind fun v39=>bif (decide (v39 = 58)) && (!decide (x7_18 = ((⟨#[]⟩:ByteArray)))) then (some (({ ref06_Token.zero with f_Kind:=14,f_Flags:=x7_18 }:ref06_Token),IntKind.i64.wrap (x8_19 + 1),0)) else (bif ((!decide (v39 = 105)) && (!decide (v39 = 109))) && (!decide (v39 = 115)) then (some (ref06_Token.zero,0,3)) else (b_ref06_flags_2 n (b_ref06_flags_1 n k) n x0_16 x17 x7_18 x8_19 v39 0))) else (some (ref06_Token.zero,0,3))
def b_ref06_flags (n:Nat) (x0:ByteArray) (x1:Int):Option (ref06_Token × Int × Int):=b_ref06_flags_1 n n x0 ref06_Token.zero ((⟨#[]⟩:ByteArray)) (IntKind.i64.wrap (x1 + 2))
theorem w_ref06_flags {call:CallF} (hok:CallOk Mt call) {n:Nat} {H0:Hp} {x0:ByteArray} {x1:Int} {r:ref06_Token × Int × Int} {ro:Nat} (hro:ro ≤ H0.length) (hm:b_ref06_flags n x0 x1 = some r) :
  Pt Mt ro 41 [(.string x0),(.int .i64 x1)] H0 (.tuple [(vAgg (ref06_Token.c (r.1))),(.int .i64 (r.2.1)),(.int .i64 (r.2.2))].toArray) H0 []:=by
 refine pt_new0 okM F41d (by exact Nat.le_of_ble_eq_true rfl) ?_ hro
 intro c hnt hnb hcr
 have hcn:c.ro ≤ c.nb:=by omega
 have iv:Iv c.nb [] H0 H0:=by rw [hnb]; exact iv_refl
 rw [show args0 [(.string x0),(.int .i64 x1)] = [(0,(.string x0)),(1,(.int .i64 x1))] from rfl]
 rw [b_ref06_flags] at hm
 simp only [C.f41,C.f41b0,C.f41b1]
 refine tk_os okM hok fun J hJ=>?_
 obtain ⟨b1,H2,a3,f4,q5,r6,x7,i8⟩:=al_ok H0 59 (ref06_Token.c ref06_Token.zero) iv.le
 have i9:=i8 _ _ iv
 simp only [C.f41r0,R,Nat.reduceEqDiff,zs59,a3]
 refine hJ _ ?_
 refine tk_os okM hok fun J hJ=>?_
 simp only [C.f41r1,R,Nat.reduceEqDiff]
 refine hJ _ ?_
 refine tk_seq_k fun K n11 x12=>?_
 refine tk_os okM hok fun J hJ=>?_
 simp only [C.f41r2,R,Nat.reduceEqDiff]
 refine hJ _ ?_
 refine tk_block_k fun K n13 e14 x15=>?_
 refine tk_loop_k (n:=n) (fun k1 ⟨σ,H,_⟩=>∃ x0_16 x17 x7_18 x8_19,b_ref06_flags_1 n k1 x0_16 x17 x7_18 x8_19 = some r ∧ Lk σ 0 (.string x0_16) ∧ Lk σ 4 (.pointer (some ⟨b1,0,none⟩)) ∧ Lk σ 7 (.string x7_18) ∧ Lk σ 8 (.int .i64 x8_19) ∧ H[b1]? = some (.cells (ref06_Token.c x17) 59) ∧ Iv c.nb [] H0 H) ?_ ?_ ?_
 ·exact ⟨x0,ref06_Token.zero,(⟨#[]⟩:ByteArray),IntKind.i64.wrap (x1 + 2),hm,rfl,rfl,rfl,rfl,f4,i9⟩
 ·rintro ⟨σ,H,d⟩ ⟨_,_,_,_,hm,_⟩
  cases hm
 ·intro k1 K n20 x21
  rintro ⟨σ29,H22,d30⟩ ⟨x0_16,x17,x7_18,x8_19,hm,h23,h24,h25,h26,f27,i28⟩
  rw [b_ref06_flags_1.eq_2] at hm
  refine tk_seq_k fun K n31 x32=>?_
  refine tk_os okM hok fun J hJ=>?_
  simp only [C.f41r3,R,Nat.reduceEqDiff,h26,h23,len_str (M:=Mt) Tryd.underlying9]
  refine hJ _ ?_
  refine tk_cond (t:=decide (x8_19 < ((x0_16.size:Int)))) rfl (fun g33=>?_) (fun g33=>?_)
  ·replace hm:=cond_t hm g33
   refine tk_skip okM ?_
   refine n31 _ ?_
   refine tk_seq_k fun K n34 x35=>?_
   refine tk_block_k fun K n36 e37 x38=>?_
   refine tk_os okM hok fun J hJ=>?_
   obtain ⟨v39,ev39,hm⟩:=bind_s hm
   simp only [C.f41r5,R,Nat.reduceEqDiff,h23,h26,idxP_str (M:=Mt) Tryd.underlying9,ev39]
   refine hJ _ ?_
   refine tk_seq_k fun K n40 x41=>?_
   refine tk_os okM hok fun J hJ=>?_
   refine rn_k (fun ⟨σ,H,_⟩=>Lk σ 0 (.string (x0_16)) ∧ Lk σ 4 (.pointer (some ⟨b1,0,none⟩)) ∧ Lk σ 7 (.string (x7_18)) ∧ Lk σ 8 (.int .i64 (x8_19)) ∧ Lk σ 9 (.int .u8 (v39)) ∧ Lk σ 27 (.bool ((decide (v39 = 58)) && (!decide (x7_18 = ((⟨#[]⟩:ByteArray)))))) ∧ H[b1]? = some (.cells (ref06_Token.c x17) 59) ∧ Iv c.nb [] H0 H) (fun J hJ=>?_) ?_
   ·skip
    cases g51:decide (v39 = 58)
    ·skip
     simp only [C.f41r6,R,Nat.reduceEqDiff,g51]
     refine hJ _ ?_
     exact ⟨h23,h24,h25,h26,(by first | rfl | (simp only [g51]; rfl) | simp only [g51,Lk,RB,Nat.reduceEqDiff,not_false_eq_true]),(by first | rfl | (simp only [g51]; rfl) | simp only [g51,Lk,RB,Nat.reduceEqDiff,not_false_eq_true]),f27,i28⟩
    ·skip
     simp only [C.f41r6,R,Nat.reduceEqDiff,g51,h25]
     refine hJ _ ?_
     exact ⟨h23,h24,h25,h26,(by first | rfl | (simp only [g51]; rfl) | simp only [g51,Lk,RB,Nat.reduceEqDiff,not_false_eq_true]),(by first | rfl | (simp only [g51]; rfl) | simp only [g51,Lk,RB,Nat.reduceEqDiff,not_false_eq_true]),f27,i28⟩
   rintro ⟨σ52,H42,d53⟩ ⟨h43,h44,h45,h46,h47,h48,f49,i50⟩
   refine hJ _ ?_
   refine tk_cond (t:=(decide (v39 = 58)) && (!decide (x7_18 = ((⟨#[]⟩:ByteArray))))) h48 (fun g54=>?_) (fun g54=>?_)
   ·replace hm:=cond_t hm g54
    refine tk_os okM hok fun J hJ=>?_
    obtain ⟨H55,a56,f57,u58⟩:=st_ok (M:=Mt) (t:=59) (v:=(vAgg (ref06_Token.c (({ ref06_Token.zero with f_Kind:=14,f_Flags:=x7_18 }:ref06_Token))))) (c:=ref06_Token.c (({ ref06_Token.zero with f_Kind:=14,f_Flags:=x7_18 }:ref06_Token))) (cs':=ref06_Token.c (({ ref06_Token.zero with f_Kind:=14,f_Flags:=x7_18 }:ref06_Token))) f49 (by rw [ref06_Token.enc.len]; exact T.sz59) vAgg_cells (ref06_Token.enc.one _) (Nat.le_trans hcn r6) (le0 ref06_Token.enc.len) (wrs_all (eqL ref06_Token.enc.len))
    have i59:=i50.up u58 r6
    simp only [C.f41r7,R,Nat.reduceEqDiff,h45,bd59_0_6,h46,a56,h44]
    refine hJ _ ?_
    refine tk_ret okM ?_
    refine x41 _ _ (by simp) ?_
    refine x38 _ _ (by simp) (by simp) ?_
    refine x35 _ _ (by simp) ?_
    refine x21 _ _ (by simp) ?_
    refine x15 _ _ (by simp) (by simp) ?_
    refine x12 _ _ (by simp) ?_
    obtain rfl:=Option.some.inj hm
    exact end_flat (.inl rfl) (vs:=[(vAgg (ref06_Token.c (({ ref06_Token.zero with f_Kind:=14,f_Flags:=x7_18 }:ref06_Token)))),(.int .i64 (IntKind.i64.wrap (x8_19 + 1))),(.int .i64 (0))]) (resC' (v:=(vAgg (ref06_Token.c (({ ref06_Token.zero with f_Kind:=14,f_Flags:=x7_18 }:ref06_Token))))) h44 (ldv_of (ld_agg (M:=Mt) (t:=59) f57 T.ag59 (by rw [ref06_Token.enc.len]; exact T.sz59) Seg.refl)) (resT' (v:=(.int .i64 (IntKind.i64.wrap (x8_19 + 1)))) rfl (resT' (v:=(.int .i64 (0))) rfl resN))) (fm_cons (flat_agg ref06_Token.enc _) (fm_cons rfl (fm_cons rfl fm_nil)))
   ·replace hm:=cond_f hm g54
    refine tk_skip okM ?_
    refine n40 _ ?_
    refine tk_seq_k fun K n60 x61=>?_
    refine tk_os okM hok fun J hJ=>?_
    rw [C.f41r8]
    refine rn_app_k (fun ⟨σ,H,_⟩=>Lk σ 0 (.string (x0_16)) ∧ Lk σ 4 (.pointer (some ⟨b1,0,none⟩)) ∧ Lk σ 7 (.string (x7_18)) ∧ Lk σ 8 (.int .i64 (x8_19)) ∧ Lk σ 9 (.int .u8 (v39)) ∧ Lk σ 37 (.bool ((!decide (v39 = 105)) && (!decide (v39 = 109)))) ∧ H[b1]? = some (.cells (ref06_Token.c x17) 59) ∧ Iv c.nb [] H0 H) (fun J hJ=>?_) ?_
    ·skip
     cases g71:!decide (v39 = 105)
     ·skip
      simp only [C.f41r8p0,R,Nat.reduceEqDiff,h47,g71]
      refine hJ _ ?_
      exact ⟨h43,h44,h45,h46,h47,(by first | rfl | (simp only [g71]; rfl) | simp only [g71,Lk,RB,Nat.reduceEqDiff,not_false_eq_true]),f49,i50⟩
     ·skip
      simp only [C.f41r8p0,R,Nat.reduceEqDiff,h47,g71]
      refine hJ _ ?_
      exact ⟨h43,h44,h45,h46,h47,(by first | rfl | (simp only [g71]; rfl) | simp only [g71,Lk,RB,Nat.reduceEqDiff,not_false_eq_true]),f49,i50⟩
    rintro ⟨σ72,H62,d73⟩ ⟨h63,h64,h65,h66,h67,h68,f69,i70⟩
    refine rn_k (fun ⟨σ,H,_⟩=>Lk σ 0 (.string (x0_16)) ∧ Lk σ 4 (.pointer (some ⟨b1,0,none⟩)) ∧ Lk σ 7 (.string (x7_18)) ∧ Lk σ 8 (.int .i64 (x8_19)) ∧ Lk σ 9 (.int .u8 (v39)) ∧ Lk σ 41 (.bool (((!decide (v39 = 105)) && (!decide (v39 = 109))) && (!decide (v39 = 115)))) ∧ H[b1]? = some (.cells (ref06_Token.c x17) 59) ∧ Iv c.nb [] H0 H) (fun J hJ=>?_) ?_
    ·skip
     cases g83:(!decide (v39 = 105)) && (!decide (v39 = 109))
     ·skip
      simp only [C.f41r8p1,R,Nat.reduceEqDiff,h68,g83]
      refine hJ _ ?_
      exact ⟨h63,h64,h65,h66,h67,(by first | rfl | (simp only [g83]; rfl) | simp only [g83,Lk,RB,Nat.reduceEqDiff,not_false_eq_true]),f69,i70⟩
     ·skip
      simp only [C.f41r8p1,R,Nat.reduceEqDiff,h68,g83,h67]
      refine hJ _ ?_
      exact ⟨h63,h64,h65,h66,h67,(by first | rfl | (simp only [g83]; rfl) | simp only [g83,Lk,RB,Nat.reduceEqDiff,not_false_eq_true]),f69,i70⟩
    rintro ⟨σ84,H74,d85⟩ ⟨h75,h76,h77,h78,h79,h80,f81,i82⟩
    refine hJ _ ?_
    refine tk_cond (t:=((!decide (v39 = 105)) && (!decide (v39 = 109))) && (!decide (v39 = 115))) h80 (fun g86=>?_) (fun g86=>?_)
    ·replace hm:=cond_t hm g86
     refine tk_os okM hok fun J hJ=>?_
     obtain ⟨H87,a88,f89,u90⟩:=st_ok (M:=Mt) (t:=59) (v:=(vAgg (ref06_Token.c (ref06_Token.zero)))) (c:=ref06_Token.c ref06_Token.zero) (cs':=ref06_Token.c ref06_Token.zero) f81 (by rw [ref06_Token.enc.len]; exact T.sz59) vAgg_cells (ref06_Token.enc.one _) (Nat.le_trans hcn r6) (le0 ref06_Token.enc.len) (wrs_all (eqL ref06_Token.enc.len))
     have i91:=i82.up u90 r6
     simp only [C.f41r9,R,Nat.reduceEqDiff,bd59_,a88,h76]
     refine hJ _ ?_
     refine tk_ret okM ?_
     refine x61 _ _ (by simp) ?_
     refine x38 _ _ (by simp) (by simp) ?_
     refine x35 _ _ (by simp) ?_
     refine x21 _ _ (by simp) ?_
     refine x15 _ _ (by simp) (by simp) ?_
     refine x12 _ _ (by simp) ?_
     obtain rfl:=Option.some.inj hm
     exact end_flat (.inl rfl) (vs:=[(vAgg (ref06_Token.c (ref06_Token.zero))),(.int .i64 (0)),(.int .i64 (3))]) (resC' (v:=(vAgg (ref06_Token.c (ref06_Token.zero)))) h76 (ldv_of (ld_agg (M:=Mt) (t:=59) f89 T.ag59 (by rw [ref06_Token.enc.len]; exact T.sz59) Seg.refl)) (resT' (v:=(.int .i64 (0))) rfl (resT' (v:=(.int .i64 (3))) rfl resN))) (fm_cons (flat_agg ref06_Token.enc _) (fm_cons rfl (fm_cons rfl fm_nil)))
    ·replace hm:=cond_f hm g86
     refine tk_skip okM ?_
     refine n60 _ ?_
     refine tk_seq_k fun K n92 x93=>?_
     refine tk_os okM hok fun J hJ=>?_
     simp only [C.f41r10,R,Nat.reduceEqDiff]
     refine hJ _ ?_
     refine tk_block_k fun K n94 e95 x96=>?_
     refine tk_loop_k (n:=n) (fun k2 ⟨σ,H,_⟩=>∃ x0_97 x98 x7_99 x8_100 x9_101 x10_102,b_ref06_flags_2 n (b_ref06_flags_1 n k1) k2 x0_97 x98 x7_99 x8_100 x9_101 x10_102 = some r ∧ Lk σ 0 (.string x0_97) ∧ Lk σ 4 (.pointer (some ⟨b1,0,none⟩)) ∧ Lk σ 7 (.string x7_99) ∧ Lk σ 8 (.int .i64 x8_100) ∧ Lk σ 9 (.int .u8 x9_101) ∧ Lk σ 10 (.int .i64 x10_102) ∧ H[b1]? = some (.cells (ref06_Token.c x98) 59) ∧ Iv c.nb [] H0 H) ?_ ?_ ?_
     ·exact ⟨x0_16,x17,x7_18,x8_19,v39,0,hm,h75,h76,h77,h78,h79,rfl,f81,i82⟩
     ·rintro ⟨σ,H,d⟩ ⟨_,_,_,_,_,_,hm,_⟩
      cases hm
     ·intro k2 K n103 x104
      rintro ⟨σ114,H105,d115⟩ ⟨x0_97,x98,x7_99,x8_100,x9_101,x10_102,hm,h106,h107,h108,h109,h110,h111,f112,i113⟩
      rw [b_ref06_flags_2.eq_2] at hm
      refine tk_seq_k fun K n116 x117=>?_
      refine tk_os okM hok fun J hJ=>?_
      simp only [C.f41r11,R,Nat.reduceEqDiff,h111,h108,len_str (M:=Mt) Tryd.underlying9]
      refine hJ _ ?_
      refine tk_cond (t:=decide (x10_102 < ((x7_99.size:Int)))) rfl (fun g118=>?_) (fun g118=>?_)
      ·replace hm:=cond_t hm g118
       refine tk_skip okM ?_
       refine n116 _ ?_
       refine tk_seq_k fun K n119 x120=>?_
       refine tk_block_k fun K n121 e122 x123=>?_
       refine tk_os okM hok fun J hJ=>?_
       obtain ⟨v124,ev124,hm⟩:=bind_s hm
       simp only [C.f41r13,R,Nat.reduceEqDiff,h108,h111,idxP_str (M:=Mt) Tryd.underlying9,ev124,h110]
       refine hJ _ ?_
       refine tk_cond (t:=decide (v124 = x9_101)) rfl (fun g125=>?_) (fun g125=>?_)
       ·replace hm:=cond_t hm g125
        refine tk_os okM hok fun J hJ=>?_
        obtain ⟨H126,a127,f128,u129⟩:=st_ok (M:=Mt) (t:=59) (v:=(vAgg (ref06_Token.c (ref06_Token.zero)))) (c:=ref06_Token.c ref06_Token.zero) (cs':=ref06_Token.c ref06_Token.zero) f112 (by rw [ref06_Token.enc.len]; exact T.sz59) vAgg_cells (ref06_Token.enc.one _) (Nat.le_trans hcn r6) (le0 ref06_Token.enc.len) (wrs_all (eqL ref06_Token.enc.len))
        have i130:=i113.up u129 r6
        simp only [C.f41r14,R,Nat.reduceEqDiff,bd59_,a127,h107]
        refine hJ _ ?_
        refine tk_ret okM ?_
        refine x123 _ _ (by simp) (by simp) ?_
        refine x120 _ _ (by simp) ?_
        refine x104 _ _ (by simp) ?_
        refine x96 _ _ (by simp) (by simp) ?_
        refine x93 _ _ (by simp) ?_
        refine x38 _ _ (by simp) (by simp) ?_
        refine x35 _ _ (by simp) ?_
        refine x21 _ _ (by simp) ?_
        refine x15 _ _ (by simp) (by simp) ?_
        refine x12 _ _ (by simp) ?_
        obtain rfl:=Option.some.inj hm
        exact end_flat (.inl rfl) (vs:=[(vAgg (ref06_Token.c (ref06_Token.zero))),(.int .i64 (0)),(.int .i64 (3))]) (resC' (v:=(vAgg (ref06_Token.c (ref06_Token.zero)))) h107 (ldv_of (ld_agg (M:=Mt) (t:=59) f128 T.ag59 (by rw [ref06_Token.enc.len]; exact T.sz59) Seg.refl)) (resT' (v:=(.int .i64 (0))) rfl (resT' (v:=(.int .i64 (3))) rfl resN))) (fm_cons (flat_agg ref06_Token.enc _) (fm_cons rfl (fm_cons rfl fm_nil)))
       ·replace hm:=cond_f hm g125
        refine tk_skip okM ?_
        refine n121 _ ?_
        refine n119 _ ?_
        refine tk_oe okM hok fun J hJ=>?_
        simp only [C.f41r12,R,Nat.reduceEqDiff,h111]
        refine hJ _ ?_
        refine n103 _ ?_
        exact ⟨x0_97,x98,x7_99,x8_100,x9_101,IntKind.i64.wrap (x10_102 + 1),hm,h106,h107,h108,h109,h110,rfl,f112,i113⟩
      ·replace hm:=cond_f hm g118
       refine tk_exit okM ?_
       refine x117 _ _ (by simp) ?_
       refine x104 _ _ (by simp) ?_
       refine e95 _ ?_
       refine n92 _ ?_
       refine tk_oe okM hok fun J hJ=>?_
       obtain ⟨b131,H132,a133,f134,q135,r136,x137,i138⟩:=bs_ok (M:=Mt) (t:=43) (e:=5) (c:=(cInt .u8)) (l:=([x9_101]:List Int)) (ps:=[(0,(.int .u8 (x9_101)))]) (n:=1) H105 i113.le Tryd.underlying43 (zs5) rfl (by simp only [List.length_cons,List.length_nil]; decide) (fun _=>rfl) enc_int.one rfl rfl
       have i139:=i138 _ _ i113
       have f140:=x137 _ _ f112
       obtain ⟨v142,ev142,hm⟩:=bind_s hm
       simp only [C.f41r15,R,Nat.reduceEqDiff,h108,h110,a133,cv_b2s (M:=Mt) (t:=43) (u:=9) f134.h Tryd.underlying43 Tryd.underlying9 Tryd.underlying5,ev142]
       refine hJ _ ?_
       refine n36 _ ?_
       refine n34 _ ?_
       refine tk_oe okM hok fun J hJ=>?_
       simp only [C.f41r4,R,Nat.reduceEqDiff,h109]
       refine hJ _ ?_
       refine n20 _ ?_
       exact ⟨x0_97,x98,v142,IntKind.i64.wrap (x8_100 + 1),hm,h106,h107,rfl,rfl,f140,i139⟩
  ·replace hm:=cond_f hm g33
   refine tk_exit okM ?_
   refine x32 _ _ (by simp) ?_
   refine x21 _ _ (by simp) ?_
   refine e14 _ ?_
   refine n11 _ ?_
   refine tk_os okM hok fun J hJ=>?_
   obtain ⟨H143,a144,f145,u146⟩:=st_ok (M:=Mt) (t:=59) (v:=(vAgg (ref06_Token.c (ref06_Token.zero)))) (c:=ref06_Token.c ref06_Token.zero) (cs':=ref06_Token.c ref06_Token.zero) f27 (by rw [ref06_Token.enc.len]; exact T.sz59) vAgg_cells (ref06_Token.enc.one _) (Nat.le_trans hcn r6) (le0 ref06_Token.enc.len) (wrs_all (eqL ref06_Token.enc.len))
   have i147:=i28.up u146 r6
   simp only [C.f41r16,R,Nat.reduceEqDiff,bd59_,a144,h24]
   refine hJ _ ?_
   refine tk_ret okM ?_
   obtain rfl:=Option.some.inj hm
   exact end_flat (.inl rfl) (vs:=[(vAgg (ref06_Token.c (ref06_Token.zero))),(.int .i64 (0)),(.int .i64 (3))]) (resC' (v:=(vAgg (ref06_Token.c (ref06_Token.zero)))) h24 (ldv_of (ld_agg (M:=Mt) (t:=59) f145 T.ag59 (by rw [ref06_Token.enc.len]; exact T.sz59) Seg.refl)) (resT' (v:=(.int .i64 (0))) rfl (resT' (v:=(.int .i64 (3))) rfl resN))) (fm_cons (flat_agg ref06_Token.enc _) (fm_cons rfl (fm_cons rfl fm_nil)))
def b_ref06_quant_4 (c_ref06_starts:T_ref06_starts) (c_ref06_braces:T_ref06_braces) (n:Nat) (x74:ref06_Token) (x75:ref06_Token) (x8_76:Int):Option (ref06_Token × Int × Int):=some (x75,x8_76,0)
def b_ref06_quant_3 (c_ref06_starts:T_ref06_starts) (c_ref06_braces:T_ref06_braces) (n:Nat) (x0_60:ByteArray) (x61:ref06_Token) (x62:ref06_Token) (x8_63:Int):Option (ref06_Token × Int × Int):=(c_ref06_starts x0_60 x8_63 ((⟨#[63]⟩:ByteArray))).bind fun v96=>bif v96 then (b_ref06_quant_4 c_ref06_starts c_ref06_braces n x61 ({ x62 with f_Mode:=1 }) (IntKind.i64.wrap (x8_63 + 1))) else ((c_ref06_starts x0_60 x8_63 ((⟨#[43]⟩:ByteArray))).bind fun v105=>bif v105 then (b_ref06_quant_4 c_ref06_starts c_ref06_braces n x61 ({ x62 with f_Mode:=2 }) (IntKind.i64.wrap (x8_63 + 1))) else (b_ref06_quant_4 c_ref06_starts c_ref06_braces n x61 x62 x8_63))
def b_ref06_quant_2 (c_ref06_starts:T_ref06_starts) (c_ref06_braces:T_ref06_braces) (n:Nat) (x0_44:ByteArray) (x1_45:Int) (x46:ref06_Token) (x47:ref06_Token) (x8_48:Int):Option (ref06_Token × Int × Int):=(bt x0_44 x1_45).bind fun v115=>bif decide (v115 = 123) then ((c_ref06_braces x0_44 x1_45).bind fun v118=>bif !decide (v118.2.2 = 0) then (some (ref06_Token.zero,0,v118.2.2)) else (b_ref06_quant_3 c_ref06_starts c_ref06_braces n x0_44 x46 v118.1 v118.2.1)) else (b_ref06_quant_3 c_ref06_starts c_ref06_braces n x0_44 x46 x47 x8_48)
def b_ref06_quant_1 (c_ref06_starts:T_ref06_starts) (c_ref06_braces:T_ref06_braces) (n:Nat) (x0_28:ByteArray) (x1_29:Int) (x30:ref06_Token) (x31:ref06_Token) (x8_32:Int):Option (ref06_Token × Int × Int):=(bt x0_28 x1_29).bind fun v158=>bif decide (v158 = 63) then (b_ref06_quant_2 c_ref06_starts c_ref06_braces n x0_28 x1_29 x30 ({ x31 with f_Max:=1 }) x8_32) else (b_ref06_quant_2 c_ref06_starts c_ref06_braces n x0_28 x1_29 x30 x31 x8_32)
def b_ref06_quant (c_ref06_starts:T_ref06_starts) (c_ref06_braces:T_ref06_braces) (n:Nat) (x0:ByteArray) (x1:Int):Option (ref06_Token × Int × Int):=(bt x0 x1).bind fun v168=>bif decide (v168 = 43) then (b_ref06_quant_1 c_ref06_starts c_ref06_braces n x0 x1 ref06_Token.zero ({ ({ ref06_Token.zero with f_Kind:=16,f_Max:=(-1) }:ref06_Token) with f_Min:=1 }) (IntKind.i64.wrap (x1 + 1))) else (b_ref06_quant_1 c_ref06_starts c_ref06_braces n x0 x1 ref06_Token.zero (({ ref06_Token.zero with f_Kind:=16,f_Max:=(-1) }:ref06_Token)) (IntKind.i64.wrap (x1 + 1)))
theorem w_ref06_quant {call:CallF} (hok:CallOk Mt call) {n:Nat} {c_ref06_starts:T_ref06_starts} (ha_ref06_starts:A_ref06_starts call c_ref06_starts) {c_ref06_braces:T_ref06_braces} (ha_ref06_braces:A_ref06_braces call c_ref06_braces) {H0:Hp} {x0:ByteArray} {x1:Int} {r:ref06_Token × Int × Int} {ro:Nat} (hro:ro ≤ H0.length) (hm:b_ref06_quant c_ref06_starts c_ref06_braces n x0 x1 = some r) :
  Pt Mt ro 42 [(.string x0),(.int .i64 x1)] H0 (.tuple [(vAgg (ref06_Token.c (r.1))),(.int .i64 (r.2.1)),(.int .i64 (r.2.2))].toArray) H0 []:=by
 refine pt_new0 okM F42d (by exact Nat.le_of_ble_eq_true rfl) ?_ hro
 intro c hnt hnb hcr
 have hcn:c.ro ≤ c.nb:=by omega
 have iv:Iv c.nb [] H0 H0:=by rw [hnb]; exact iv_refl
 rw [show args0 [(.string x0),(.int .i64 x1)] = [(0,(.string x0)),(1,(.int .i64 x1))] from rfl]
 rw [b_ref06_quant] at hm
 simp only [C.f42]
 refine tk_os okM hok fun J hJ=>?_
 obtain ⟨b1,H2,a3,f4,q5,r6,x7,i8⟩:=al_ok H0 59 (ref06_Token.c ref06_Token.zero) iv.le
 have i9:=i8 _ _ iv
 simp only [C.f42r0,R,Nat.reduceEqDiff,zs59,a3]
 refine hJ _ ?_
 refine tk_os okM hok fun J hJ=>?_
 obtain ⟨b11,H12,a13,f14,q15,r16,x17,i18⟩:=al_ok H2 59 (ref06_Token.c ref06_Token.zero) i9.le
 have i19:=i18 _ _ i9
 have f20:=x17 _ _ f4
 obtain ⟨H22,a23,f24,u25⟩:=st_ok (M:=Mt) (t:=59) (v:=(vAgg (ref06_Token.c (({ ref06_Token.zero with f_Kind:=16,f_Max:=(-1) }:ref06_Token))))) (c:=ref06_Token.c (({ ref06_Token.zero with f_Kind:=16,f_Max:=(-1) }:ref06_Token))) (cs':=ref06_Token.c (({ ref06_Token.zero with f_Kind:=16,f_Max:=(-1) }:ref06_Token))) f14 (by rw [ref06_Token.enc.len]; exact T.sz59) vAgg_cells (ref06_Token.enc.one _) (Nat.le_trans hcn r16) (le0 ref06_Token.enc.len) (wrs_all (eqL ref06_Token.enc.len))
 have i26:=i19.up u25 r16
 have f27:=(u25.get _ (ne_len f4 q15)).trans f20
 simp only [C.f42r1,R,Nat.reduceEqDiff,bd59_0_3,zs59,a13,a23]
 refine hJ _ ?_
 refine tk_seq_j (fun ⟨σ,H,_⟩=>∃ x0_28 x1_29 x30 x31 x8_32,b_ref06_quant_1 c_ref06_starts c_ref06_braces n x0_28 x1_29 x30 x31 x8_32 = some r ∧ Lk σ 0 (.string x0_28) ∧ Lk σ 1 (.int .i64 x1_29) ∧ Lk σ 4 (.pointer (some ⟨b1,0,none⟩)) ∧ Lk σ 7 (.pointer (some ⟨b11,0,none⟩)) ∧ Lk σ 8 (.int .i64 x8_32) ∧ H[b1]? = some (.cells (ref06_Token.c x30) 59) ∧ H[b11]? = some (.cells (ref06_Token.c x31) 59) ∧ Iv c.nb [] H0 H) ?_ ?_
 ·skip
  rintro ⟨σ42,H33,d43⟩ ⟨x0_28,x1_29,x30,x31,x8_32,hm,h34,h35,h36,h37,h38,f39,f40,i41⟩
  rw [b_ref06_quant_1] at hm
  refine tk_seq_j (fun ⟨σ,H,_⟩=>∃ x0_44 x1_45 x46 x47 x8_48,b_ref06_quant_2 c_ref06_starts c_ref06_braces n x0_44 x1_45 x46 x47 x8_48 = some r ∧ Lk σ 0 (.string x0_44) ∧ Lk σ 1 (.int .i64 x1_45) ∧ Lk σ 4 (.pointer (some ⟨b1,0,none⟩)) ∧ Lk σ 7 (.pointer (some ⟨b11,0,none⟩)) ∧ Lk σ 8 (.int .i64 x8_48) ∧ H[b1]? = some (.cells (ref06_Token.c x46) 59) ∧ H[b11]? = some (.cells (ref06_Token.c x47) 59) ∧ Iv c.nb [] H0 H) ?_ ?_
  ·skip
   rintro ⟨σ58,H49,d59⟩ ⟨x0_44,x1_45,x46,x47,x8_48,hm,h50,h51,h52,h53,h54,f55,f56,i57⟩
   rw [b_ref06_quant_2] at hm
   refine tk_seq_j (fun ⟨σ,H,_⟩=>∃ x0_60 x61 x62 x8_63,b_ref06_quant_3 c_ref06_starts c_ref06_braces n x0_60 x61 x62 x8_63 = some r ∧ Lk σ 0 (.string x0_60) ∧ Lk σ 4 (.pointer (some ⟨b1,0,none⟩)) ∧ Lk σ 7 (.pointer (some ⟨b11,0,none⟩)) ∧ Lk σ 8 (.int .i64 x8_63) ∧ H[b1]? = some (.cells (ref06_Token.c x61) 59) ∧ H[b11]? = some (.cells (ref06_Token.c x62) 59) ∧ Iv c.nb [] H0 H) ?_ ?_
   ·skip
    rintro ⟨σ72,H64,d73⟩ ⟨x0_60,x61,x62,x8_63,hm,h65,h66,h67,h68,f69,f70,i71⟩
    rw [b_ref06_quant_3] at hm
    refine tk_seq_j (fun ⟨σ,H,_⟩=>∃ x74 x75 x8_76,b_ref06_quant_4 c_ref06_starts c_ref06_braces n x74 x75 x8_76 = some r ∧ Lk σ 4 (.pointer (some ⟨b1,0,none⟩)) ∧ Lk σ 7 (.pointer (some ⟨b11,0,none⟩)) ∧ Lk σ 8 (.int .i64 x8_76) ∧ H[b1]? = some (.cells (ref06_Token.c x74) 59) ∧ H[b11]? = some (.cells (ref06_Token.c x75) 59) ∧ Iv c.nb [] H0 H) ?_ ?_
    ·skip
     rintro ⟨σ84,H77,d85⟩ ⟨x74,x75,x8_76,hm,h78,h79,h80,f81,f82,i83⟩
     rw [b_ref06_quant_4] at hm
     refine tk_os okM hok fun J hJ=>?_
     have a86:=ld_agg (M:=Mt) (t:=59) f82 T.ag59 (by rw [ref06_Token.enc.len]; exact T.sz59) Seg.refl
     obtain ⟨H87,a88,f89,u90⟩:=st_ok (M:=Mt) (t:=59) (v:=(vAgg (ref06_Token.c (x75)))) (c:=ref06_Token.c x75) (cs':=ref06_Token.c x75) f81 (by rw [ref06_Token.enc.len]; exact T.sz59) vAgg_cells (ref06_Token.enc.one _) (Nat.le_trans hcn r6) (le0 ref06_Token.enc.len) (wrs_all (eqL ref06_Token.enc.len))
     have i91:=i83.up u90 r6
     have f92:=(u90.get _ (ne_len f4 q15).symm).trans f82
     simp only [C.f42r18,R,Nat.reduceEqDiff,a86,h79,h80,a88,h78]
     refine hJ _ ?_
     refine tk_ret okM ?_
     obtain rfl:=Option.some.inj hm
     exact end_flat (.inl rfl) (vs:=[(vAgg (ref06_Token.c (x75))),(.int .i64 (x8_76)),(.int .i64 (0))]) (resC' (v:=(vAgg (ref06_Token.c (x75)))) h78 (ldv_of (ld_agg (M:=Mt) (t:=59) f89 T.ag59 (by rw [ref06_Token.enc.len]; exact T.sz59) Seg.refl)) (resT' (v:=(.int .i64 (x8_76))) rfl (resT' (v:=(.int .i64 (0))) rfl resN))) (fm_cons (flat_agg ref06_Token.enc _) (fm_cons rfl (fm_cons rfl fm_nil)))
    ·refine fun K n93 x94=>?_
     refine tk_os okM hok fun J hJ=>?_
     obtain ⟨v96,ev96,hm⟩:=bind_s hm
     have a95:=ha_ref06_starts c.ro H64 x0_60 x8_63 ((⟨#[63]⟩:ByteArray)) v96 ev96
     simp only [C.f42r12,R,Nat.reduceEqDiff,h65,h68,c_fn F28,a95]
     refine hJ _ ?_
     refine tk_cond (t:=v96) rfl (fun g97=>?_) (fun g97=>?_)
     ·replace hm:=cond_t hm g97
      refine tk_os okM hok fun J hJ=>?_
      obtain ⟨H98,a99,f100,u101⟩:=st_ok (M:=Mt) (t:=3) (v:=(.int .i64 (1))) (c:=(cInt .i64) 1) (cs':=ref06_Token.c ({ x62 with f_Mode:=1 })) f70 (by rw [enc_int.len]; exact T.sz3) rfl (enc_int.one _) (Nat.le_trans hcn r16) (Nat.le_trans (Nat.le_of_eq (congrArg _ (eqL enc_int.len))) (Seg.refl.sub (ref06_Token.seg4 x62)).2) (by rw [Nat.zero_add,ref06_Token.wr4 x62 1])
      have i102:=i71.up u101 r16
      have f103:=(u101.get _ (ne_len f4 q15)).trans f69
      simp only [C.f42r13,R,Nat.reduceEqDiff,fa59_4,h67,a99]
      refine hJ _ ?_
      refine tk_oe okM hok fun J hJ=>?_
      simp only [C.f42r14,R,Nat.reduceEqDiff,h68]
      refine hJ _ ?_
      refine n93 _ ?_
      exact ⟨x61,{ x62 with f_Mode:=1 },IntKind.i64.wrap (x8_63 + 1),hm,h66,h67,rfl,f103,f100,i102⟩
     ·replace hm:=cond_f hm g97
      refine tk_os okM hok fun J hJ=>?_
      obtain ⟨v105,ev105,hm⟩:=bind_s hm
      have a104:=ha_ref06_starts c.ro H64 x0_60 x8_63 ((⟨#[43]⟩:ByteArray)) v105 ev105
      simp only [C.f42r15,R,Nat.reduceEqDiff,h65,h68,c_fn F28,a104]
      refine hJ _ ?_
      refine tk_cond (t:=v105) rfl (fun g106=>?_) (fun g106=>?_)
      ·replace hm:=cond_t hm g106
       refine tk_os okM hok fun J hJ=>?_
       obtain ⟨H107,a108,f109,u110⟩:=st_ok (M:=Mt) (t:=3) (v:=(.int .i64 (2))) (c:=(cInt .i64) 2) (cs':=ref06_Token.c ({ x62 with f_Mode:=2 })) f70 (by rw [enc_int.len]; exact T.sz3) rfl (enc_int.one _) (Nat.le_trans hcn r16) (Nat.le_trans (Nat.le_of_eq (congrArg _ (eqL enc_int.len))) (Seg.refl.sub (ref06_Token.seg4 x62)).2) (by rw [Nat.zero_add,ref06_Token.wr4 x62 2])
       have i111:=i71.up u110 r16
       have f112:=(u110.get _ (ne_len f4 q15)).trans f69
       simp only [C.f42r16,R,Nat.reduceEqDiff,fa59_4,h67,a108]
       refine hJ _ ?_
       refine tk_oe okM hok fun J hJ=>?_
       simp only [C.f42r17,R,Nat.reduceEqDiff,h68]
       refine hJ _ ?_
       refine n93 _ ?_
       exact ⟨x61,{ x62 with f_Mode:=2 },IntKind.i64.wrap (x8_63 + 1),hm,h66,h67,rfl,f112,f109,i111⟩
      ·replace hm:=cond_f hm g106
       refine tk_skip okM ?_
       refine n93 _ ?_
       exact ⟨x61,x62,x8_63,hm,h66,h67,h68,f69,f70,i71⟩
   ·refine fun K n113 x114=>?_
    refine tk_os okM hok fun J hJ=>?_
    obtain ⟨v115,ev115,hm⟩:=bind_s hm
    simp only [C.f42r6,R,Nat.reduceEqDiff,h50,h51,idxP_str (M:=Mt) Tryd.underlying9,ev115]
    refine hJ _ ?_
    refine tk_cond (t:=decide (v115 = 123)) rfl (fun g116=>?_) (fun g116=>?_)
    ·replace hm:=cond_t hm g116
     refine tk_os okM hok fun J hJ=>?_
     obtain ⟨v118,ev118,hm⟩:=bind_s hm
     have a117:=ha_ref06_braces c.ro H49 x0_44 x1_45 v118 ev118
     obtain ⟨b119,H120,a121,f122,q123,r124,x125,i126⟩:=al_ok H49 59 (ref06_Token.c ref06_Token.zero) i57.le
     have i127:=i126 _ _ i57
     have f128:=x125 _ _ f55
     have f129:=x125 _ _ f56
     obtain ⟨H131,a132,f133,u134⟩:=st_ok (M:=Mt) (t:=59) (v:=(vAgg (ref06_Token.c (v118.1)))) (c:=ref06_Token.c v118.1) (cs':=ref06_Token.c v118.1) f122 (by rw [ref06_Token.enc.len]; exact T.sz59) vAgg_cells (ref06_Token.enc.one _) (Nat.le_trans hcn r124) (le0 ref06_Token.enc.len) (wrs_all (eqL ref06_Token.enc.len))
     have i135:=i127.up u134 r124
     have f136:=(u134.get _ (ne_len f55 q123)).trans f128
     have f137:=(u134.get _ (ne_len f56 q123)).trans f129
     simp only [C.f42r7,R,Nat.reduceEqDiff,h50,h51,c_fn F54,a117,zs59,a121,a132]
     refine hJ _ ?_
     refine tk_seq_k fun K n138 x139=>?_
     refine tk_os okM hok fun J hJ=>?_
     simp only [C.f42r8,R,Nat.reduceEqDiff]
     refine hJ _ ?_
     refine tk_cond (t:=!decide (v118.2.2 = 0)) rfl (fun g140=>?_) (fun g140=>?_)
     ·replace hm:=cond_t hm g140
      refine tk_os okM hok fun J hJ=>?_
      obtain ⟨H141,a142,f143,u144⟩:=st_ok (M:=Mt) (t:=59) (v:=(vAgg (ref06_Token.c (ref06_Token.zero)))) (c:=ref06_Token.c ref06_Token.zero) (cs':=ref06_Token.c ref06_Token.zero) f136 (by rw [ref06_Token.enc.len]; exact T.sz59) vAgg_cells (ref06_Token.enc.one _) (Nat.le_trans hcn r6) (le0 ref06_Token.enc.len) (wrs_all (eqL ref06_Token.enc.len))
      have i145:=i135.up u144 r6
      have f146:=(u144.get _ (ne_len f4 q15).symm).trans f137
      have f147:=(u144.get _ (ne_len f55 q123).symm).trans f133
      simp only [C.f42r9,R,Nat.reduceEqDiff,bd59_,a142,h52]
      refine hJ _ ?_
      refine tk_ret okM ?_
      refine x139 _ _ (by simp) ?_
      refine x114 _ _ (by simp) ?_
      obtain rfl:=Option.some.inj hm
      exact end_flat (.inl rfl) (vs:=[(vAgg (ref06_Token.c (ref06_Token.zero))),(.int .i64 (0)),(.int .i64 (v118.2.2))]) (resC' (v:=(vAgg (ref06_Token.c (ref06_Token.zero)))) h52 (ldv_of (ld_agg (M:=Mt) (t:=59) f143 T.ag59 (by rw [ref06_Token.enc.len]; exact T.sz59) Seg.refl)) (resT' (v:=(.int .i64 (0))) rfl (resT' (v:=(.int .i64 (v118.2.2))) rfl resN))) (fm_cons (flat_agg ref06_Token.enc _) (fm_cons rfl (fm_cons rfl fm_nil)))
     ·replace hm:=cond_f hm g140
      refine tk_skip okM ?_
      refine n138 _ ?_
      refine tk_os okM hok fun J hJ=>?_
      have a148:=ld_agg (M:=Mt) (t:=59) f133 T.ag59 (by rw [ref06_Token.enc.len]; exact T.sz59) Seg.refl
      obtain ⟨H149,a150,f151,u152⟩:=st_ok (M:=Mt) (t:=59) (v:=(vAgg (ref06_Token.c (v118.1)))) (c:=ref06_Token.c v118.1) (cs':=ref06_Token.c v118.1) f137 (by rw [ref06_Token.enc.len]; exact T.sz59) vAgg_cells (ref06_Token.enc.one _) (Nat.le_trans hcn r16) (le0 ref06_Token.enc.len) (wrs_all (eqL ref06_Token.enc.len))
      have i153:=i135.up u152 r16
      have f154:=(u152.get _ (ne_len f4 q15)).trans f136
      have f155:=(u152.get _ (ne_len f56 q123).symm).trans f133
      simp only [C.f42r10,R,Nat.reduceEqDiff,a148,a150,h53]
      refine hJ _ ?_
      refine tk_oe okM hok fun J hJ=>?_
      simp only [C.f42r11,R,Nat.reduceEqDiff]
      refine hJ _ ?_
      refine n113 _ ?_
      exact ⟨x0_44,x46,v118.1,v118.2.1,hm,h50,h52,h53,rfl,f154,f151,i153⟩
    ·replace hm:=cond_f hm g116
     refine tk_skip okM ?_
     refine n113 _ ?_
     exact ⟨x0_44,x46,x47,x8_48,hm,h50,h52,h53,h54,f55,f56,i57⟩
  ·refine fun K n156 x157=>?_
   refine tk_os okM hok fun J hJ=>?_
   obtain ⟨v158,ev158,hm⟩:=bind_s hm
   simp only [C.f42r4,R,Nat.reduceEqDiff,h34,h35,idxP_str (M:=Mt) Tryd.underlying9,ev158]
   refine hJ _ ?_
   refine tk_cond (t:=decide (v158 = 63)) rfl (fun g159=>?_) (fun g159=>?_)
   ·replace hm:=cond_t hm g159
    refine tk_oe okM hok fun J hJ=>?_
    obtain ⟨H160,a161,f162,u163⟩:=st_ok (M:=Mt) (t:=3) (v:=(.int .i64 (1))) (c:=(cInt .i64) 1) (cs':=ref06_Token.c ({ x31 with f_Max:=1 })) f40 (by rw [enc_int.len]; exact T.sz3) rfl (enc_int.one _) (Nat.le_trans hcn r16) (Nat.le_trans (Nat.le_of_eq (congrArg _ (eqL enc_int.len))) (Seg.refl.sub (ref06_Token.seg3 x31)).2) (by rw [Nat.zero_add,ref06_Token.wr3 x31 1])
    have i164:=i41.up u163 r16
    have f165:=(u163.get _ (ne_len f4 q15)).trans f39
    simp only [C.f42r5,R,Nat.reduceEqDiff,fa59_3,h37,a161]
    refine hJ _ ?_
    refine n156 _ ?_
    exact ⟨x0_28,x1_29,x30,{ x31 with f_Max:=1 },x8_32,hm,h34,h35,h36,h37,h38,f165,f162,i164⟩
   ·replace hm:=cond_f hm g159
    refine tk_skip okM ?_
    refine n156 _ ?_
    exact ⟨x0_28,x1_29,x30,x31,x8_32,hm,h34,h35,h36,h37,h38,f39,f40,i41⟩
 ·refine fun K n166 x167=>?_
  refine tk_os okM hok fun J hJ=>?_
  obtain ⟨v168,ev168,hm⟩:=bind_s hm
  simp only [C.f42r2,R,Nat.reduceEqDiff,idxP_str (M:=Mt) Tryd.underlying9,ev168]
  refine hJ _ ?_
  refine tk_cond (t:=decide (v168 = 43)) rfl (fun g169=>?_) (fun g169=>?_)
  ·replace hm:=cond_t hm g169
   refine tk_oe okM hok fun J hJ=>?_
   obtain ⟨H170,a171,f172,u173⟩:=st_ok (M:=Mt) (t:=3) (v:=(.int .i64 (1))) (c:=(cInt .i64) 1) (cs':=ref06_Token.c ({ ({ ref06_Token.zero with f_Kind:=16,f_Max:=(-1) }:ref06_Token) with f_Min:=1 })) f24 (by rw [enc_int.len]; exact T.sz3) rfl (enc_int.one _) (Nat.le_trans hcn r16) (Nat.le_trans (Nat.le_of_eq (congrArg _ (eqL enc_int.len))) (Seg.refl.sub (ref06_Token.seg2 (({ ref06_Token.zero with f_Kind:=16,f_Max:=(-1) }:ref06_Token)))).2) (by rw [Nat.zero_add,ref06_Token.wr2 (({ ref06_Token.zero with f_Kind:=16,f_Max:=(-1) }:ref06_Token)) 1])
   have i174:=i26.up u173 r16
   have f175:=(u173.get _ (ne_len f4 q15)).trans f27
   simp only [C.f42r3,R,Nat.reduceEqDiff,fa59_2,a171]
   refine hJ _ ?_
   refine n166 _ ?_
   exact ⟨x0,x1,ref06_Token.zero,{ ({ ref06_Token.zero with f_Kind:=16,f_Max:=(-1) }:ref06_Token) with f_Min:=1 },IntKind.i64.wrap (x1 + 1),hm,rfl,rfl,rfl,rfl,rfl,f175,f172,i174⟩
  ·replace hm:=cond_f hm g169
   refine tk_skip okM ?_
   refine n166 _ ?_
   exact ⟨x0,x1,ref06_Token.zero,({ ref06_Token.zero with f_Kind:=16,f_Max:=(-1) }:ref06_Token),IntKind.i64.wrap (x1 + 1),hm,rfl,rfl,rfl,rfl,rfl,f27,f24,i26⟩
def b_ref06_one (c_ref01_Range:T_ref01_Range) (n:Nat) (x0:Int):Option (ref01_Set):=(c_ref01_Range x0 x0).bind fun v12=>some v12
theorem w_ref06_one {call:CallF} (hok:CallOk Mt call) {n:Nat} {c_ref01_Range:T_ref01_Range} (ha_ref01_Range:A_ref01_Range call c_ref01_Range) {H0:Hp} {x0:Int} {r:ref01_Set} {ro:Nat} (hro:ro ≤ H0.length) (hm:b_ref06_one c_ref01_Range n x0 = some r) :
  Pt Mt ro 43 [(.int .u8 x0)] H0 (vAgg (ref01_Set.c (r))) H0 []:=by
 refine pt_new0 okM F43d (by exact Nat.le_of_ble_eq_true rfl) ?_ hro
 intro c hnt hnb hcr
 have hcn:c.ro ≤ c.nb:=by omega
 have iv:Iv c.nb [] H0 H0:=by rw [hnb]; exact iv_refl
 rw [show args0 [(.int .u8 x0)] = [(0,(.int .u8 x0))] from rfl]
 rw [b_ref06_one] at hm
 simp only [C.f43]
 refine tk_os okM hok fun J hJ=>?_
 obtain ⟨b1,H2,a3,f4,q5,r6,x7,i8⟩:=al_ok H0 68 (ref01_Set.c ref01_Set.zero) iv.le
 have i9:=i8 _ _ iv
 simp only [C.f43r0,R,Nat.reduceEqDiff,zs68,a3]
 refine hJ _ ?_
 refine tk_os okM hok fun J hJ=>?_
 obtain ⟨v12,ev12,hm⟩:=bind_s hm
 have a11:=ha_ref01_Range c.ro H2 x0 x0 v12 ev12
 obtain ⟨H13,a14,f15,u16⟩:=st_ok (M:=Mt) (t:=68) (v:=(vAgg (ref01_Set.c (v12)))) (c:=ref01_Set.c v12) (cs':=ref01_Set.c v12) f4 (by rw [ref01_Set.enc.len]; exact T.sz68) vAgg_cells (ref01_Set.enc.one _) (Nat.le_trans hcn r6) (le0 ref01_Set.enc.len) (wrs_all (eqL ref01_Set.enc.len))
 have i17:=i9.up u16 r6
 simp only [C.f43r1,R,Nat.reduceEqDiff,c_fn F32,a11,a14]
 refine hJ _ ?_
 refine tk_ret okM ?_
 obtain rfl:=Option.some.inj hm
 exact end_flat (.inl rfl) (vs:=[(vAgg (ref01_Set.c (v12)))]) (resC' (v:=(vAgg (ref01_Set.c (v12)))) rfl (ldv_of (ld_agg (M:=Mt) (t:=68) f15 T.ag68 (by rw [ref01_Set.enc.len]; exact T.sz68) Seg.refl)) resN) (fm_cons (flat_agg ref01_Set.enc _) fm_nil)
def b_ref06_escape_1 (c_ref01_Range:T_ref01_Range) (c_ref01_Not:T_ref01_Not) (c_ref06_one:T_ref06_one) (c_ref06_word:T_ref06_word) (c_ref06_space:T_ref06_space) (c_ref06_Digit:T_ref06_Digit) (n:Nat):Nat → ByteArray → Int → ref01_Set → ref01_Set → Int → Int → ByteArray → Sl ref01_Set → Int → Option (ref01_Set × Int)
 | 0,_,_,_,_,_,_,_,_,_=>none
 | k + 1,x0_81,x1_82,x83,x84,x7_85,x8_86,x9_87,l88,x11_90=>bif decide (x11_90 < ((x9_87.size:Int))) then ((bt x9_87 x11_90).bind fun v120=>bif decide (v120 = x7_85) then ((ck (Sl.l l88).length x11_90).bind fun j122=>some (Sl.nth l88 j122,x8_86)) else (b_ref06_escape_1 c_ref01_Range c_ref01_Not c_ref06_one c_ref06_word c_ref06_space c_ref06_Digit n k x0_81 x1_82 x83 x84 x7_85 x8_86 x9_87 l88 (IntKind.i64.wrap (x11_90 + 1)))) else ((bif (decide (x7_85 = 120)) && (decide ((IntKind.i64.wrap (x1_82 + 3)) < ((x0_81.size:Int)))) then ((bt x0_81 (IntKind.i64.wrap (x1_82 + 2))).bind fun v149=>(c_ref06_Digit v149).bind fun v151=>some (decide (0 ≤ v151))) else some false).bind fun y152=>(bif y152 then ((bt x0_81 (IntKind.i64.wrap (x1_82 + 3))).bind fun v170=>(c_ref06_Digit v170).bind fun v172=>some (decide (0 ≤ v172))) else some false).bind fun y173=>bif y173 then ((bt x0_81 (IntKind.i64.wrap (x1_82 + 2))).bind fun v192=>(c_ref06_Digit v192).bind fun v194=>(bt x0_81 (IntKind.i64.wrap (x1_82 + 3))).bind fun v195=>(c_ref06_Digit v195).bind fun v197=>(c_ref06_one (IntKind.u8.wrap (IntKind.i64.wrap ((IntKind.i64.wrap (16 * v194)) + v197)))).bind fun v199=>some (v199,IntKind.i64.wrap (x1_82 + 4))) else ((c_ref06_word).bind fun v207=>(bif decide (x7_85 = 95) then some true else ((ck 256 (IntKind.i64.wrap x7_85)).bind fun j229=>some (!(v207.f_In.nth j229)))).bind fun y231=>bif y231 then ((c_ref06_one x7_85).bind fun v248=>some (v248,x8_86)) else (some (x84,0))))
def b_ref06_escape (c_ref01_Range:T_ref01_Range) (c_ref01_Not:T_ref01_Not) (c_ref06_one:T_ref06_one) (c_ref06_word:T_ref06_word) (c_ref06_space:T_ref06_space) (c_ref06_Digit:T_ref06_Digit) (n:Nat) (x0:ByteArray) (x1:Int):Option (ref01_Set × Int):=bif decide (((x0.size:Int)) ≤ (IntKind.i64.wrap (x1 + 1))) then (some (ref01_Set.zero,0)) else ((bt x0 (IntKind.i64.wrap (x1 + 1))).bind fun v38=>(c_ref01_Range 48 57).bind fun v40=>(c_ref01_Not v40).bind fun v43=>(c_ref06_word).bind fun v45=>(c_ref01_Not v45).bind fun v48=>(c_ref06_space).bind fun v50=>(c_ref01_Not v50).bind fun v53=>(c_ref06_one 10).bind fun v55=>(c_ref06_one 9).bind fun v57=>(c_ref06_one 13).bind fun v59=>(c_ref06_one 12).bind fun v61=>(c_ref06_one 11).bind fun v63=>b_ref06_escape_1 c_ref01_Range c_ref01_Not c_ref06_one c_ref06_word c_ref06_space c_ref06_Digit n n x0 x1 ref01_Set.zero ref01_Set.zero v38 (IntKind.i64.wrap (x1 + 2)) ((⟨#[100,68,119,87,115,83,110,116,114,102,118]⟩:ByteArray)) (some ([v40,v43,v45,v48,v50,v53,v55,v57,v59,v61,v63]:List ref01_Set)) 0)
theorem w_ref06_escape {call:CallF} (hok:CallOk Mt call) {n:Nat} {c_ref01_Range:T_ref01_Range} (ha_ref01_Range:A_ref01_Range call c_ref01_Range) {c_ref01_Not:T_ref01_Not} (ha_ref01_Not:A_ref01_Not call c_ref01_Not) {c_ref06_one:T_ref06_one} (ha_ref06_one:A_ref06_one call c_ref06_one) {c_ref06_word:T_ref06_word} (ha_ref06_word:A_ref06_word call c_ref06_word) {c_ref06_space:T_ref06_space} (ha_ref06_space:A_ref06_space call c_ref06_space) {c_ref06_Digit:T_ref06_Digit} (ha_ref06_Digit:A_ref06_Digit call c_ref06_Digit) {H0:Hp} {x0:ByteArray} {x1:Int} {r:ref01_Set × Int} {ro:Nat} (hro:ro ≤ H0.length) (hm:b_ref06_escape c_ref01_Range c_ref01_Not c_ref06_one c_ref06_word c_ref06_space c_ref06_Digit n x0 x1 = some r) :
  Pt Mt ro 44 [(.string x0),(.int .i64 x1)] H0 (.tuple [(vAgg (ref01_Set.c (r.1))),(.int .i64 (r.2))].toArray) H0 []:=by
 refine pt_new0 okM F44d (by exact Nat.le_of_ble_eq_true rfl) ?_ hro
 intro c hnt hnb hcr
 have hcn:c.ro ≤ c.nb:=by omega
 have iv:Iv c.nb [] H0 H0:=by rw [hnb]; exact iv_refl
 rw [show args0 [(.string x0),(.int .i64 x1)] = [(0,(.string x0)),(1,(.int .i64 x1))] from rfl]
 rw [b_ref06_escape] at hm
 simp only [C.f44,C.f44b0]
 refine tk_os okM hok fun J hJ=>?_
 obtain ⟨b1,H2,a3,f4,q5,r6,x7,i8⟩:=al_ok H0 68 (ref01_Set.c ref01_Set.zero) iv.le
 have i9:=i8 _ _ iv
 simp only [C.f44r0,R,Nat.reduceEqDiff,zs68,a3]
 refine hJ _ ?_
 refine tk_os okM hok fun J hJ=>?_
 obtain ⟨b11,H12,a13,f14,q15,r16,x17,i18⟩:=al_ok H2 68 (ref01_Set.c ref01_Set.zero) i9.le
 have i19:=i18 _ _ i9
 have f20:=x17 _ _ f4
 obtain ⟨H22,a23,f24,u25⟩:=st_ok (M:=Mt) (t:=68) (v:=(vAgg (ref01_Set.c (ref01_Set.zero)))) (c:=ref01_Set.c ref01_Set.zero) (cs':=ref01_Set.c ref01_Set.zero) f14 (by rw [ref01_Set.enc.len]; exact T.sz68) vAgg_cells (ref01_Set.enc.one _) (Nat.le_trans hcn r16) (le0 ref01_Set.enc.len) (wrs_all (eqL ref01_Set.enc.len))
 have i26:=i19.up u25 r16
 have f27:=(u25.get _ (ne_len f4 q15)).trans f20
 simp only [C.f44r1,R,Nat.reduceEqDiff,bd68_,zs68,a13,a23]
 refine hJ _ ?_
 refine tk_seq_k fun K n28 x29=>?_
 refine tk_os okM hok fun J hJ=>?_
 simp only [C.f44r2,R,Nat.reduceEqDiff,len_str (M:=Mt) Tryd.underlying9]
 refine hJ _ ?_
 refine tk_cond (t:=decide (((x0.size:Int)) ≤ (IntKind.i64.wrap (x1 + 1)))) rfl (fun g30=>?_) (fun g30=>?_)
 ·replace hm:=cond_t hm g30
  refine tk_os okM hok fun J hJ=>?_
  have a31:=ld_agg (M:=Mt) (t:=68) f24 T.ag68 (by rw [ref01_Set.enc.len]; exact T.sz68) Seg.refl
  obtain ⟨H32,a33,f34,u35⟩:=st_ok (M:=Mt) (t:=68) (v:=(vAgg (ref01_Set.c (ref01_Set.zero)))) (c:=ref01_Set.c ref01_Set.zero) (cs':=ref01_Set.c ref01_Set.zero) f27 (by rw [ref01_Set.enc.len]; exact T.sz68) vAgg_cells (ref01_Set.enc.one _) (Nat.le_trans hcn r6) (le0 ref01_Set.enc.len) (wrs_all (eqL ref01_Set.enc.len))
  have i36:=i26.up u35 r6
  have f37:=(u35.get _ (ne_len f4 q15).symm).trans f24
  simp only [C.f44r3,R,Nat.reduceEqDiff,a31,a33]
  refine hJ _ ?_
  refine tk_ret okM ?_
  refine x29 _ _ (by simp) ?_
  obtain rfl:=Option.some.inj hm
  exact end_flat (.inl rfl) (vs:=[(vAgg (ref01_Set.c (ref01_Set.zero))),(.int .i64 (0))]) (resC' (v:=(vAgg (ref01_Set.c (ref01_Set.zero)))) rfl (ldv_of (ld_agg (M:=Mt) (t:=68) f34 T.ag68 (by rw [ref01_Set.enc.len]; exact T.sz68) Seg.refl)) (resT' (v:=(.int .i64 (0))) rfl resN)) (fm_cons (flat_agg ref01_Set.enc _) (fm_cons rfl fm_nil))
 ·replace hm:=cond_f hm g30
  refine tk_skip okM ?_
  refine n28 _ ?_
  refine tk_os okM hok fun J hJ=>?_
  obtain ⟨v38,ev38,hm⟩:=bind_s hm
  simp only [C.f44r4,R,Nat.reduceEqDiff,idxP_str (M:=Mt) Tryd.underlying9,ev38]
  refine hJ _ ?_
  refine tk_os okM hok fun J hJ=>?_
  obtain ⟨v40,ev40,hm⟩:=bind_s hm
  have a39:=ha_ref01_Range c.ro H22 48 57 v40 ev40
  have a41:=ha_ref01_Range c.ro H22 48 57 v40 ev40
  obtain ⟨v43,ev43,hm⟩:=bind_s hm
  have a42:=ha_ref01_Not c.ro H22 v40 v43 ev43
  obtain ⟨v45,ev45,hm⟩:=bind_s hm
  have a44:=ha_ref06_word c.ro H22  v45 ev45
  have a46:=ha_ref06_word c.ro H22  v45 ev45
  obtain ⟨v48,ev48,hm⟩:=bind_s hm
  have a47:=ha_ref01_Not c.ro H22 v45 v48 ev48
  obtain ⟨v50,ev50,hm⟩:=bind_s hm
  have a49:=ha_ref06_space c.ro H22  v50 ev50
  have a51:=ha_ref06_space c.ro H22  v50 ev50
  obtain ⟨v53,ev53,hm⟩:=bind_s hm
  have a52:=ha_ref01_Not c.ro H22 v50 v53 ev53
  obtain ⟨v55,ev55,hm⟩:=bind_s hm
  have a54:=ha_ref06_one c.ro H22 10 v55 ev55
  obtain ⟨v57,ev57,hm⟩:=bind_s hm
  have a56:=ha_ref06_one c.ro H22 9 v57 ev57
  obtain ⟨v59,ev59,hm⟩:=bind_s hm
  have a58:=ha_ref06_one c.ro H22 13 v59 ev59
  obtain ⟨v61,ev61,hm⟩:=bind_s hm
  have a60:=ha_ref06_one c.ro H22 12 v61 ev61
  obtain ⟨v63,ev63,hm⟩:=bind_s hm
  have a62:=ha_ref06_one c.ro H22 11 v63 ev63
  obtain ⟨b64,H65,a66,f67,q68,r69,x70,i71⟩:=bs_ok (M:=Mt) (t:=94) (e:=68) (c:=ref01_Set.c) (l:=([v40,v43,v45,v48,v50,v53,v55,v57,v59,v61,v63]:List ref01_Set)) (ps:=[(0,(vAgg (ref01_Set.c (v40)))),(1,(vAgg (ref01_Set.c (v43)))),(2,(vAgg (ref01_Set.c (v45)))),(3,(vAgg (ref01_Set.c (v48)))),(4,(vAgg (ref01_Set.c (v50)))),(5,(vAgg (ref01_Set.c (v53)))),(6,(vAgg (ref01_Set.c (v55)))),(7,(vAgg (ref01_Set.c (v57)))),(8,(vAgg (ref01_Set.c (v59)))),(9,(vAgg (ref01_Set.c (v61)))),(10,(vAgg (ref01_Set.c (v63))))]) (n:=11) H22 i26.le Tryd.underlying94 (zs68) rfl (by simp only [ref01_Set.enc.len,List.length_cons,List.length_nil]; decide) (fun _=>by rw [ref01_Set.enc.len,ref01_Set.enc.len]) ref01_Set.enc.one rfl rfl
  have i72:=i71 _ _ i26
  have f73:=x70 _ _ f27
  have f74:=x70 _ _ f24
  simp only [C.f44r5,R,Nat.reduceEqDiff,c_fn F32,a39,a41,c_fn F34,a42,c_fn F55,a44,a46,a47,c_fn F56,a49,a51,a52,c_fn F43,a54,a56,a58,a60,a62,a66]
  refine hJ _ ?_
  refine tk_seq_k fun K n76 x77=>?_
  refine tk_os okM hok fun J hJ=>?_
  simp only [C.f44r6,R,Nat.reduceEqDiff]
  refine hJ _ ?_
  refine tk_block_k fun K n78 e79 x80=>?_
  refine tk_loop_k (n:=n) (fun k1 ⟨σ,H,_⟩=>∃ x0_81 x1_82 x83 x84 x7_85 x8_86 x9_87 l88 x11_90 b89,b_ref06_escape_1 c_ref01_Range c_ref01_Not c_ref06_one c_ref06_word c_ref06_space c_ref06_Digit n k1 x0_81 x1_82 x83 x84 x7_85 x8_86 x9_87 l88 x11_90 = some r ∧ Lk σ 0 (.string x0_81) ∧ Lk σ 1 (.int .i64 x1_82) ∧ Lk σ 4 (.pointer (some ⟨b1,0,none⟩)) ∧ Lk σ 6 (.pointer (some ⟨b11,0,none⟩)) ∧ Lk σ 7 (.int .u8 x7_85) ∧ Lk σ 8 (.int .i64 x8_86) ∧ Lk σ 9 (.string x9_87) ∧ Lk σ 10 (slV l88 b89) ∧ Lk σ 11 (.int .i64 x11_90) ∧ H[b1]? = some (.cells (ref01_Set.c x83) 68) ∧ H[b11]? = some (.cells (ref01_Set.c x84) 68) ∧ SlO c.nb H ref01_Set.c 68 l88 b89 ∧ (l88 ≠ none → b89 ≠ b1) ∧ (l88 ≠ none → b89 ≠ b11) ∧ Iv c.nb [] H0 H) ?_ ?_ ?_
  ·exact ⟨x0,x1,ref01_Set.zero,ref01_Set.zero,v38,IntKind.i64.wrap (x1 + 2),(⟨#[100,68,119,87,115,83,110,116,114,102,118]⟩:ByteArray),some ([v40,v43,v45,v48,v50,v53,v55,v57,v59,v61,v63]:List ref01_Set),0,b64,hm,rfl,rfl,rfl,rfl,rfl,rfl,rfl,rfl,rfl,f73,f74,f67,(fun _=>(ne_len f27 q68).symm),(fun _=>(ne_len f24 q68).symm),i72⟩
  ·rintro ⟨σ,H,d⟩ ⟨_,_,_,_,_,_,_,_,_,_,hm,_⟩
   cases hm
  ·intro k1 K n91 x92
   rintro ⟨σ110,H93,d111⟩ ⟨x0_81,x1_82,x83,x84,x7_85,x8_86,x9_87,l88,x11_90,b89,hm,h95,h96,h97,h98,h99,h100,h101,h102,h103,f104,f105,f106,n107,n108,i109⟩
   rw [b_ref06_escape_1.eq_2] at hm
   refine tk_seq_k fun K n112 x113=>?_
   refine tk_os okM hok fun J hJ=>?_
   simp only [C.f44r7,R,Nat.reduceEqDiff,h103,h101,len_str (M:=Mt) Tryd.underlying9]
   refine hJ _ ?_
   refine tk_cond (t:=decide (x11_90 < ((x9_87.size:Int)))) rfl (fun g114=>?_) (fun g114=>?_)
   ·replace hm:=cond_t hm g114
    refine tk_skip okM ?_
    refine n112 _ ?_
    refine tk_seq_k fun K n115 x116=>?_
    refine tk_block_k fun K n117 e118 x119=>?_
    refine tk_os okM hok fun J hJ=>?_
    obtain ⟨v120,ev120,hm⟩:=bind_s hm
    simp only [C.f44r9,R,Nat.reduceEqDiff,h101,h103,idxP_str (M:=Mt) Tryd.underlying9,ev120,h99]
    refine hJ _ ?_
    refine tk_cond (t:=decide (v120 = x7_85)) rfl (fun g121=>?_) (fun g121=>?_)
    ·replace hm:=cond_t hm g121
     refine tk_os okM hok fun J hJ=>?_
     obtain ⟨j122,ej122,hm⟩:=bind_s hm
     obtain ⟨mm123,k124⟩:=f106.h.blk (ck_lt ej122).1
     have a125:=ld_agg (M:=Mt) (t:=68) k124 T.ag68 (by rw [ref01_Set.enc.len]; exact T.sz68) (seg_sl ref01_Set.enc.len mm123 (ck_lt ej122).1)
     obtain ⟨H126,a127,f128,u129⟩:=st_ok (M:=Mt) (t:=68) (v:=(vAgg (ref01_Set.c (Sl.nth l88 j122)))) (c:=ref01_Set.c (Sl.nth l88 j122)) (cs':=ref01_Set.c (Sl.nth l88 j122)) f104 (by rw [ref01_Set.enc.len]; exact T.sz68) vAgg_cells (ref01_Set.enc.one _) (Nat.le_trans hcn r6) (le0 ref01_Set.enc.len) (wrs_all (eqL ref01_Set.enc.len))
     have i130:=i109.up u129 r6
     have f131:=(u129.get _ (ne_len f4 q15).symm).trans f105
     have f132:=f106.up u129 n107
     simp only [C.f44r10,R,Nat.reduceEqDiff,h102,h103,ia94,ej122,a125,h100,a127,h97]
     refine hJ _ ?_
     refine tk_ret okM ?_
     refine x119 _ _ (by simp) (by simp) ?_
     refine x116 _ _ (by simp) ?_
     refine x92 _ _ (by simp) ?_
     refine x80 _ _ (by simp) (by simp) ?_
     refine x77 _ _ (by simp) ?_
     obtain rfl:=Option.some.inj hm
     exact end_flat (.inl rfl) (vs:=[(vAgg (ref01_Set.c (Sl.nth l88 j122))),(.int .i64 (x8_86))]) (resC' (v:=(vAgg (ref01_Set.c (Sl.nth l88 j122)))) h97 (ldv_of (ld_agg (M:=Mt) (t:=68) f128 T.ag68 (by rw [ref01_Set.enc.len]; exact T.sz68) Seg.refl)) (resT' (v:=(.int .i64 (x8_86))) rfl resN)) (fm_cons (flat_agg ref01_Set.enc _) (fm_cons rfl fm_nil))
    ·replace hm:=cond_f hm g121
     refine tk_skip okM ?_
     refine n117 _ ?_
     refine n115 _ ?_
     refine tk_oe okM hok fun J hJ=>?_
     simp only [C.f44r8,R,Nat.reduceEqDiff,h103]
     refine hJ _ ?_
     refine n91 _ ?_
     exact ⟨x0_81,x1_82,x83,x84,x7_85,x8_86,x9_87,l88,IntKind.i64.wrap (x11_90 + 1),b89,hm,h95,h96,h97,h98,h99,h100,h101,h102,rfl,f104,f105,f106,n107,n108,i109⟩
   ·replace hm:=cond_f hm g114
    refine tk_exit okM ?_
    refine x113 _ _ (by simp) ?_
    refine x92 _ _ (by simp) ?_
    refine e79 _ ?_
    refine n76 _ ?_
    refine tk_seq_k fun K n133 x134=>?_
    refine tk_os okM hok fun J hJ=>?_
    rw [C.f44r11]
    refine rn_app_k (fun ⟨σ,H,_⟩=>Lk σ 0 (.string (x0_81)) ∧ Lk σ 1 (.int .i64 (x1_82)) ∧ Lk σ 4 (.pointer (some ⟨b1,0,none⟩)) ∧ Lk σ 6 (.pointer (some ⟨b11,0,none⟩)) ∧ Lk σ 7 (.int .u8 (x7_85)) ∧ Lk σ 8 (.int .i64 (x8_86)) ∧ Lk σ 65 (.bool ((decide (x7_85 = 120)) && (decide ((IntKind.i64.wrap (x1_82 + 3)) < ((x0_81.size:Int)))))) ∧ H[b1]? = some (.cells (ref01_Set.c x83) 68) ∧ H[b11]? = some (.cells (ref01_Set.c x84) 68) ∧ Iv c.nb [] H0 H) (fun J hJ=>?_) ?_
    ·skip
     cases g146:decide (x7_85 = 120)
     ·skip
      simp only [C.f44r11p0,R,Nat.reduceEqDiff,h99,g146]
      refine hJ _ ?_
      exact ⟨h95,h96,h97,h98,h99,h100,(by first | rfl | (simp only [g146]; rfl) | simp only [g146,Lk,RB,Nat.reduceEqDiff,not_false_eq_true]),f104,f105,i109⟩
     ·skip
      simp only [C.f44r11p0,R,Nat.reduceEqDiff,h99,g146,h96,h95,len_str (M:=Mt) Tryd.underlying9]
      refine hJ _ ?_
      exact ⟨h95,h96,h97,h98,h99,h100,(by first | rfl | (simp only [g146]; rfl) | simp only [g146,Lk,RB,Nat.reduceEqDiff,not_false_eq_true]),f104,f105,i109⟩
    rintro ⟨σ147,H135,d148⟩ ⟨h136,h137,h138,h139,h140,h141,h142,f143,f144,i145⟩
    obtain ⟨y152,ey152,hm⟩:=bind_s hm
    refine rn_app_k (fun ⟨σ,H,_⟩=>Lk σ 0 (.string (x0_81)) ∧ Lk σ 1 (.int .i64 (x1_82)) ∧ Lk σ 4 (.pointer (some ⟨b1,0,none⟩)) ∧ Lk σ 6 (.pointer (some ⟨b11,0,none⟩)) ∧ Lk σ 7 (.int .u8 (x7_85)) ∧ Lk σ 8 (.int .i64 (x8_86)) ∧ Lk σ 73 (.bool (y152)) ∧ H[b1]? = some (.cells (ref01_Set.c x83) 68) ∧ H[b11]? = some (.cells (ref01_Set.c x84) 68) ∧ Iv c.nb [] H0 H) (fun J hJ=>?_) ?_
    ·skip
     cases g164:(decide (x7_85 = 120)) && (decide ((IntKind.i64.wrap (x1_82 + 3)) < ((x0_81.size:Int))))
     ·skip
      have ey152:=cond_f ey152 g164
      obtain rfl:=Option.some.inj ey152
      simp only [C.f44r11p1,R,Nat.reduceEqDiff,h142,g164]
      refine hJ _ ?_
      exact ⟨h136,h137,h138,h139,h140,h141,(by first | rfl | (simp only [g164]; rfl) | simp only [g164,Lk,RB,Nat.reduceEqDiff,not_false_eq_true]),f143,f144,i145⟩
     ·skip
      have ey152:=cond_t ey152 g164
      obtain ⟨v165,ev165,ey152⟩:=bind_s ey152
      obtain ⟨v167,ev167,ey152⟩:=bind_s ey152
      have a166:=ha_ref06_Digit c.ro H135 v165 v167 ev167
      obtain rfl:=Option.some.inj ey152
      simp only [C.f44r11p1,R,Nat.reduceEqDiff,h142,g164,h136,h137,idxP_str (M:=Mt) Tryd.underlying9,ev165,c_fn F57,a166]
      refine hJ _ ?_
      exact ⟨h136,h137,h138,h139,h140,h141,(by first | rfl | (simp only [g164]; rfl) | simp only [g164,Lk,RB,Nat.reduceEqDiff,not_false_eq_true]),f143,f144,i145⟩
    rintro ⟨σ168,H153,d169⟩ ⟨h154,h155,h156,h157,h158,h159,h160,f161,f162,i163⟩
    obtain ⟨y173,ey173,hm⟩:=bind_s hm
    refine rn_k (fun ⟨σ,H,_⟩=>Lk σ 0 (.string (x0_81)) ∧ Lk σ 1 (.int .i64 (x1_82)) ∧ Lk σ 4 (.pointer (some ⟨b1,0,none⟩)) ∧ Lk σ 6 (.pointer (some ⟨b11,0,none⟩)) ∧ Lk σ 7 (.int .u8 (x7_85)) ∧ Lk σ 8 (.int .i64 (x8_86)) ∧ Lk σ 81 (.bool (y173)) ∧ H[b1]? = some (.cells (ref01_Set.c x83) 68) ∧ H[b11]? = some (.cells (ref01_Set.c x84) 68) ∧ Iv c.nb [] H0 H) (fun J hJ=>?_) ?_
    ·skip
     cases g185:y152
     ·skip
      have ey173:=cond_f ey173 g185
      obtain rfl:=Option.some.inj ey173
      simp only [C.f44r11p2,R,Nat.reduceEqDiff,h160,g185]
      refine hJ _ ?_
      exact ⟨h154,h155,h156,h157,h158,h159,(by first | rfl | (simp only [g185]; rfl) | simp only [g185,Lk,RB,Nat.reduceEqDiff,not_false_eq_true]),f161,f162,i163⟩
     ·skip
      have ey173:=cond_t ey173 g185
      obtain ⟨v186,ev186,ey173⟩:=bind_s ey173
      obtain ⟨v188,ev188,ey173⟩:=bind_s ey173
      have a187:=ha_ref06_Digit c.ro H153 v186 v188 ev188
      obtain rfl:=Option.some.inj ey173
      simp only [C.f44r11p2,R,Nat.reduceEqDiff,h160,g185,h154,h155,idxP_str (M:=Mt) Tryd.underlying9,ev186,c_fn F57,a187]
      refine hJ _ ?_
      exact ⟨h154,h155,h156,h157,h158,h159,(by first | rfl | (simp only [g185]; rfl) | simp only [g185,Lk,RB,Nat.reduceEqDiff,not_false_eq_true]),f161,f162,i163⟩
    rintro ⟨σ189,H174,d190⟩ ⟨h175,h176,h177,h178,h179,h180,h181,f182,f183,i184⟩
    refine hJ _ ?_
    refine tk_cond (t:=y173) h181 (fun g191=>?_) (fun g191=>?_)
    ·replace hm:=cond_t hm g191
     refine tk_os okM hok fun J hJ=>?_
     obtain ⟨v192,ev192,hm⟩:=bind_s hm
     obtain ⟨v194,ev194,hm⟩:=bind_s hm
     have a193:=ha_ref06_Digit c.ro H174 v192 v194 ev194
     obtain ⟨v195,ev195,hm⟩:=bind_s hm
     obtain ⟨v197,ev197,hm⟩:=bind_s hm
     have a196:=ha_ref06_Digit c.ro H174 v195 v197 ev197
     obtain ⟨v199,ev199,hm⟩:=bind_s hm
     have a198:=ha_ref06_one c.ro H174 (IntKind.u8.wrap (IntKind.i64.wrap ((IntKind.i64.wrap (16 * v194)) + v197))) v199 ev199
     obtain ⟨H200,a201,f202,u203⟩:=st_ok (M:=Mt) (t:=68) (v:=(vAgg (ref01_Set.c (v199)))) (c:=ref01_Set.c v199) (cs':=ref01_Set.c v199) f182 (by rw [ref01_Set.enc.len]; exact T.sz68) vAgg_cells (ref01_Set.enc.one _) (Nat.le_trans hcn r6) (le0 ref01_Set.enc.len) (wrs_all (eqL ref01_Set.enc.len))
     have i204:=i184.up u203 r6
     have f205:=(u203.get _ (ne_len f4 q15).symm).trans f183
     simp only [C.f44r12,R,Nat.reduceEqDiff,h175,h176,idxP_str (M:=Mt) Tryd.underlying9,ev192,c_fn F57,a193,ev195,a196,cv_int (M:=Mt) Tryd.underlying3 Tryd.underlying5,c_fn F43,a198,a201,h177]
     refine hJ _ ?_
     refine tk_ret okM ?_
     refine x134 _ _ (by simp) ?_
     obtain rfl:=Option.some.inj hm
     exact end_flat (.inl rfl) (vs:=[(vAgg (ref01_Set.c (v199))),(.int .i64 (IntKind.i64.wrap (x1_82 + 4)))]) (resC' (v:=(vAgg (ref01_Set.c (v199)))) h177 (ldv_of (ld_agg (M:=Mt) (t:=68) f202 T.ag68 (by rw [ref01_Set.enc.len]; exact T.sz68) Seg.refl)) (resT' (v:=(.int .i64 (IntKind.i64.wrap (x1_82 + 4)))) rfl resN)) (fm_cons (flat_agg ref01_Set.enc _) (fm_cons rfl fm_nil))
    ·replace hm:=cond_f hm g191
     refine tk_skip okM ?_
     refine n133 _ ?_
     refine tk_os okM hok fun J hJ=>?_
     obtain ⟨v207,ev207,hm⟩:=bind_s hm
     have a206:=ha_ref06_word c.ro H174  v207 ev207
     obtain ⟨b208,H209,a210,f211,q212,r213,x214,i215⟩:=al_ok H174 68 (ref01_Set.c ref01_Set.zero) i184.le
     have i216:=i215 _ _ i184
     have f217:=x214 _ _ f182
     have f218:=x214 _ _ f183
     obtain ⟨H220,a221,f222,u223⟩:=st_ok (M:=Mt) (t:=68) (v:=(vAgg (ref01_Set.c (v207)))) (c:=ref01_Set.c v207) (cs':=ref01_Set.c v207) f211 (by rw [ref01_Set.enc.len]; exact T.sz68) vAgg_cells (ref01_Set.enc.one _) (Nat.le_trans hcn r213) (le0 ref01_Set.enc.len) (wrs_all (eqL ref01_Set.enc.len))
     have i224:=i216.up u223 r213
     have f225:=(u223.get _ (ne_len f182 q212)).trans f217
     have f226:=(u223.get _ (ne_len f183 q212)).trans f218
     simp only [C.f44r13,R,Nat.reduceEqDiff,c_fn F55,a206,zs68,a210,a221]
     refine hJ _ ?_
     refine tk_seq_k fun K n227 x228=>?_
     refine tk_os okM hok fun J hJ=>?_
     obtain ⟨y231,ey231,hm⟩:=bind_s hm
     refine rn_k (fun ⟨σ,H,_⟩=>Lk σ 4 (.pointer (some ⟨b1,0,none⟩)) ∧ Lk σ 6 (.pointer (some ⟨b11,0,none⟩)) ∧ Lk σ 7 (.int .u8 (x7_85)) ∧ Lk σ 8 (.int .i64 (x8_86)) ∧ Lk σ 108 (.bool (y231)) ∧ H[b1]? = some (.cells (ref01_Set.c x83) 68) ∧ H[b11]? = some (.cells (ref01_Set.c x84) 68) ∧ Iv c.nb [] H0 H) (fun J hJ=>?_) ?_
     ·skip
      cases g241:decide (x7_85 = 95)
      ·skip
       have ey231:=cond_f ey231 g241
       obtain ⟨j242,ej242,ey231⟩:=bind_s ey231
       have a243:=ld_one (M:=Mt) (t:=4) f222 T.ag4 ((Seg.refl.sub (ref01_Set.seg0 v207)).sub (sgA enc_bool.len (a:=v207.f_In) (ck_lt ej242).1))
       obtain rfl:=Option.some.inj ey231
       simp only [C.f44r14,R,Nat.reduceEqDiff,h179,g241,cv_int (M:=Mt) Tryd.underlying5 Tryd.underlying3,fa68_0,ia66,ej242,a243]
       refine hJ _ ?_
       exact ⟨h177,h178,h179,h180,(by first | rfl | (simp only [g241]; rfl) | simp only [g241,Lk,RB,Nat.reduceEqDiff,not_false_eq_true]),f225,f226,i224⟩
      ·skip
       have ey231:=cond_t ey231 g241
       obtain rfl:=Option.some.inj ey231
       simp only [C.f44r14,R,Nat.reduceEqDiff,h179,g241]
       refine hJ _ ?_
       exact ⟨h177,h178,h179,h180,(by first | rfl | (simp only [g241]; rfl) | simp only [g241,Lk,RB,Nat.reduceEqDiff,not_false_eq_true]),f225,f226,i224⟩
     rintro ⟨σ244,H232,d245⟩ ⟨h233,h234,h235,h236,h237,f238,f239,i240⟩
     refine hJ _ ?_
     refine tk_cond (t:=y231) h237 (fun g246=>?_) (fun g246=>?_)
     ·replace hm:=cond_t hm g246
      refine tk_os okM hok fun J hJ=>?_
      obtain ⟨v248,ev248,hm⟩:=bind_s hm
      have a247:=ha_ref06_one c.ro H232 x7_85 v248 ev248
      obtain ⟨H249,a250,f251,u252⟩:=st_ok (M:=Mt) (t:=68) (v:=(vAgg (ref01_Set.c (v248)))) (c:=ref01_Set.c v248) (cs':=ref01_Set.c v248) f238 (by rw [ref01_Set.enc.len]; exact T.sz68) vAgg_cells (ref01_Set.enc.one _) (Nat.le_trans hcn r6) (le0 ref01_Set.enc.len) (wrs_all (eqL ref01_Set.enc.len))
      have i253:=i240.up u252 r6
      have f254:=(u252.get _ (ne_len f4 q15).symm).trans f239
      simp only [C.f44r15,R,Nat.reduceEqDiff,h235,c_fn F43,a247,h236,a250,h233]
      refine hJ _ ?_
      refine tk_ret okM ?_
      refine x228 _ _ (by simp) ?_
      obtain rfl:=Option.some.inj hm
      exact end_flat (.inl rfl) (vs:=[(vAgg (ref01_Set.c (v248))),(.int .i64 (x8_86))]) (resC' (v:=(vAgg (ref01_Set.c (v248)))) h233 (ldv_of (ld_agg (M:=Mt) (t:=68) f251 T.ag68 (by rw [ref01_Set.enc.len]; exact T.sz68) Seg.refl)) (resT' (v:=(.int .i64 (x8_86))) rfl resN)) (fm_cons (flat_agg ref01_Set.enc _) (fm_cons rfl fm_nil))
     ·replace hm:=cond_f hm g246
      refine tk_skip okM ?_
      refine n227 _ ?_
      refine tk_os okM hok fun J hJ=>?_
      have a255:=ld_agg (M:=Mt) (t:=68) f239 T.ag68 (by rw [ref01_Set.enc.len]; exact T.sz68) Seg.refl
      obtain ⟨H256,a257,f258,u259⟩:=st_ok (M:=Mt) (t:=68) (v:=(vAgg (ref01_Set.c (x84)))) (c:=ref01_Set.c x84) (cs':=ref01_Set.c x84) f238 (by rw [ref01_Set.enc.len]; exact T.sz68) vAgg_cells (ref01_Set.enc.one _) (Nat.le_trans hcn r6) (le0 ref01_Set.enc.len) (wrs_all (eqL ref01_Set.enc.len))
      have i260:=i240.up u259 r6
      have f261:=(u259.get _ (ne_len f4 q15).symm).trans f239
      simp only [C.f44r16,R,Nat.reduceEqDiff,a255,h234,a257,h233]
      refine hJ _ ?_
      refine tk_ret okM ?_
      obtain rfl:=Option.some.inj hm
      exact end_flat (.inl rfl) (vs:=[(vAgg (ref01_Set.c (x84))),(.int .i64 (0))]) (resC' (v:=(vAgg (ref01_Set.c (x84)))) h233 (ldv_of (ld_agg (M:=Mt) (t:=68) f258 T.ag68 (by rw [ref01_Set.enc.len]; exact T.sz68) Seg.refl)) (resT' (v:=(.int .i64 (0))) rfl resN)) (fm_cons (flat_agg ref01_Set.enc _) (fm_cons rfl fm_nil))
def b_stringslite_HasPrefix (n:Nat) (x0:ByteArray) (x1:ByteArray):Option (Bool):=(bif decide (((x1.size:Int)) ≤ ((x0.size:Int))) then ((sub x0 0 ((x1.size:Int))).bind fun v1=>some (decide (v1 = x1))) else some false).bind fun y2=>some y2
theorem w_stringslite_HasPrefix {call:CallF} (hok:CallOk Mt call) {n:Nat} {H0:Hp} {x0:ByteArray} {x1:ByteArray} {r:Bool} {ro:Nat} (hro:ro ≤ H0.length) (hm:b_stringslite_HasPrefix n x0 x1 = some r) :
  Pt Mt ro 45 [(.string x0),(.string x1)] H0 (.bool (r)) H0 []:=by
 refine pt_new0 okM F45d (by exact Nat.le_of_ble_eq_true rfl) ?_ hro
 intro c hnt hnb hcr
 have hcn:c.ro ≤ c.nb:=by omega
 have iv:Iv c.nb [] H0 H0:=by rw [hnb]; exact iv_refl
 rw [show args0 [(.string x0),(.string x1)] = [(0,(.string x0)),(1,(.string x1))] from rfl]
 rw [b_stringslite_HasPrefix] at hm
 simp only [C.f45]
 refine tk_os okM hok fun J hJ=>?_
 simp only [C.f45r0,R,Nat.reduceEqDiff]
 refine hJ _ ?_
 refine tk_os okM hok fun J hJ=>?_
 rw [C.f45r1]
 obtain ⟨y2,ey2,hm⟩:=bind_s hm
 refine rn_app_k (fun ⟨σ,H,_⟩=>Lk σ 17 (.bool (y2)) ∧ Iv c.nb [] H0 H) (fun J hJ=>?_) ?_
 ·skip
  cases g6:decide (((x1.size:Int)) ≤ ((x0.size:Int)))
  ·skip
   have ey2:=cond_f ey2 g6
   obtain rfl:=Option.some.inj ey2
   simp only [C.f45r1p0,R,Nat.reduceEqDiff,len_str (M:=Mt) Tryd.underlying9,g6]
   refine hJ _ ?_
   exact ⟨(by first | rfl | (simp only [g6]; rfl) | simp only [g6,Lk,RB,Nat.reduceEqDiff,not_false_eq_true]),iv⟩
  ·skip
   have ey2:=cond_t ey2 g6
   obtain ⟨v7,ev7,ey2⟩:=bind_s ey2
   obtain rfl:=Option.some.inj ey2
   simp only [C.f45r1p0,R,Nat.reduceEqDiff,len_str (M:=Mt) Tryd.underlying9,g6,sl_str3 (M:=Mt) Tryd.underlying9,ev7]
   refine hJ _ ?_
   exact ⟨(by first | rfl | (simp only [g6]; rfl) | simp only [g6,Lk,RB,Nat.reduceEqDiff,not_false_eq_true]),iv⟩
 rintro ⟨σ8,H3,d9⟩ ⟨h4,i5⟩
 simp only [C.f45r1p1,R,Nat.reduceEqDiff,h4]
 refine hJ _ ?_
 refine tk_ret okM ?_
 obtain rfl:=Option.some.inj hm
 exact end_flat (.inl rfl) (vs:=[(.bool (y2))]) (resT' (v:=(.bool (y2))) rfl resN) (fm_cons rfl fm_nil)
end Go.Proofs.YtcjnmmeibppblaaDoor
