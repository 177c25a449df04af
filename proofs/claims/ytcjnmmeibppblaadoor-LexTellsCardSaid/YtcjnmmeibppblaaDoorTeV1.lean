import Derived.Test.YtcjnmmeibppblaaDoorTeBase
set_option maxRecDepth 100000
set_option linter.unusedVariables false
set_option linter.unusedSimpArgs false
namespace Go.Proofs.YtcjnmmeibppblaaDoor
open Go Go.AM
attribute [local congr] bind_first map_first
def b_ref06_Class_3 (c_ref06_starts:T_ref06_starts) (c_ref06_item:T_ref06_item) (c_ref01_Min:T_ref01_Min) (c_ref01_Len:T_ref01_Len) (c_ref01_Range:T_ref01_Range) (c_ref01_Or:T_ref01_Or) (c_ref01_Not:T_ref01_Not) (c_ref01_Words:T_ref01_Words) (n:Nat) (q2:ByteArray → (Arr Int 4) → (Arr Int 4) → Bool → Int → ref01_Set → Int → Option ((Arr Int 4) × Int × Int)) (x0_197:ByteArray) (x198:(Arr Int 4)) (x199:(Arr Int 4)) (x8_200:Bool) (x201:ref01_Set) (x11_202:Int) (x203:ref01_Set) (x13_204:Int):Option ((Arr Int 4) × Int × Int):=(c_ref01_Or x201 x203).bind fun v224=>q2 x0_197 x198 x199 x8_200 x13_204 v224 (IntKind.i64.wrap (x11_202 + 1))
def b_ref06_Class_4 (c_ref06_starts:T_ref06_starts) (c_ref06_item:T_ref06_item) (c_ref01_Min:T_ref01_Min) (c_ref01_Len:T_ref01_Len) (c_ref01_Range:T_ref01_Range) (c_ref01_Or:T_ref01_Or) (c_ref01_Not:T_ref01_Not) (c_ref01_Words:T_ref01_Words) (n:Nat) (x367:(Arr Int 4)) (x9_368:Int) (x369:ref01_Set):Option ((Arr Int 4) × Int × Int):=(c_ref01_Words x369).bind fun v381=>some (v381,IntKind.i64.wrap (x9_368 + 1),0)
def b_ref06_Class_2 (c_ref06_starts:T_ref06_starts) (c_ref06_item:T_ref06_item) (c_ref01_Min:T_ref01_Min) (c_ref01_Len:T_ref01_Len) (c_ref01_Range:T_ref01_Range) (c_ref01_Or:T_ref01_Or) (c_ref01_Not:T_ref01_Not) (c_ref01_Words:T_ref01_Words) (n:Nat):Nat → ByteArray → (Arr Int 4) → (Arr Int 4) → Bool → Int → ref01_Set → Int → Option ((Arr Int 4) × Int × Int)
 | 0,_,_,_,_,_,_,_=>none
 | k + 1,x0_112,x113,x114,x8_115,x9_116,x117,x11_118=>(bif decide (x11_118 = 0) then some true else ((c_ref06_starts x0_112 x9_116 ((⟨#[93]⟩:ByteArray))).bind fun v138=>some (!v138))).bind fun y139=>bif y139 then ((c_ref06_item x0_112 x9_116).bind fun v163=>bif decide (v163.2 = 0) then (some (x114,0,3)) else ((c_ref06_starts x0_112 v163.2 ((⟨#[45]⟩:ByteArray))).bind fun v236=>bif v236 then ((c_ref06_item x0_112 (IntKind.i64.wrap (v163.2 + 1))).bind fun v239=>(c_ref01_Min v163.1).bind fun v265=>(c_ref01_Min v239.1).bind fun v268=>(bif decide (v239.2 = 0) then some true else ((c_ref01_Len v163.1).bind fun v273=>some (!decide (v273 = 1)))).bind fun y274=>(bif y274 then some true else ((c_ref01_Len v239.1).bind fun v302=>some (!decide (v302 = 1)))).bind fun y303=>bif y303 || (decide (v268.1 < v265.1)) then (some (x114,0,3)) else ((c_ref01_Range v265.1 v268.1).bind fun v358=>b_ref06_Class_3 c_ref06_starts c_ref06_item c_ref01_Min c_ref01_Len c_ref01_Range c_ref01_Or c_ref01_Not c_ref01_Words n (b_ref06_Class_2 c_ref06_starts c_ref06_item c_ref01_Min c_ref01_Len c_ref01_Range c_ref01_Or c_ref01_Not c_ref01_Words n k) x0_112 x113 x114 x8_115 x117 x11_118 v358 v239.2)) else (b_ref06_Class_3 c_ref06_starts c_ref06_item c_ref01_Min c_ref01_Len c_ref01_Range c_ref01_Or c_ref01_Not c_ref01_Words n (b_ref06_Class_2 c_ref06_starts c_ref06_item c_ref01_Min c_ref01_Len c_ref01_Range c_ref01_Or c_ref01_Not c_ref01_Words n k) x0_112 x113 x114 x8_115 x117 x11_118 v163.1 v163.2))) else (bif x8_115 then ((c_ref01_Not x117).bind fun v393=>b_ref06_Class_4 c_ref06_starts c_ref06_item c_ref01_Min c_ref01_Len c_ref01_Range c_ref01_Or c_ref01_Not c_ref01_Words n x113 x9_116 v393) else (b_ref06_Class_4 c_ref06_starts c_ref06_item c_ref01_Min c_ref01_Len c_ref01_Range c_ref01_Or c_ref01_Not c_ref01_Words n x113 x9_116 x117))
def b_ref06_Class_1 (c_ref06_starts:T_ref06_starts) (c_ref06_item:T_ref06_item) (c_ref01_Min:T_ref01_Min) (c_ref01_Len:T_ref01_Len) (c_ref01_Range:T_ref01_Range) (c_ref01_Or:T_ref01_Or) (c_ref01_Not:T_ref01_Not) (c_ref01_Words:T_ref01_Words) (n:Nat) (x0_86:ByteArray) (x87:(Arr Int 4)) (x88:(Arr Int 4)) (x8_89:Bool) (x9_90:Int) (x91:ref01_Set) (x11_92:Int):Option ((Arr Int 4) × Int × Int):=b_ref06_Class_2 c_ref06_starts c_ref06_item c_ref01_Min c_ref01_Len c_ref01_Range c_ref01_Or c_ref01_Not c_ref01_Words n n x0_86 x87 x88 x8_89 x9_90 x91 x11_92
def b_ref06_Class (c_ref06_starts:T_ref06_starts) (c_ref06_item:T_ref06_item) (c_ref01_Min:T_ref01_Min) (c_ref01_Len:T_ref01_Len) (c_ref01_Range:T_ref01_Range) (c_ref01_Or:T_ref01_Or) (c_ref01_Not:T_ref01_Not) (c_ref01_Words:T_ref01_Words) (n:Nat) (x0:ByteArray) (x1:Int):Option ((Arr Int 4) × Int × Int):=(bif (decide (x1 < 0)) || (decide (((x0.size:Int)) ≤ x1)) then some true else ((bt x0 x1).bind fun v42=>some (!decide (v42 = 91)))).bind fun y43=>bif y43 then (some ((Arr.rep 4 0),0,1)) else ((c_ref06_starts x0 (IntKind.i64.wrap (x1 + 1)) ((⟨#[94]⟩:ByteArray))).bind fun v66=>bif v66 then (b_ref06_Class_1 c_ref06_starts c_ref06_item c_ref01_Min c_ref01_Len c_ref01_Range c_ref01_Or c_ref01_Not c_ref01_Words n x0 ((Arr.rep 4 0)) ((Arr.rep 4 0)) v66 (IntKind.i64.wrap ((IntKind.i64.wrap (x1 + 1)) + 1)) ref01_Set.zero 0) else (b_ref06_Class_1 c_ref06_starts c_ref06_item c_ref01_Min c_ref01_Len c_ref01_Range c_ref01_Or c_ref01_Not c_ref01_Words n x0 ((Arr.rep 4 0)) ((Arr.rep 4 0)) v66 (IntKind.i64.wrap (x1 + 1)) ref01_Set.zero 0))
theorem w_ref06_Class {call:CallF} (hok:CallOk Mt call) {n:Nat} {c_ref06_starts:T_ref06_starts} (ha_ref06_starts:A_ref06_starts call c_ref06_starts) {c_ref06_item:T_ref06_item} (ha_ref06_item:A_ref06_item call c_ref06_item) {c_ref01_Min:T_ref01_Min} (ha_ref01_Min:A_ref01_Min call c_ref01_Min) {c_ref01_Len:T_ref01_Len} (ha_ref01_Len:A_ref01_Len call c_ref01_Len) {c_ref01_Range:T_ref01_Range} (ha_ref01_Range:A_ref01_Range call c_ref01_Range) {c_ref01_Or:T_ref01_Or} (ha_ref01_Or:A_ref01_Or call c_ref01_Or) {c_ref01_Not:T_ref01_Not} (ha_ref01_Not:A_ref01_Not call c_ref01_Not) {c_ref01_Words:T_ref01_Words} (ha_ref01_Words:A_ref01_Words call c_ref01_Words) {H0:Hp} {x0:ByteArray} {x1:Int} {r:(Arr Int 4) × Int × Int} {ro:Nat} (hro:ro ≤ H0.length) (hm:b_ref06_Class c_ref06_starts c_ref06_item c_ref01_Min c_ref01_Len c_ref01_Range c_ref01_Or c_ref01_Not c_ref01_Words n x0 x1 = some r) :
  Pt Mt ro 16 [(.string x0),(.int .i64 x1)] H0 (.tuple [(vAgg ((cArr (n:=4) (cInt .u64)) (r.1))),(.int .i64 (r.2.1)),(.int .i64 (r.2.2))].toArray) H0 []:=by
 refine pt_new0 okM F16d (by exact Nat.le_of_ble_eq_true rfl) ?_ hro
 intro c hnt hnb hcr
 have hcn:c.ro ≤ c.nb:=by omega
 have iv:Iv c.nb [] H0 H0:=by rw [hnb]; exact iv_refl
 rw [show args0 [(.string x0),(.int .i64 x1)] = [(0,(.string x0)),(1,(.int .i64 x1))] from rfl]
 rw [b_ref06_Class] at hm
 simp only [C.f16,C.f16b0]
 refine tk_os okM hok fun J hJ=>?_
 obtain ⟨b1,H2,a3,f4,q5,r6,x7,i8⟩:=al_ok H0 34 ((cArr (n:=4) (cInt .u64)) (Arr.rep 4 0)) iv.le
 have i9:=i8 _ _ iv
 simp only [C.f16r0,R,Nat.reduceEqDiff,zs34,a3]
 refine hJ _ ?_
 refine tk_os okM hok fun J hJ=>?_
 obtain ⟨b11,H12,a13,f14,q15,r16,x17,i18⟩:=al_ok H2 34 ((cArr (n:=4) (cInt .u64)) (Arr.rep 4 0)) i9.le
 have i19:=i18 _ _ i9
 have f20:=x17 _ _ f4
 obtain ⟨H22,a23,f24,u25⟩:=st_ok (M:=Mt) (t:=34) (v:=(vAgg ((cArr (n:=4) (cInt .u64)) ((Arr.rep 4 0))))) (c:=(cArr (n:=4) (cInt .u64)) ((Arr.rep 4 0))) (cs':=(cArr (n:=4) (cInt .u64)) ((Arr.rep 4 0))) f14 (by rw [(enc_arr (n:=4) enc_int).len]; exact T.sz34) vAgg_cells ((enc_arr (n:=4) enc_int).one _) (Nat.le_trans hcn r16) (le0 (enc_arr (n:=4) enc_int).len) (wrs_all (eqL (enc_arr (n:=4) enc_int).len))
 have i26:=i19.up u25 r16
 have f27:=(u25.get _ (ne_len f4 q15)).trans f20
 simp only [C.f16r1,R,Nat.reduceEqDiff,bd_zero (M:=Mt) zs34 Tryd.underlying34,zs34,a13,a23]
 refine hJ _ ?_
 refine tk_seq_k fun K n28 x29=>?_
 refine tk_os okM hok fun J hJ=>?_
 rw [C.f16r2]
 refine rn_app_k (fun ⟨σ,H,_⟩=>Lk σ 0 (.string (x0)) ∧ Lk σ 1 (.int .i64 (x1)) ∧ Lk σ 4 (.pointer (some ⟨b1,0,none⟩)) ∧ Lk σ 7 (.pointer (some ⟨b11,0,none⟩)) ∧ Lk σ 28 (.bool ((decide (x1 < 0)) || (decide (((x0.size:Int)) ≤ x1)))) ∧ H[b1]? = some (.cells ((cArr (n:=4) (cInt .u64)) ((Arr.rep 4 0))) 34) ∧ H[b11]? = some (.cells ((cArr (n:=4) (cInt .u64)) ((Arr.rep 4 0))) 34) ∧ Iv c.nb [] H0 H) (fun J hJ=>?_) ?_
 ·skip
  cases g39:decide (x1 < 0)
  ·skip
   simp only [C.f16r2p0,R,Nat.reduceEqDiff,g39,len_str (M:=Mt) Tryd.underlying9]
   refine hJ _ ?_
   exact ⟨(by first | rfl | (simp only [g39]; rfl) | simp only [g39,Lk,RB,Nat.reduceEqDiff,not_false_eq_true]),(by first | rfl | (simp only [g39]; rfl) | simp only [g39,Lk,RB,Nat.reduceEqDiff,not_false_eq_true]),rfl,rfl,(by first | rfl | (simp only [g39]; rfl) | simp only [g39,Lk,RB,Nat.reduceEqDiff,not_false_eq_true]),f27,f24,i26⟩
  ·skip
   simp only [C.f16r2p0,R,Nat.reduceEqDiff,g39]
   refine hJ _ ?_
   exact ⟨(by first | rfl | (simp only [g39]; rfl) | simp only [g39,Lk,RB,Nat.reduceEqDiff,not_false_eq_true]),(by first | rfl | (simp only [g39]; rfl) | simp only [g39,Lk,RB,Nat.reduceEqDiff,not_false_eq_true]),rfl,rfl,(by first | rfl | (simp only [g39]; rfl) | simp only [g39,Lk,RB,Nat.reduceEqDiff,not_false_eq_true]),f27,f24,i26⟩
 rintro ⟨σ40,H30,d41⟩ ⟨h31,h32,h33,h34,h35,f36,f37,i38⟩
 obtain ⟨y43,ey43,hm⟩:=bind_s hm
 refine rn_k (fun ⟨σ,H,_⟩=>Lk σ 0 (.string (x0)) ∧ Lk σ 1 (.int .i64 (x1)) ∧ Lk σ 4 (.pointer (some ⟨b1,0,none⟩)) ∧ Lk σ 7 (.pointer (some ⟨b11,0,none⟩)) ∧ Lk σ 34 (.bool (y43)) ∧ H[b1]? = some (.cells ((cArr (n:=4) (cInt .u64)) ((Arr.rep 4 0))) 34) ∧ H[b11]? = some (.cells ((cArr (n:=4) (cInt .u64)) ((Arr.rep 4 0))) 34) ∧ Iv c.nb [] H0 H) (fun J hJ=>?_) ?_
 ·skip
  cases g53:(decide (x1 < 0)) || (decide (((x0.size:Int)) ≤ x1))
  ·skip
   have ey43:=cond_f ey43 g53
   obtain ⟨v54,ev54,ey43⟩:=bind_s ey43
   obtain rfl:=Option.some.inj ey43
   simp only [C.f16r2p1,R,Nat.reduceEqDiff,h35,g53,h31,h32,idxP_str (M:=Mt) Tryd.underlying9,ev54]
   refine hJ _ ?_
   exact ⟨h31,h32,h33,h34,(by first | rfl | (simp only [g53]; rfl) | simp only [g53,Lk,RB,Nat.reduceEqDiff,not_false_eq_true]),f36,f37,i38⟩
  ·skip
   have ey43:=cond_t ey43 g53
   obtain rfl:=Option.some.inj ey43
   simp only [C.f16r2p1,R,Nat.reduceEqDiff,h35,g53]
   refine hJ _ ?_
   exact ⟨h31,h32,h33,h34,(by first | rfl | (simp only [g53]; rfl) | simp only [g53,Lk,RB,Nat.reduceEqDiff,not_false_eq_true]),f36,f37,i38⟩
 rintro ⟨σ55,H44,d56⟩ ⟨h45,h46,h47,h48,h49,f50,f51,i52⟩
 refine hJ _ ?_
 refine tk_cond (t:=y43) h49 (fun g57=>?_) (fun g57=>?_)
 ·replace hm:=cond_t hm g57
  refine tk_os okM hok fun J hJ=>?_
  have a58:=ld_agg (M:=Mt) (t:=34) f51 T.ag34 (by rw [(enc_arr (n:=4) enc_int).len]; exact T.sz34) Seg.refl
  obtain ⟨H59,a60,f61,u62⟩:=st_ok (M:=Mt) (t:=34) (v:=(vAgg ((cArr (n:=4) (cInt .u64)) ((Arr.rep 4 0))))) (c:=(cArr (n:=4) (cInt .u64)) ((Arr.rep 4 0))) (cs':=(cArr (n:=4) (cInt .u64)) ((Arr.rep 4 0))) f50 (by rw [(enc_arr (n:=4) enc_int).len]; exact T.sz34) vAgg_cells ((enc_arr (n:=4) enc_int).one _) (Nat.le_trans hcn r6) (le0 (enc_arr (n:=4) enc_int).len) (wrs_all (eqL (enc_arr (n:=4) enc_int).len))
  have i63:=i52.up u62 r6
  have f64:=(u62.get _ (ne_len f4 q15).symm).trans f51
  simp only [C.f16r3,R,Nat.reduceEqDiff,a58,h48,a60,h47]
  refine hJ _ ?_
  refine tk_ret okM ?_
  refine x29 _ _ (by simp) ?_
  obtain rfl:=Option.some.inj hm
  exact end_flat (.inl rfl) (vs:=[(vAgg ((cArr (n:=4) (cInt .u64)) ((Arr.rep 4 0)))),(.int .i64 (0)),(.int .i64 (1))]) (resC' (v:=(vAgg ((cArr (n:=4) (cInt .u64)) ((Arr.rep 4 0))))) h47 (ldv_of (ld_agg (M:=Mt) (t:=34) f61 T.ag34 (by rw [(enc_arr (n:=4) enc_int).len]; exact T.sz34) Seg.refl)) (resT' (v:=(.int .i64 (0))) rfl (resT' (v:=(.int .i64 (1))) rfl resN))) (fm_cons (flat_agg (enc_arr (n:=4) enc_int) _) (fm_cons rfl (fm_cons rfl fm_nil)))
 ·replace hm:=cond_f hm g57
  refine tk_skip okM ?_
  refine n28 _ ?_
  refine tk_os okM hok fun J hJ=>?_
  obtain ⟨v66,ev66,hm⟩:=bind_s hm
  have a65:=ha_ref06_starts c.ro H44 x0 (IntKind.i64.wrap (x1 + 1)) ((⟨#[94]⟩:ByteArray)) v66 ev66
  simp only [C.f16r4,R,Nat.reduceEqDiff,h45,h46,c_fn F28,a65]
  refine hJ _ ?_
  refine tk_os okM hok fun J hJ=>?_
  obtain ⟨b67,H68,a69,f70,q71,r72,x73,i74⟩:=al_ok H44 68 (ref01_Set.c ref01_Set.zero) i52.le
  have i75:=i74 _ _ i52
  have f76:=x73 _ _ f50
  have f77:=x73 _ _ f51
  obtain ⟨H79,a80,f81,u82⟩:=st_ok (M:=Mt) (t:=68) (v:=(vAgg (ref01_Set.c (ref01_Set.zero)))) (c:=ref01_Set.c ref01_Set.zero) (cs':=ref01_Set.c ref01_Set.zero) f70 (by rw [ref01_Set.enc.len]; exact T.sz68) vAgg_cells (ref01_Set.enc.one _) (Nat.le_trans hcn r72) (le0 ref01_Set.enc.len) (wrs_all (eqL ref01_Set.enc.len))
  have i83:=i75.up u82 r72
  have f84:=(u82.get _ (ne_len f50 q71)).trans f76
  have f85:=(u82.get _ (ne_len f51 q71)).trans f77
  simp only [C.f16r5,R,Nat.reduceEqDiff,h46,bd68_,zs68,a69,a80]
  refine hJ _ ?_
  refine tk_seq_j (fun ⟨σ,H,_⟩=>∃ x0_86 x87 x88 x8_89 x9_90 x91 x11_92,b_ref06_Class_1 c_ref06_starts c_ref06_item c_ref01_Min c_ref01_Len c_ref01_Range c_ref01_Or c_ref01_Not c_ref01_Words n x0_86 x87 x88 x8_89 x9_90 x91 x11_92 = some r ∧ Lk σ 0 (.string x0_86) ∧ Lk σ 4 (.pointer (some ⟨b1,0,none⟩)) ∧ Lk σ 7 (.pointer (some ⟨b11,0,none⟩)) ∧ Lk σ 8 (.bool x8_89) ∧ Lk σ 9 (.int .i64 x9_90) ∧ Lk σ 10 (.pointer (some ⟨b67,0,none⟩)) ∧ Lk σ 11 (.int .i64 x11_92) ∧ H[b1]? = some (.cells ((cArr (n:=4) (cInt .u64)) x87) 34) ∧ H[b11]? = some (.cells ((cArr (n:=4) (cInt .u64)) x88) 34) ∧ H[b67]? = some (.cells (ref01_Set.c x91) 68) ∧ Iv c.nb [] H0 H) ?_ ?_
  ·skip
   rintro ⟨σ105,H93,d106⟩ ⟨x0_86,x87,x88,x8_89,x9_90,x91,x11_92,hm,h94,h95,h96,h97,h98,h99,h100,f101,f102,f103,i104⟩
   rw [b_ref06_Class_1] at hm
   refine tk_seq_k fun K n107 x108=>?_
   refine tk_block_k fun K n109 e110 x111=>?_
   refine tk_loop_k (n:=n) (fun k2 ⟨σ,H,_⟩=>∃ x0_112 x113 x114 x8_115 x9_116 x117 x11_118,b_ref06_Class_2 c_ref06_starts c_ref06_item c_ref01_Min c_ref01_Len c_ref01_Range c_ref01_Or c_ref01_Not c_ref01_Words n k2 x0_112 x113 x114 x8_115 x9_116 x117 x11_118 = some r ∧ Lk σ 0 (.string x0_112) ∧ Lk σ 4 (.pointer (some ⟨b1,0,none⟩)) ∧ Lk σ 7 (.pointer (some ⟨b11,0,none⟩)) ∧ Lk σ 8 (.bool x8_115) ∧ Lk σ 9 (.int .i64 x9_116) ∧ Lk σ 10 (.pointer (some ⟨b67,0,none⟩)) ∧ Lk σ 11 (.int .i64 x11_118) ∧ H[b1]? = some (.cells ((cArr (n:=4) (cInt .u64)) x113) 34) ∧ H[b11]? = some (.cells ((cArr (n:=4) (cInt .u64)) x114) 34) ∧ H[b67]? = some (.cells (ref01_Set.c x117) 68) ∧ Iv c.nb [] H0 H) ?_ ?_ ?_
   ·exact ⟨x0_86,x87,x88,x8_89,x9_90,x91,x11_92,hm,h94,h95,h96,h97,h98,h99,h100,f101,f102,f103,i104⟩
   ·rintro ⟨σ,H,d⟩ ⟨_,_,_,_,_,_,_,hm,_⟩
    cases hm
   ·intro k2 K n119 x120
    rintro ⟨σ133,H121,d134⟩ ⟨x0_112,x113,x114,x8_115,x9_116,x117,x11_118,hm,h122,h123,h124,h125,h126,h127,h128,f129,f130,f131,i132⟩
    rw [b_ref06_Class_2.eq_2] at hm
    refine tk_seq_k fun K n135 x136=>?_
    refine tk_os okM hok fun J hJ=>?_
    obtain ⟨y139,ey139,hm⟩:=bind_s hm
    refine rn_k (fun ⟨σ,H,_⟩=>Lk σ 0 (.string (x0_112)) ∧ Lk σ 4 (.pointer (some ⟨b1,0,none⟩)) ∧ Lk σ 7 (.pointer (some ⟨b11,0,none⟩)) ∧ Lk σ 8 (.bool (x8_115)) ∧ Lk σ 9 (.int .i64 (x9_116)) ∧ Lk σ 10 (.pointer (some ⟨b67,0,none⟩)) ∧ Lk σ 11 (.int .i64 (x11_118)) ∧ Lk σ 53 (.bool (y139)) ∧ H[b1]? = some (.cells ((cArr (n:=4) (cInt .u64)) x113) 34) ∧ H[b11]? = some (.cells ((cArr (n:=4) (cInt .u64)) x114) 34) ∧ H[b67]? = some (.cells (ref01_Set.c x117) 68) ∧ Iv c.nb [] H0 H) (fun J hJ=>?_) ?_
    ·skip
     cases g153:decide (x11_118 = 0)
     ·skip
      have ey139:=cond_f ey139 g153
      obtain ⟨v155,ev155,ey139⟩:=bind_s ey139
      have a154:=ha_ref06_starts c.ro H121 x0_112 x9_116 ((⟨#[93]⟩:ByteArray)) v155 ev155
      obtain rfl:=Option.some.inj ey139
      simp only [C.f16r8,R,Nat.reduceEqDiff,h128,g153,h122,h126,c_fn F28,a154]
      refine hJ _ ?_
      exact ⟨h122,h123,h124,h125,h126,h127,h128,(by first | rfl | (simp only [g153]; rfl) | simp only [g153,Lk,RB,Nat.reduceEqDiff,not_false_eq_true]),f129,f130,f131,i132⟩
     ·skip
      have ey139:=cond_t ey139 g153
      obtain rfl:=Option.some.inj ey139
      simp only [C.f16r8,R,Nat.reduceEqDiff,h128,g153]
      refine hJ _ ?_
      exact ⟨h122,h123,h124,h125,h126,h127,h128,(by first | rfl | (simp only [g153]; rfl) | simp only [g153,Lk,RB,Nat.reduceEqDiff,not_false_eq_true]),f129,f130,f131,i132⟩
    rintro ⟨σ156,H140,d157⟩ ⟨h141,h142,h143,h144,h145,h146,h147,h148,f149,f150,f151,i152⟩
    refine hJ _ ?_
    refine tk_cond (t:=y139) h148 (fun g158=>?_) (fun g158=>?_)
    ·replace hm:=cond_t hm g158
     refine tk_skip okM ?_
     refine n135 _ ?_
     refine tk_block_k fun K n159 e160 x161=>?_
     refine tk_os okM hok fun J hJ=>?_
     obtain ⟨v163,ev163,hm⟩:=bind_s hm
     have a162:=ha_ref06_item c.ro H140 x0_112 x9_116 v163 ev163
     obtain ⟨b164,H165,a166,f167,q168,r169,x170,i171⟩:=al_ok H140 68 (ref01_Set.c ref01_Set.zero) i152.le
     have i172:=i171 _ _ i152
     have f173:=x170 _ _ f149
     have f174:=x170 _ _ f150
     have f175:=x170 _ _ f151
     obtain ⟨H177,a178,f179,u180⟩:=st_ok (M:=Mt) (t:=68) (v:=(vAgg (ref01_Set.c (v163.1)))) (c:=ref01_Set.c v163.1) (cs':=ref01_Set.c v163.1) f167 (by rw [ref01_Set.enc.len]; exact T.sz68) vAgg_cells (ref01_Set.enc.one _) (Nat.le_trans hcn r169) (le0 ref01_Set.enc.len) (wrs_all (eqL ref01_Set.enc.len))
     have i181:=i172.up u180 r169
     have f182:=(u180.get _ (ne_len f149 q168)).trans f173
     have f183:=(u180.get _ (ne_len f150 q168)).trans f174
     have f184:=(u180.get _ (ne_len f151 q168)).trans f175
     simp only [C.f16r9,R,Nat.reduceEqDiff,h141,h145,c_fn F29,a162,zs68,a166,a178]
     refine hJ _ ?_
     refine tk_seq_k fun K n185 x186=>?_
     refine tk_os okM hok fun J hJ=>?_
     simp only [C.f16r10,R,Nat.reduceEqDiff]
     refine hJ _ ?_
     refine tk_cond (t:=decide (v163.2 = 0)) rfl (fun g187=>?_) (fun g187=>?_)
     ·replace hm:=cond_t hm g187
      refine tk_os okM hok fun J hJ=>?_
      have a188:=ld_agg (M:=Mt) (t:=34) f183 T.ag34 (by rw [(enc_arr (n:=4) enc_int).len]; exact T.sz34) Seg.refl
      obtain ⟨H189,a190,f191,u192⟩:=st_ok (M:=Mt) (t:=34) (v:=(vAgg ((cArr (n:=4) (cInt .u64)) (x114)))) (c:=(cArr (n:=4) (cInt .u64)) x114) (cs':=(cArr (n:=4) (cInt .u64)) x114) f182 (by rw [(enc_arr (n:=4) enc_int).len]; exact T.sz34) vAgg_cells ((enc_arr (n:=4) enc_int).one _) (Nat.le_trans hcn r6) (le0 (enc_arr (n:=4) enc_int).len) (wrs_all (eqL (enc_arr (n:=4) enc_int).len))
      have i193:=i181.up u192 r6
      have f194:=(u192.get _ (ne_len f4 q15).symm).trans f183
      have f195:=(u192.get _ (ne_len f50 q71).symm).trans f184
      have f196:=(u192.get _ (ne_len f149 q168).symm).trans f179
      simp only [C.f16r11,R,Nat.reduceEqDiff,a188,h143,a190,h142]
      refine hJ _ ?_
      refine tk_ret okM ?_
      refine x186 _ _ (by simp) ?_
      refine x161 _ _ (by simp) (by simp) ?_
      refine x120 _ _ (by simp) ?_
      refine x111 _ _ (by simp) (by simp) ?_
      refine x108 _ _ (by simp) ?_
      obtain rfl:=Option.some.inj hm
      exact end_flat (.inl rfl) (vs:=[(vAgg ((cArr (n:=4) (cInt .u64)) (x114))),(.int .i64 (0)),(.int .i64 (3))]) (resC' (v:=(vAgg ((cArr (n:=4) (cInt .u64)) (x114)))) h142 (ldv_of (ld_agg (M:=Mt) (t:=34) f191 T.ag34 (by rw [(enc_arr (n:=4) enc_int).len]; exact T.sz34) Seg.refl)) (resT' (v:=(.int .i64 (0))) rfl (resT' (v:=(.int .i64 (3))) rfl resN))) (fm_cons (flat_agg (enc_arr (n:=4) enc_int) _) (fm_cons rfl (fm_cons rfl fm_nil)))
     ·replace hm:=cond_f hm g187
      refine tk_skip okM ?_
      refine n185 _ ?_
      refine tk_seq_j (fun ⟨σ,H,_⟩=>∃ x0_197 x198 x199 x8_200 x201 x11_202 x203 x13_204,b_ref06_Class_3 c_ref06_starts c_ref06_item c_ref01_Min c_ref01_Len c_ref01_Range c_ref01_Or c_ref01_Not c_ref01_Words n (b_ref06_Class_2 c_ref06_starts c_ref06_item c_ref01_Min c_ref01_Len c_ref01_Range c_ref01_Or c_ref01_Not c_ref01_Words n k2) x0_197 x198 x199 x8_200 x201 x11_202 x203 x13_204 = some r ∧ Lk σ 0 (.string x0_197) ∧ Lk σ 4 (.pointer (some ⟨b1,0,none⟩)) ∧ Lk σ 7 (.pointer (some ⟨b11,0,none⟩)) ∧ Lk σ 8 (.bool x8_200) ∧ Lk σ 10 (.pointer (some ⟨b67,0,none⟩)) ∧ Lk σ 11 (.int .i64 x11_202) ∧ Lk σ 12 (.pointer (some ⟨b164,0,none⟩)) ∧ Lk σ 13 (.int .i64 x13_204) ∧ H[b1]? = some (.cells ((cArr (n:=4) (cInt .u64)) x198) 34) ∧ H[b11]? = some (.cells ((cArr (n:=4) (cInt .u64)) x199) 34) ∧ H[b67]? = some (.cells (ref01_Set.c x201) 68) ∧ H[b164]? = some (.cells (ref01_Set.c x203) 68) ∧ Iv c.nb [] H0 H) ?_ ?_
      ·skip
       rintro ⟨σ219,H205,d220⟩ ⟨x0_197,x198,x199,x8_200,x201,x11_202,x203,x13_204,hm,h206,h207,h208,h209,h210,h211,h212,h213,f214,f215,f216,f217,i218⟩
       rw [b_ref06_Class_3] at hm
       refine tk_os okM hok fun J hJ=>?_
       have a221:=ld_agg (M:=Mt) (t:=68) f216 T.ag68 (by rw [ref01_Set.enc.len]; exact T.sz68) Seg.refl
       have a222:=ld_agg (M:=Mt) (t:=68) f217 T.ag68 (by rw [ref01_Set.enc.len]; exact T.sz68) Seg.refl
       obtain ⟨v224,ev224,hm⟩:=bind_s hm
       have a223:=ha_ref01_Or c.ro H205 x201 x203 v224 ev224
       obtain ⟨H225,a226,f227,u228⟩:=st_ok (M:=Mt) (t:=68) (v:=(vAgg (ref01_Set.c (v224)))) (c:=ref01_Set.c v224) (cs':=ref01_Set.c v224) f216 (by rw [ref01_Set.enc.len]; exact T.sz68) vAgg_cells (ref01_Set.enc.one _) (Nat.le_trans hcn r72) (le0 ref01_Set.enc.len) (wrs_all (eqL ref01_Set.enc.len))
       have i229:=i218.up u228 r72
       have f230:=(u228.get _ (ne_len f50 q71)).trans f214
       have f231:=(u228.get _ (ne_len f51 q71)).trans f215
       have f232:=(u228.get _ (ne_len f151 q168).symm).trans f217
       simp only [C.f16r20,R,Nat.reduceEqDiff,a221,h210,a222,h212,c_fn F33,a223,a226]
       refine hJ _ ?_
       refine tk_os okM hok fun J hJ=>?_
       simp only [C.f16r21,R,Nat.reduceEqDiff,h213]
       refine hJ _ ?_
       refine tk_oe okM hok fun J hJ=>?_
       simp only [C.f16r22,R,Nat.reduceEqDiff,h211]
       refine hJ _ ?_
       refine n159 _ ?_
       refine n119 _ ?_
       exact ⟨x0_197,x198,x199,x8_200,x13_204,v224,IntKind.i64.wrap (x11_202 + 1),hm,h206,h207,h208,h209,rfl,h210,rfl,f230,f231,f227,i229⟩
      ·refine fun K n233 x234=>?_
       refine tk_os okM hok fun J hJ=>?_
       obtain ⟨v236,ev236,hm⟩:=bind_s hm
       have a235:=ha_ref06_starts c.ro H177 x0_112 v163.2 ((⟨#[45]⟩:ByteArray)) v236 ev236
       simp only [C.f16r12,R,Nat.reduceEqDiff,h141,c_fn F28,a235]
       refine hJ _ ?_
       refine tk_cond (t:=v236) rfl (fun g237=>?_) (fun g237=>?_)
       ·replace hm:=cond_t hm g237
        refine tk_os okM hok fun J hJ=>?_
        obtain ⟨v239,ev239,hm⟩:=bind_s hm
        have a238:=ha_ref06_item c.ro H177 x0_112 (IntKind.i64.wrap (v163.2 + 1)) v239 ev239
        obtain ⟨b240,H241,a242,f243,q244,r245,x246,i247⟩:=al_ok H177 68 (ref01_Set.c ref01_Set.zero) i181.le
        have i248:=i247 _ _ i181
        have f249:=x246 _ _ f182
        have f250:=x246 _ _ f183
        have f251:=x246 _ _ f184
        have f252:=x246 _ _ f179
        obtain ⟨H254,a255,f256,u257⟩:=st_ok (M:=Mt) (t:=68) (v:=(vAgg (ref01_Set.c (v239.1)))) (c:=ref01_Set.c v239.1) (cs':=ref01_Set.c v239.1) f243 (by rw [ref01_Set.enc.len]; exact T.sz68) vAgg_cells (ref01_Set.enc.one _) (Nat.le_trans hcn r245) (le0 ref01_Set.enc.len) (wrs_all (eqL ref01_Set.enc.len))
        have i258:=i248.up u257 r245
        have f259:=(u257.get _ (ne_len f182 q244)).trans f249
        have f260:=(u257.get _ (ne_len f183 q244)).trans f250
        have f261:=(u257.get _ (ne_len f184 q244)).trans f251
        have f262:=(u257.get _ (ne_len f179 q244)).trans f252
        simp only [C.f16r13,R,Nat.reduceEqDiff,h141,c_fn F29,a238,zs68,a242,a255]
        refine hJ _ ?_
        refine tk_os okM hok fun J hJ=>?_
        have a263:=ld_agg (M:=Mt) (t:=68) f262 T.ag68 (by rw [ref01_Set.enc.len]; exact T.sz68) Seg.refl
        obtain ⟨v265,ev265,hm⟩:=bind_s hm
        have a264:=ha_ref01_Min c.ro H254 v163.1 v265 ev265
        simp only [C.f16r14,R,Nat.reduceEqDiff,a263,c_fn F30,a264]
        refine hJ _ ?_
        refine tk_os okM hok fun J hJ=>?_
        have a266:=ld_agg (M:=Mt) (t:=68) f256 T.ag68 (by rw [ref01_Set.enc.len]; exact T.sz68) Seg.refl
        obtain ⟨v268,ev268,hm⟩:=bind_s hm
        have a267:=ha_ref01_Min c.ro H254 v239.1 v268 ev268
        simp only [C.f16r15,R,Nat.reduceEqDiff,a266,c_fn F30,a267]
        refine hJ _ ?_
        refine tk_seq_k fun K n269 x270=>?_
        refine tk_os okM hok fun J hJ=>?_
        rw [C.f16r16]
        obtain ⟨y274,ey274,hm⟩:=bind_s hm
        refine rn_app_k (fun ⟨σ,H,_⟩=>Lk σ 0 (.string (x0_112)) ∧ Lk σ 4 (.pointer (some ⟨b1,0,none⟩)) ∧ Lk σ 7 (.pointer (some ⟨b11,0,none⟩)) ∧ Lk σ 8 (.bool (x8_115)) ∧ Lk σ 10 (.pointer (some ⟨b67,0,none⟩)) ∧ Lk σ 11 (.int .i64 (x11_118)) ∧ Lk σ 12 (.pointer (some ⟨b164,0,none⟩)) ∧ Lk σ 14 (.pointer (some ⟨b240,0,none⟩)) ∧ Lk σ 15 (.int .i64 (v239.2)) ∧ Lk σ 16 (.int .u8 (v265.1)) ∧ Lk σ 18 (.int .u8 (v268.1)) ∧ Lk σ 89 (.bool (y274)) ∧ H[b1]? = some (.cells ((cArr (n:=4) (cInt .u64)) x113) 34) ∧ H[b11]? = some (.cells ((cArr (n:=4) (cInt .u64)) x114) 34) ∧ H[b67]? = some (.cells (ref01_Set.c x117) 68) ∧ H[b164]? = some (.cells (ref01_Set.c v163.1) 68) ∧ H[b240]? = some (.cells (ref01_Set.c v239.1) 68) ∧ Iv c.nb [] H0 H) (fun J hJ=>?_) ?_
        ·skip
         cases g294:decide (v239.2 = 0)
         ·skip
          have ey274:=cond_f ey274 g294
          have a295:=ld_agg (M:=Mt) (t:=68) f262 T.ag68 (by rw [ref01_Set.enc.len]; exact T.sz68) Seg.refl
          obtain ⟨v297,ev297,ey274⟩:=bind_s ey274
          have a296:=ha_ref01_Len c.ro H254 v163.1 v297 ev297
          obtain rfl:=Option.some.inj ey274
          simp only [C.f16r16p0,R,Nat.reduceEqDiff,g294,a295,c_fn F31,a296]
          refine hJ _ ?_
          exact ⟨h141,h142,h143,h144,h146,h147,rfl,rfl,(by first | rfl | (simp only [g294]; rfl) | simp only [g294,Lk,RB,Nat.reduceEqDiff,not_false_eq_true]),(by first | rfl | (simp only [g294]; rfl) | simp only [g294,Lk,RB,Nat.reduceEqDiff,not_false_eq_true]),(by first | rfl | (simp only [g294]; rfl) | simp only [g294,Lk,RB,Nat.reduceEqDiff,not_false_eq_true]),(by first | rfl | (simp only [g294]; rfl) | simp only [g294,Lk,RB,Nat.reduceEqDiff,not_false_eq_true]),f259,f260,f261,f262,f256,i258⟩
         ·skip
          have ey274:=cond_t ey274 g294
          obtain rfl:=Option.some.inj ey274
          simp only [C.f16r16p0,R,Nat.reduceEqDiff,g294]
          refine hJ _ ?_
          exact ⟨h141,h142,h143,h144,h146,h147,rfl,rfl,(by first | rfl | (simp only [g294]; rfl) | simp only [g294,Lk,RB,Nat.reduceEqDiff,not_false_eq_true]),(by first | rfl | (simp only [g294]; rfl) | simp only [g294,Lk,RB,Nat.reduceEqDiff,not_false_eq_true]),(by first | rfl | (simp only [g294]; rfl) | simp only [g294,Lk,RB,Nat.reduceEqDiff,not_false_eq_true]),(by first | rfl | (simp only [g294]; rfl) | simp only [g294,Lk,RB,Nat.reduceEqDiff,not_false_eq_true]),f259,f260,f261,f262,f256,i258⟩
        rintro ⟨σ298,H275,d299⟩ ⟨h276,h277,h278,h279,h280,h281,h282,h283,h284,h285,h286,h287,f288,f289,f290,f291,f292,i293⟩
        obtain ⟨y303,ey303,hm⟩:=bind_s hm
        refine rn_app_k (fun ⟨σ,H,_⟩=>Lk σ 0 (.string (x0_112)) ∧ Lk σ 4 (.pointer (some ⟨b1,0,none⟩)) ∧ Lk σ 7 (.pointer (some ⟨b11,0,none⟩)) ∧ Lk σ 8 (.bool (x8_115)) ∧ Lk σ 10 (.pointer (some ⟨b67,0,none⟩)) ∧ Lk σ 11 (.int .i64 (x11_118)) ∧ Lk σ 12 (.pointer (some ⟨b164,0,none⟩)) ∧ Lk σ 15 (.int .i64 (v239.2)) ∧ Lk σ 16 (.int .u8 (v265.1)) ∧ Lk σ 18 (.int .u8 (v268.1)) ∧ Lk σ 94 (.bool (y303)) ∧ H[b1]? = some (.cells ((cArr (n:=4) (cInt .u64)) x113) 34) ∧ H[b11]? = some (.cells ((cArr (n:=4) (cInt .u64)) x114) 34) ∧ H[b67]? = some (.cells (ref01_Set.c x117) 68) ∧ H[b164]? = some (.cells (ref01_Set.c v163.1) 68) ∧ Iv c.nb [] H0 H) (fun J hJ=>?_) ?_
        ·skip
         cases g321:y274
         ·skip
          have ey303:=cond_f ey303 g321
          have a322:=ld_agg (M:=Mt) (t:=68) f292 T.ag68 (by rw [ref01_Set.enc.len]; exact T.sz68) Seg.refl
          obtain ⟨v324,ev324,ey303⟩:=bind_s ey303
          have a323:=ha_ref01_Len c.ro H275 v239.1 v324 ev324
          obtain rfl:=Option.some.inj ey303
          simp only [C.f16r16p1,R,Nat.reduceEqDiff,h287,g321,a322,h283,c_fn F31,a323]
          refine hJ _ ?_
          exact ⟨h276,h277,h278,h279,h280,h281,h282,h284,h285,h286,(by first | rfl | (simp only [g321]; rfl) | simp only [g321,Lk,RB,Nat.reduceEqDiff,not_false_eq_true]),f288,f289,f290,f291,i293⟩
         ·skip
          have ey303:=cond_t ey303 g321
          obtain rfl:=Option.some.inj ey303
          simp only [C.f16r16p1,R,Nat.reduceEqDiff,h287,g321]
          refine hJ _ ?_
          exact ⟨h276,h277,h278,h279,h280,h281,h282,h284,h285,h286,(by first | rfl | (simp only [g321]; rfl) | simp only [g321,Lk,RB,Nat.reduceEqDiff,not_false_eq_true]),f288,f289,f290,f291,i293⟩
        rintro ⟨σ325,H304,d326⟩ ⟨h305,h306,h307,h308,h309,h310,h311,h312,h313,h314,h315,f316,f317,f318,f319,i320⟩
        refine rn_k (fun ⟨σ,H,_⟩=>Lk σ 0 (.string (x0_112)) ∧ Lk σ 4 (.pointer (some ⟨b1,0,none⟩)) ∧ Lk σ 7 (.pointer (some ⟨b11,0,none⟩)) ∧ Lk σ 8 (.bool (x8_115)) ∧ Lk σ 10 (.pointer (some ⟨b67,0,none⟩)) ∧ Lk σ 11 (.int .i64 (x11_118)) ∧ Lk σ 12 (.pointer (some ⟨b164,0,none⟩)) ∧ Lk σ 15 (.int .i64 (v239.2)) ∧ Lk σ 16 (.int .u8 (v265.1)) ∧ Lk σ 18 (.int .u8 (v268.1)) ∧ Lk σ 99 (.bool (y303 || (decide (v268.1 < v265.1)))) ∧ H[b1]? = some (.cells ((cArr (n:=4) (cInt .u64)) x113) 34) ∧ H[b11]? = some (.cells ((cArr (n:=4) (cInt .u64)) x114) 34) ∧ H[b67]? = some (.cells (ref01_Set.c x117) 68) ∧ H[b164]? = some (.cells (ref01_Set.c v163.1) 68) ∧ Iv c.nb [] H0 H) (fun J hJ=>?_) ?_
        ·skip
         cases g344:y303
         ·skip
          simp only [C.f16r16p2,R,Nat.reduceEqDiff,h315,g344,h314,h313]
          refine hJ _ ?_
          exact ⟨h305,h306,h307,h308,h309,h310,h311,h312,h313,h314,(by first | rfl | (simp only [g344]; rfl) | simp only [g344,Lk,RB,Nat.reduceEqDiff,not_false_eq_true]),f316,f317,f318,f319,i320⟩
         ·skip
          simp only [C.f16r16p2,R,Nat.reduceEqDiff,h315,g344]
          refine hJ _ ?_
          exact ⟨h305,h306,h307,h308,h309,h310,h311,h312,h313,h314,(by first | rfl | (simp only [g344]; rfl) | simp only [g344,Lk,RB,Nat.reduceEqDiff,not_false_eq_true]),f316,f317,f318,f319,i320⟩
        rintro ⟨σ345,H327,d346⟩ ⟨h328,h329,h330,h331,h332,h333,h334,h335,h336,h337,h338,f339,f340,f341,f342,i343⟩
        refine hJ _ ?_
        refine tk_cond (t:=y303 || (decide (v268.1 < v265.1))) h338 (fun g347=>?_) (fun g347=>?_)
        ·replace hm:=cond_t hm g347
         refine tk_os okM hok fun J hJ=>?_
         have a348:=ld_agg (M:=Mt) (t:=34) f340 T.ag34 (by rw [(enc_arr (n:=4) enc_int).len]; exact T.sz34) Seg.refl
         obtain ⟨H349,a350,f351,u352⟩:=st_ok (M:=Mt) (t:=34) (v:=(vAgg ((cArr (n:=4) (cInt .u64)) (x114)))) (c:=(cArr (n:=4) (cInt .u64)) x114) (cs':=(cArr (n:=4) (cInt .u64)) x114) f339 (by rw [(enc_arr (n:=4) enc_int).len]; exact T.sz34) vAgg_cells ((enc_arr (n:=4) enc_int).one _) (Nat.le_trans hcn r6) (le0 (enc_arr (n:=4) enc_int).len) (wrs_all (eqL (enc_arr (n:=4) enc_int).len))
         have i353:=i343.up u352 r6
         have f354:=(u352.get _ (ne_len f4 q15).symm).trans f340
         have f355:=(u352.get _ (ne_len f50 q71).symm).trans f341
         have f356:=(u352.get _ (ne_len f149 q168).symm).trans f342
         simp only [C.f16r17,R,Nat.reduceEqDiff,a348,h330,a350,h329]
         refine hJ _ ?_
         refine tk_ret okM ?_
         refine x270 _ _ (by simp) ?_
         refine x234 _ _ (by simp) ?_
         refine x161 _ _ (by simp) (by simp) ?_
         refine x120 _ _ (by simp) ?_
         refine x111 _ _ (by simp) (by simp) ?_
         refine x108 _ _ (by simp) ?_
         obtain rfl:=Option.some.inj hm
         exact end_flat (.inl rfl) (vs:=[(vAgg ((cArr (n:=4) (cInt .u64)) (x114))),(.int .i64 (0)),(.int .i64 (3))]) (resC' (v:=(vAgg ((cArr (n:=4) (cInt .u64)) (x114)))) h329 (ldv_of (ld_agg (M:=Mt) (t:=34) f351 T.ag34 (by rw [(enc_arr (n:=4) enc_int).len]; exact T.sz34) Seg.refl)) (resT' (v:=(.int .i64 (0))) rfl (resT' (v:=(.int .i64 (3))) rfl resN))) (fm_cons (flat_agg (enc_arr (n:=4) enc_int) _) (fm_cons rfl (fm_cons rfl fm_nil)))
        ·replace hm:=cond_f hm g347
         refine tk_skip okM ?_
         refine n269 _ ?_
         refine tk_os okM hok fun J hJ=>?_
         obtain ⟨v358,ev358,hm⟩:=bind_s hm
         have a357:=ha_ref01_Range c.ro H327 v265.1 v268.1 v358 ev358
         obtain ⟨H359,a360,f361,u362⟩:=st_ok (M:=Mt) (t:=68) (v:=(vAgg (ref01_Set.c (v358)))) (c:=ref01_Set.c v358) (cs':=ref01_Set.c v358) f342 (by rw [ref01_Set.enc.len]; exact T.sz68) vAgg_cells (ref01_Set.enc.one _) (Nat.le_trans hcn r169) (le0 ref01_Set.enc.len) (wrs_all (eqL ref01_Set.enc.len))
         have i363:=i343.up u362 r169
         have f364:=(u362.get _ (ne_len f149 q168)).trans f339
         have f365:=(u362.get _ (ne_len f150 q168)).trans f340
         have f366:=(u362.get _ (ne_len f151 q168)).trans f341
         simp only [C.f16r18,R,Nat.reduceEqDiff,h336,h337,c_fn F32,a357,a360,h334]
         refine hJ _ ?_
         refine tk_oe okM hok fun J hJ=>?_
         simp only [C.f16r19,R,Nat.reduceEqDiff,h335]
         refine hJ _ ?_
         refine n233 _ ?_
         exact ⟨x0_112,x113,x114,x8_115,x117,x11_118,v358,v239.2,hm,h328,h329,h330,h331,h332,h333,h334,rfl,f364,f365,f366,f361,i363⟩
       ·replace hm:=cond_f hm g237
        refine tk_skip okM ?_
        refine n233 _ ?_
        exact ⟨x0_112,x113,x114,x8_115,x117,x11_118,v163.1,v163.2,hm,h141,h142,h143,h144,h146,h147,rfl,rfl,f182,f183,f184,f179,i181⟩
    ·replace hm:=cond_f hm g158
     refine tk_exit okM ?_
     refine x136 _ _ (by simp) ?_
     refine x120 _ _ (by simp) ?_
     refine e110 _ ?_
     refine n107 _ ?_
     refine tk_seq_j (fun ⟨σ,H,_⟩=>∃ x367 x9_368 x369,b_ref06_Class_4 c_ref06_starts c_ref06_item c_ref01_Min c_ref01_Len c_ref01_Range c_ref01_Or c_ref01_Not c_ref01_Words n x367 x9_368 x369 = some r ∧ Lk σ 4 (.pointer (some ⟨b1,0,none⟩)) ∧ Lk σ 9 (.int .i64 x9_368) ∧ Lk σ 10 (.pointer (some ⟨b67,0,none⟩)) ∧ H[b1]? = some (.cells ((cArr (n:=4) (cInt .u64)) x367) 34) ∧ H[b67]? = some (.cells (ref01_Set.c x369) 68) ∧ Iv c.nb [] H0 H) ?_ ?_
     ·skip
      rintro ⟨σ377,H370,d378⟩ ⟨x367,x9_368,x369,hm,h371,h372,h373,f374,f375,i376⟩
      rw [b_ref06_Class_4] at hm
      refine tk_os okM hok fun J hJ=>?_
      have a379:=ld_agg (M:=Mt) (t:=68) f375 T.ag68 (by rw [ref01_Set.enc.len]; exact T.sz68) Seg.refl
      obtain ⟨v381,ev381,hm⟩:=bind_s hm
      have a380:=ha_ref01_Words c.ro H370 x369 v381 ev381
      obtain ⟨H382,a383,f384,u385⟩:=st_ok (M:=Mt) (t:=34) (v:=(vAgg ((cArr (n:=4) (cInt .u64)) (v381)))) (c:=(cArr (n:=4) (cInt .u64)) v381) (cs':=(cArr (n:=4) (cInt .u64)) v381) f374 (by rw [(enc_arr (n:=4) enc_int).len]; exact T.sz34) vAgg_cells ((enc_arr (n:=4) enc_int).one _) (Nat.le_trans hcn r6) (le0 (enc_arr (n:=4) enc_int).len) (wrs_all (eqL (enc_arr (n:=4) enc_int).len))
      have i386:=i376.up u385 r6
      have f387:=(u385.get _ (ne_len f50 q71).symm).trans f375
      simp only [C.f16r25,R,Nat.reduceEqDiff,a379,h373,c_fn F35,a380,h372,a383,h371]
      refine hJ _ ?_
      refine tk_ret okM ?_
      obtain rfl:=Option.some.inj hm
      exact end_flat (.inl rfl) (vs:=[(vAgg ((cArr (n:=4) (cInt .u64)) (v381))),(.int .i64 (IntKind.i64.wrap (x9_368 + 1))),(.int .i64 (0))]) (resC' (v:=(vAgg ((cArr (n:=4) (cInt .u64)) (v381)))) h371 (ldv_of (ld_agg (M:=Mt) (t:=34) f384 T.ag34 (by rw [(enc_arr (n:=4) enc_int).len]; exact T.sz34) Seg.refl)) (resT' (v:=(.int .i64 (IntKind.i64.wrap (x9_368 + 1)))) rfl (resT' (v:=(.int .i64 (0))) rfl resN))) (fm_cons (flat_agg (enc_arr (n:=4) enc_int) _) (fm_cons rfl (fm_cons rfl fm_nil)))
     ·refine fun K n388 x389=>?_
      refine tk_os okM hok fun J hJ=>?_
      simp only [C.f16r23,R,Nat.reduceEqDiff,h144]
      refine hJ _ ?_
      refine tk_cond (t:=x8_115) rfl (fun g390=>?_) (fun g390=>?_)
      ·replace hm:=cond_t hm g390
       refine tk_oe okM hok fun J hJ=>?_
       have a391:=ld_agg (M:=Mt) (t:=68) f151 T.ag68 (by rw [ref01_Set.enc.len]; exact T.sz68) Seg.refl
       obtain ⟨v393,ev393,hm⟩:=bind_s hm
       have a392:=ha_ref01_Not c.ro H140 x117 v393 ev393
       obtain ⟨H394,a395,f396,u397⟩:=st_ok (M:=Mt) (t:=68) (v:=(vAgg (ref01_Set.c (v393)))) (c:=ref01_Set.c v393) (cs':=ref01_Set.c v393) f151 (by rw [ref01_Set.enc.len]; exact T.sz68) vAgg_cells (ref01_Set.enc.one _) (Nat.le_trans hcn r72) (le0 ref01_Set.enc.len) (wrs_all (eqL ref01_Set.enc.len))
       have i398:=i152.up u397 r72
       have f399:=(u397.get _ (ne_len f50 q71)).trans f149
       simp only [C.f16r24,R,Nat.reduceEqDiff,a391,h146,c_fn F34,a392,a395]
       refine hJ _ ?_
       refine n388 _ ?_
       exact ⟨x113,x9_116,v393,hm,h142,h145,h146,f399,f396,i398⟩
      ·replace hm:=cond_f hm g390
       refine tk_skip okM ?_
       refine n388 _ ?_
       exact ⟨x113,x9_116,x117,hm,h142,h145,h146,f149,f151,i152⟩
  ·refine fun K n400 x401=>?_
   refine tk_os okM hok fun J hJ=>?_
   simp only [C.f16r6,R,Nat.reduceEqDiff]
   refine hJ _ ?_
   refine tk_cond (t:=v66) rfl (fun g402=>?_) (fun g402=>?_)
   ·replace hm:=cond_t hm g402
    refine tk_oe okM hok fun J hJ=>?_
    simp only [C.f16r7,R,Nat.reduceEqDiff]
    refine hJ _ ?_
    refine n400 _ ?_
    exact ⟨x0,(Arr.rep 4 0),(Arr.rep 4 0),v66,IntKind.i64.wrap ((IntKind.i64.wrap (x1 + 1)) + 1),ref01_Set.zero,0,hm,h45,h47,h48,rfl,rfl,rfl,rfl,f84,f85,f81,i83⟩
   ·replace hm:=cond_f hm g402
    refine tk_skip okM ?_
    refine n400 _ ?_
    exact ⟨x0,(Arr.rep 4 0),(Arr.rep 4 0),v66,IntKind.i64.wrap (x1 + 1),ref01_Set.zero,0,hm,h45,h47,h48,rfl,rfl,rfl,rfl,f84,f85,f81,i83⟩
def b_class_One (c_class_Set_add:T_class_Set_add) (n:Nat) (x0:Int):Option (class_Set):=(c_class_Set_add class_Set.zero x0).bind fun v23=>some v23
theorem w_class_One {call:CallF} (hok:CallOk Mt call) {n:Nat} {c_class_Set_add:T_class_Set_add} (ha_class_Set_add:A_class_Set_add call c_class_Set_add) {H0:Hp} {x0:Int} {r:class_Set} {ro:Nat} (hro:ro ≤ H0.length) (hm:b_class_One c_class_Set_add n x0 = some r) :
  Pt Mt ro 17 [(.int .u8 x0)] H0 (vAgg (class_Set.c (r))) H0 []:=by
 refine pt_new0 okM F17d (by exact Nat.le_of_ble_eq_true rfl) ?_ hro
 intro c hnt hnb hcr
 have hcn:c.ro ≤ c.nb:=by omega
 have iv:Iv c.nb [] H0 H0:=by rw [hnb]; exact iv_refl
 rw [show args0 [(.int .u8 x0)] = [(0,(.int .u8 x0))] from rfl]
 rw [b_class_One] at hm
 simp only [C.f17]
 refine tk_os okM hok fun J hJ=>?_
 obtain ⟨b1,H2,a3,f4,q5,r6,x7,i8⟩:=al_ok H0 36 (class_Set.c class_Set.zero) iv.le
 have i9:=i8 _ _ iv
 simp only [C.f17r0,R,Nat.reduceEqDiff,zs36,a3]
 refine hJ _ ?_
 refine tk_os okM hok fun J hJ=>?_
 obtain ⟨b11,H12,a13,f14,q15,r16,x17,i18⟩:=al_ok H2 36 (class_Set.c class_Set.zero) i9.le
 have i19:=i18 _ _ i9
 have f20:=x17 _ _ f4
 simp only [C.f17r1,R,Nat.reduceEqDiff,zs36,a13]
 refine hJ _ ?_
 refine tk_os okM hok fun J hJ=>?_
 obtain ⟨v23,ev23,hm⟩:=bind_s hm
 have a22:=ha_class_Set_add c.ro H12 class_Set.zero b11 x0 v23 f14 (Nat.le_trans hcn r16) ev23
 obtain ⟨H24,q25⟩:∃ x,x = H12.set b11 (.cells (class_Set.c v23) 36):=⟨_,rfl⟩
 rw [← q25] at a22
 have u26:Up b11 H12 H24:=by rw [q25]; exact up_set
 have f27:H24[b11]? = some (.cells (class_Set.c v23) 36):=by rw [q25]; exact get_set f14
 have i28:=i19.up u26 r16
 have f29:=(u26.get _ (ne_len f4 q15)).trans f20
 simp only [C.f17r2,R,Nat.reduceEqDiff,c_fn F36,a22]
 refine hJ _ ?_
 refine tk_os okM hok fun J hJ=>?_
 have a30:=ld_agg (M:=Mt) (t:=36) f27 T.ag36 (by rw [class_Set.enc.len]; exact T.sz36) Seg.refl
 obtain ⟨H31,a32,f33,u34⟩:=st_ok (M:=Mt) (t:=36) (v:=(vAgg (class_Set.c (v23)))) (c:=class_Set.c v23) (cs':=class_Set.c v23) f29 (by rw [class_Set.enc.len]; exact T.sz36) vAgg_cells (class_Set.enc.one _) (Nat.le_trans hcn r6) (le0 class_Set.enc.len) (wrs_all (eqL class_Set.enc.len))
 have i35:=i28.up u34 r6
 have f36:=(u34.get _ (ne_len f4 q15).symm).trans f27
 simp only [C.f17r3,R,Nat.reduceEqDiff,a30,a32]
 refine hJ _ ?_
 refine tk_ret okM ?_
 obtain rfl:=Option.some.inj hm
 exact end_flat (.inl rfl) (vs:=[(vAgg (class_Set.c (v23)))]) (resC' (v:=(vAgg (class_Set.c (v23)))) rfl (ldv_of (ld_agg (M:=Mt) (t:=36) f33 T.ag36 (by rw [class_Set.enc.len]; exact T.sz36) Seg.refl)) resN) (fm_cons (flat_agg class_Set.enc _) fm_nil)
def b_class_Of_1 (c_class_Set_add:T_class_Set_add) (n:Nat):Nat → class_Set → class_Set → Sl Int → Int → Int → Option (class_Set)
 | 0,_,_,_,_,_=>none
 | k + 1,x39,x40,l41,x8_43,x9_44=>bif decide (x9_44 < x8_43) then ((ck (Sl.l l41).length x9_44).bind fun j70=>(c_class_Set_add x40 (Sl.nth l41 j70)).bind fun v75=>b_class_Of_1 c_class_Set_add n k x39 v75 l41 x8_43 (IntKind.i64.wrap (x9_44 + 1))) else (some x40)
def b_class_Of (c_class_Set_add:T_class_Set_add) (n:Nat) (x0:ByteArray):Option (class_Set):=b_class_Of_1 c_class_Set_add n n class_Set.zero class_Set.zero (some (bytesOf x0)) (Sl.len (some (bytesOf x0))) 0
theorem w_class_Of {call:CallF} (hok:CallOk Mt call) {n:Nat} {c_class_Set_add:T_class_Set_add} (ha_class_Set_add:A_class_Set_add call c_class_Set_add) {H0:Hp} {x0:ByteArray} {r:class_Set} {ro:Nat} (hro:ro ≤ H0.length) (hm:b_class_Of c_class_Set_add n x0 = some r) :
  Pt Mt ro 18 [(.string x0)] H0 (vAgg (class_Set.c (r))) H0 []:=by
 refine pt_new0 okM F18d (by exact Nat.le_of_ble_eq_true rfl) ?_ hro
 intro c hnt hnb hcr
 have hcn:c.ro ≤ c.nb:=by omega
 have iv:Iv c.nb [] H0 H0:=by rw [hnb]; exact iv_refl
 rw [show args0 [(.string x0)] = [(0,(.string x0))] from rfl]
 rw [b_class_Of] at hm
 simp only [C.f18,C.f18b0]
 refine tk_os okM hok fun J hJ=>?_
 obtain ⟨b1,H2,a3,f4,q5,r6,x7,i8⟩:=al_ok H0 36 (class_Set.c class_Set.zero) iv.le
 have i9:=i8 _ _ iv
 simp only [C.f18r0,R,Nat.reduceEqDiff,zs36,a3]
 refine hJ _ ?_
 refine tk_os okM hok fun J hJ=>?_
 obtain ⟨b11,H12,a13,f14,q15,r16,x17,i18⟩:=al_ok H2 36 (class_Set.c class_Set.zero) i9.le
 have i19:=i18 _ _ i9
 have f20:=x17 _ _ f4
 simp only [C.f18r1,R,Nat.reduceEqDiff,zs36,a13]
 refine hJ _ ?_
 refine tk_seq_k fun K n22 x23=>?_
 refine tk_os okM hok fun J hJ=>?_
 obtain ⟨b24,H25,a26,f27,q28,r29,x30,i31⟩:=cv_s2b (M:=Mt) (t:=9) (u:=43) H12 x0 i19.le Tryd.underlying9 Tryd.underlying43 Tryd.underlying5 T.sz5
 have i32:=i31 _ _ i19
 have f33:=x30 _ _ f20
 have f34:=x30 _ _ f14
 simp only [C.f18r2,R,Nat.reduceEqDiff,a26,ln43]
 refine hJ _ ?_
 refine tk_block_k fun K n36 e37 x38=>?_
 refine tk_loop_k (n:=n) (fun k1 ⟨σ,H,_⟩=>∃ x39 x40 l41 x8_43 x9_44 b42,b_class_Of_1 c_class_Set_add n k1 x39 x40 l41 x8_43 x9_44 = some r ∧ Lk σ 2 (.pointer (some ⟨b1,0,none⟩)) ∧ Lk σ 3 (.pointer (some ⟨b11,0,none⟩)) ∧ Lk σ 7 (slV l41 b42) ∧ Lk σ 8 (.int .i64 x8_43) ∧ Lk σ 9 (.int .i64 x9_44) ∧ H[b1]? = some (.cells (class_Set.c x39) 36) ∧ H[b11]? = some (.cells (class_Set.c x40) 36) ∧ SlO c.nb H (cInt .u8) 5 l41 b42 ∧ (l41 ≠ none → b42 ≠ b1) ∧ (l41 ≠ none → b42 ≠ b11) ∧ Iv c.nb [] H0 H) ?_ ?_ ?_
 ·exact ⟨class_Set.zero,class_Set.zero,some (bytesOf x0),Sl.len (some (bytesOf x0)),0,b24,hm,rfl,rfl,rfl,rfl,rfl,f33,f34,f27,(fun _=>(ne_len f20 q28).symm),(fun _=>(ne_len f14 q28).symm),i32⟩
 ·rintro ⟨σ,H,d⟩ ⟨_,_,_,_,_,_,hm,_⟩
  cases hm
 ·intro k1 K n45 x46
  rintro ⟨σ60,H47,d61⟩ ⟨x39,x40,l41,x8_43,x9_44,b42,hm,h49,h50,h51,h52,h53,f54,f55,f56,n57,n58,i59⟩
  rw [b_class_Of_1.eq_2] at hm
  refine tk_os okM hok fun J hJ=>?_
  simp only [C.f18r3,R,Nat.reduceEqDiff,h53,h52]
  refine hJ _ ?_
  refine tk_seq_k fun K n62 x63=>?_
  refine tk_cond (t:=decide (x9_44 < x8_43)) rfl (fun g64=>?_) (fun g64=>?_)
  ·replace hm:=cond_t hm g64
   refine tk_skip okM ?_
   refine n62 _ ?_
   refine tk_seq_k fun K n65 x66=>?_
   refine tk_block_k fun K n67 e68 x69=>?_
   refine tk_os okM hok fun J hJ=>?_
   obtain ⟨j70,ej70,hm⟩:=bind_s hm
   obtain ⟨mm71,k72⟩:=f56.h.blk (ck_lt ej70).1
   have a73:=ld_one (M:=Mt) (t:=5) k72 T.ag5 (seg_sl enc_int.len mm71 (ck_lt ej70).1)
   simp only [C.f18r4,R,Nat.reduceEqDiff,ia43,ej70,h51,h53,a73]
   refine hJ _ ?_
   refine tk_oe okM hok fun J hJ=>?_
   obtain ⟨v75,ev75,hm⟩:=bind_s hm
   have a74:=ha_class_Set_add c.ro H47 x40 b11 (Sl.nth l41 j70) v75 f55 (Nat.le_trans hcn r16) ev75
   obtain ⟨H76,q77⟩:∃ x,x = H47.set b11 (.cells (class_Set.c v75) 36):=⟨_,rfl⟩
   rw [← q77] at a74
   have u78:Up b11 H47 H76:=by rw [q77]; exact up_set
   have f79:H76[b11]? = some (.cells (class_Set.c v75) 36):=by rw [q77]; exact get_set f55
   have i80:=i59.up u78 r16
   have f81:=(u78.get _ (ne_len f4 q15)).trans f54
   have f82:=f56.up u78 n58
   simp only [C.f18r5,R,Nat.reduceEqDiff,c_fn F36,a74,h50]
   refine hJ _ ?_
   refine n67 _ ?_
   refine n65 _ ?_
   refine tk_oe okM hok fun J hJ=>?_
   simp only [C.f18r6,R,Nat.reduceEqDiff,h53]
   refine hJ _ ?_
   refine n45 _ ?_
   exact ⟨x39,v75,l41,x8_43,IntKind.i64.wrap (x9_44 + 1),b42,hm,h49,h50,h51,h52,rfl,f81,f79,f82,n57,n58,i80⟩
  ·replace hm:=cond_f hm g64
   refine tk_exit okM ?_
   refine x63 _ _ (by simp) ?_
   refine x46 _ _ (by simp) ?_
   refine e37 _ ?_
   refine n22 _ ?_
   refine tk_os okM hok fun J hJ=>?_
   have a83:=ld_agg (M:=Mt) (t:=36) f55 T.ag36 (by rw [class_Set.enc.len]; exact T.sz36) Seg.refl
   obtain ⟨H84,a85,f86,u87⟩:=st_ok (M:=Mt) (t:=36) (v:=(vAgg (class_Set.c (x40)))) (c:=class_Set.c x40) (cs':=class_Set.c x40) f54 (by rw [class_Set.enc.len]; exact T.sz36) vAgg_cells (class_Set.enc.one _) (Nat.le_trans hcn r6) (le0 class_Set.enc.len) (wrs_all (eqL class_Set.enc.len))
   have i88:=i59.up u87 r6
   have f89:=(u87.get _ (ne_len f4 q15).symm).trans f55
   have f90:=f56.up u87 n57
   simp only [C.f18r7,R,Nat.reduceEqDiff,a83,h50,a85,h49]
   refine hJ _ ?_
   refine tk_ret okM ?_
   obtain rfl:=Option.some.inj hm
   exact end_flat (.inl rfl) (vs:=[(vAgg (class_Set.c (x40)))]) (resC' (v:=(vAgg (class_Set.c (x40)))) h49 (ldv_of (ld_agg (M:=Mt) (t:=36) f86 T.ag36 (by rw [class_Set.enc.len]; exact T.sz36) Seg.refl)) resN) (fm_cons (flat_agg class_Set.enc _) fm_nil)
def b_class_Set_Has (n:Nat) (x0:class_Set) (x1:Int):Option (Bool):=(quoO .u8 x1 64).bind fun v11=>(ck 4 v11).bind fun j12=>(remO x1 64).bind fun v14=>(shrO .u64 (x0.f_W.nth j12) v14).bind fun v15=>some (decide ((andI .u64 v15 1) = 1))
theorem w_class_Set_Has {call:CallF} (hok:CallOk Mt call) {n:Nat} {H0:Hp} {x0:class_Set} {x1:Int} {r:Bool} {ro:Nat} (hro:ro ≤ H0.length) (hm:b_class_Set_Has n x0 x1 = some r) :
  Pt Mt ro 19 [(vAgg (class_Set.c x0)),(.int .u8 x1)] H0 (.bool (r)) H0 []:=by
 refine pt_new0 okM F19d (by exact Nat.le_of_ble_eq_true rfl) ?_ hro
 intro c hnt hnb hcr
 have hcn:c.ro ≤ c.nb:=by omega
 have iv:Iv c.nb [] H0 H0:=by rw [hnb]; exact iv_refl
 rw [show args0 [(vAgg (class_Set.c x0)),(.int .u8 x1)] = [(0,(vAgg (class_Set.c x0))),(1,(.int .u8 x1))] from rfl]
 rw [b_class_Set_Has] at hm
 simp only [C.f19]
 refine tk_os okM hok fun J hJ=>?_
 obtain ⟨b1,H2,a3,f4,q5,r6,x7,i8⟩:=bx_ok (M:=Mt) (t:=36) (u:=(vAgg (class_Set.c (x0)))) (cs:=class_Set.c x0) H0 iv.le (by rw [class_Set.enc.len]; exact T.sz36) vAgg_cells (class_Set.enc.one _)
 have i9:=i8 _ _ iv
 simp only [C.f19r0,R,Nat.reduceEqDiff,a3]
 refine hJ _ ?_
 refine tk_os okM hok fun J hJ=>?_
 obtain ⟨v11,ev11,hm⟩:=bind_s hm
 obtain ⟨j12,ej12,hm⟩:=bind_s hm
 have a13:=ld_one (M:=Mt) (t:=33) f4 T.ag33 ((Seg.refl.sub (class_Set.seg0 x0)).sub (sgA enc_int.len (a:=x0.f_W) (ck_lt ej12).1))
 obtain ⟨v14,ev14,hm⟩:=bind_s hm
 obtain ⟨v15,ev15,hm⟩:=bind_s hm
 simp only [C.f19r1,R,Nat.reduceEqDiff,ev11,fa36_0,ia34,ej12,a13,ev14,ev15]
 refine hJ _ ?_
 refine tk_ret okM ?_
 obtain rfl:=Option.some.inj hm
 exact end_flat (.inl rfl) (vs:=[(.bool (decide ((andI .u64 v15 1) = 1)))]) (resT' (v:=(.bool (decide ((andI .u64 v15 1) = 1)))) rfl resN) (fm_cons rfl fm_nil)
def b_class_Range_1 (c_class_Set_add:T_class_Set_add) (n:Nat):Nat → Int → class_Set → class_Set → Int → Option (class_Set)
 | 0,_,_,_,_=>none
 | k + 1,x1_27,x28,x29,x6_30=>bif decide (x6_30 ≤ (IntKind.i64.wrap x1_27)) then ((c_class_Set_add x29 (IntKind.u8.wrap x6_30)).bind fun v52=>b_class_Range_1 c_class_Set_add n k x1_27 x28 v52 (IntKind.i64.wrap (x6_30 + 1))) else (some x29)
def b_class_Range (c_class_Set_add:T_class_Set_add) (n:Nat) (x0:Int) (x1:Int):Option (class_Set):=b_class_Range_1 c_class_Set_add n n x1 class_Set.zero class_Set.zero (IntKind.i64.wrap x0)
theorem w_class_Range {call:CallF} (hok:CallOk Mt call) {n:Nat} {c_class_Set_add:T_class_Set_add} (ha_class_Set_add:A_class_Set_add call c_class_Set_add) {H0:Hp} {x0:Int} {x1:Int} {r:class_Set} {ro:Nat} (hro:ro ≤ H0.length) (hm:b_class_Range c_class_Set_add n x0 x1 = some r) :
  Pt Mt ro 20 [(.int .u8 x0),(.int .u8 x1)] H0 (vAgg (class_Set.c (r))) H0 []:=by
 refine pt_new0 okM F20d (by exact Nat.le_of_ble_eq_true rfl) ?_ hro
 intro c hnt hnb hcr
 have hcn:c.ro ≤ c.nb:=by omega
 have iv:Iv c.nb [] H0 H0:=by rw [hnb]; exact iv_refl
 rw [show args0 [(.int .u8 x0),(.int .u8 x1)] = [(0,(.int .u8 x0)),(1,(.int .u8 x1))] from rfl]
 rw [b_class_Range] at hm
 simp only [C.f20,C.f20b0]
 refine tk_os okM hok fun J hJ=>?_
 obtain ⟨b1,H2,a3,f4,q5,r6,x7,i8⟩:=al_ok H0 36 (class_Set.c class_Set.zero) iv.le
 have i9:=i8 _ _ iv
 simp only [C.f20r0,R,Nat.reduceEqDiff,zs36,a3]
 refine hJ _ ?_
 refine tk_os okM hok fun J hJ=>?_
 obtain ⟨b11,H12,a13,f14,q15,r16,x17,i18⟩:=al_ok H2 36 (class_Set.c class_Set.zero) i9.le
 have i19:=i18 _ _ i9
 have f20:=x17 _ _ f4
 simp only [C.f20r1,R,Nat.reduceEqDiff,zs36,a13]
 refine hJ _ ?_
 refine tk_seq_k fun K n22 x23=>?_
 refine tk_os okM hok fun J hJ=>?_
 simp only [C.f20r2,R,Nat.reduceEqDiff,cv_int (M:=Mt) Tryd.underlying5 Tryd.underlying3]
 refine hJ _ ?_
 refine tk_block_k fun K n24 e25 x26=>?_
 refine tk_loop_k (n:=n) (fun k1 ⟨σ,H,_⟩=>∃ x1_27 x28 x29 x6_30,b_class_Range_1 c_class_Set_add n k1 x1_27 x28 x29 x6_30 = some r ∧ Lk σ 1 (.int .u8 x1_27) ∧ Lk σ 4 (.pointer (some ⟨b1,0,none⟩)) ∧ Lk σ 5 (.pointer (some ⟨b11,0,none⟩)) ∧ Lk σ 6 (.int .i64 x6_30) ∧ H[b1]? = some (.cells (class_Set.c x28) 36) ∧ H[b11]? = some (.cells (class_Set.c x29) 36) ∧ Iv c.nb [] H0 H) ?_ ?_ ?_
 ·exact ⟨x1,class_Set.zero,class_Set.zero,IntKind.i64.wrap x0,hm,rfl,rfl,rfl,rfl,f20,f14,i19⟩
 ·rintro ⟨σ,H,d⟩ ⟨_,_,_,_,hm,_⟩
  cases hm
 ·intro k1 K n31 x32
  rintro ⟨σ41,H33,d42⟩ ⟨x1_27,x28,x29,x6_30,hm,h34,h35,h36,h37,f38,f39,i40⟩
  rw [b_class_Range_1.eq_2] at hm
  refine tk_seq_k fun K n43 x44=>?_
  refine tk_os okM hok fun J hJ=>?_
  simp only [C.f20r3,R,Nat.reduceEqDiff,h37,h34,cv_int (M:=Mt) Tryd.underlying5 Tryd.underlying3]
  refine hJ _ ?_
  refine tk_cond (t:=decide (x6_30 ≤ (IntKind.i64.wrap x1_27))) rfl (fun g45=>?_) (fun g45=>?_)
  ·replace hm:=cond_t hm g45
   refine tk_skip okM ?_
   refine n43 _ ?_
   refine tk_seq_k fun K n46 x47=>?_
   refine tk_block_k fun K n48 e49 x50=>?_
   refine tk_oe okM hok fun J hJ=>?_
   obtain ⟨v52,ev52,hm⟩:=bind_s hm
   have a51:=ha_class_Set_add c.ro H33 x29 b11 (IntKind.u8.wrap x6_30) v52 f39 (Nat.le_trans hcn r16) ev52
   obtain ⟨H53,q54⟩:∃ x,x = H33.set b11 (.cells (class_Set.c v52) 36):=⟨_,rfl⟩
   rw [← q54] at a51
   have u55:Up b11 H33 H53:=by rw [q54]; exact up_set
   have f56:H53[b11]? = some (.cells (class_Set.c v52) 36):=by rw [q54]; exact get_set f39
   have i57:=i40.up u55 r16
   have f58:=(u55.get _ (ne_len f4 q15)).trans f38
   simp only [C.f20r5,R,Nat.reduceEqDiff,h37,cv_int (M:=Mt) Tryd.underlying3 Tryd.underlying5,c_fn F36,a51,h36]
   refine hJ _ ?_
   refine n48 _ ?_
   refine n46 _ ?_
   refine tk_oe okM hok fun J hJ=>?_
   simp only [C.f20r4,R,Nat.reduceEqDiff,h37]
   refine hJ _ ?_
   refine n31 _ ?_
   exact ⟨x1_27,x28,v52,IntKind.i64.wrap (x6_30 + 1),hm,h34,h35,h36,rfl,f58,f56,i57⟩
  ·replace hm:=cond_f hm g45
   refine tk_exit okM ?_
   refine x44 _ _ (by simp) ?_
   refine x32 _ _ (by simp) ?_
   refine e25 _ ?_
   refine n22 _ ?_
   refine tk_os okM hok fun J hJ=>?_
   have a59:=ld_agg (M:=Mt) (t:=36) f39 T.ag36 (by rw [class_Set.enc.len]; exact T.sz36) Seg.refl
   obtain ⟨H60,a61,f62,u63⟩:=st_ok (M:=Mt) (t:=36) (v:=(vAgg (class_Set.c (x29)))) (c:=class_Set.c x29) (cs':=class_Set.c x29) f38 (by rw [class_Set.enc.len]; exact T.sz36) vAgg_cells (class_Set.enc.one _) (Nat.le_trans hcn r6) (le0 class_Set.enc.len) (wrs_all (eqL class_Set.enc.len))
   have i64:=i40.up u63 r6
   have f65:=(u63.get _ (ne_len f4 q15).symm).trans f39
   simp only [C.f20r6,R,Nat.reduceEqDiff,a59,h36,a61,h35]
   refine hJ _ ?_
   refine tk_ret okM ?_
   obtain rfl:=Option.some.inj hm
   exact end_flat (.inl rfl) (vs:=[(vAgg (class_Set.c (x29)))]) (resC' (v:=(vAgg (class_Set.c (x29)))) h35 (ldv_of (ld_agg (M:=Mt) (t:=36) f62 T.ag36 (by rw [class_Set.enc.len]; exact T.sz36) Seg.refl)) resN) (fm_cons (flat_agg class_Set.enc _) fm_nil)
def b_class_Set_Or_1 (n:Nat):Nat → class_Set → class_Set → class_Set → Int → Option (class_Set)
 | 0,_,_,_,_=>none
 | k + 1,x39,x40,x41,x6_42=>bif decide (x6_42 < 4) then ((ck 4 x6_42).bind fun j64=>b_class_Set_Or_1 n k ({ x39 with f_W:=x39.f_W.put j64 (orI .u64 (x39.f_W.nth j64) (x40.f_W.nth j64)) }) x40 x41 (IntKind.i64.wrap (x6_42 + 1))) else (some x39)
def b_class_Set_Or (n:Nat) (x0:class_Set) (x1:class_Set):Option (class_Set):=b_class_Set_Or_1 n n x0 x1 class_Set.zero 0
theorem w_class_Set_Or {call:CallF} (hok:CallOk Mt call) {n:Nat} {H0:Hp} {x0:class_Set} {x1:class_Set} {r:class_Set} {ro:Nat} (hro:ro ≤ H0.length) (hm:b_class_Set_Or n x0 x1 = some r) :
  Pt Mt ro 21 [(vAgg (class_Set.c x0)),(vAgg (class_Set.c x1))] H0 (vAgg (class_Set.c (r))) H0 []:=by
 refine pt_new0 okM F21d (by exact Nat.le_of_ble_eq_true rfl) ?_ hro
 intro c hnt hnb hcr
 have hcn:c.ro ≤ c.nb:=by omega
 have iv:Iv c.nb [] H0 H0:=by rw [hnb]; exact iv_refl
 rw [show args0 [(vAgg (class_Set.c x0)),(vAgg (class_Set.c x1))] = [(0,(vAgg (class_Set.c x0))),(1,(vAgg (class_Set.c x1)))] from rfl]
 rw [b_class_Set_Or] at hm
 simp only [C.f21,C.f21b0]
 refine tk_os okM hok fun J hJ=>?_
 obtain ⟨b1,H2,a3,f4,q5,r6,x7,i8⟩:=bx_ok (M:=Mt) (t:=36) (u:=(vAgg (class_Set.c (x0)))) (cs:=class_Set.c x0) H0 iv.le (by rw [class_Set.enc.len]; exact T.sz36) vAgg_cells (class_Set.enc.one _)
 have i9:=i8 _ _ iv
 obtain ⟨b11,H12,a13,f14,q15,r16,x17,i18⟩:=bx_ok (M:=Mt) (t:=36) (u:=(vAgg (class_Set.c (x1)))) (cs:=class_Set.c x1) H2 i9.le (by rw [class_Set.enc.len]; exact T.sz36) vAgg_cells (class_Set.enc.one _)
 have i19:=i18 _ _ i9
 have f20:=x17 _ _ f4
 obtain ⟨b22,H23,a24,f25,q26,r27,x28,i29⟩:=al_ok H12 36 (class_Set.c class_Set.zero) i19.le
 have i30:=i29 _ _ i19
 have f31:=x28 _ _ f20
 have f32:=x28 _ _ f14
 simp only [C.f21r0,R,Nat.reduceEqDiff,a3,a13,zs36,a24]
 refine hJ _ ?_
 refine tk_seq_k fun K n34 x35=>?_
 refine tk_os okM hok fun J hJ=>?_
 simp only [C.f21r1,R,Nat.reduceEqDiff]
 refine hJ _ ?_
 refine tk_block_k fun K n36 e37 x38=>?_
 refine tk_loop_k (n:=n) (fun k1 ⟨σ,H,_⟩=>∃ x39 x40 x41 x6_42,b_class_Set_Or_1 n k1 x39 x40 x41 x6_42 = some r ∧ Lk σ 2 (.pointer (some ⟨b1,0,none⟩)) ∧ Lk σ 3 (.pointer (some ⟨b11,0,none⟩)) ∧ Lk σ 4 (.pointer (some ⟨b22,0,none⟩)) ∧ Lk σ 6 (.int .i64 x6_42) ∧ H[b1]? = some (.cells (class_Set.c x39) 36) ∧ H[b11]? = some (.cells (class_Set.c x40) 36) ∧ H[b22]? = some (.cells (class_Set.c x41) 36) ∧ Iv c.nb [] H0 H) ?_ ?_ ?_
 ·exact ⟨x0,x1,class_Set.zero,0,hm,rfl,rfl,rfl,rfl,f31,f32,f25,i30⟩
 ·rintro ⟨σ,H,d⟩ ⟨_,_,_,_,hm,_⟩
  cases hm
 ·intro k1 K n43 x44
  rintro ⟨σ54,H45,d55⟩ ⟨x39,x40,x41,x6_42,hm,h46,h47,h48,h49,f50,f51,f52,i53⟩
  rw [b_class_Set_Or_1.eq_2] at hm
  refine tk_os okM hok fun J hJ=>?_
  simp only [C.f21r2,R,Nat.reduceEqDiff,h49]
  refine hJ _ ?_
  refine tk_seq_k fun K n56 x57=>?_
  refine tk_cond (t:=decide (x6_42 < 4)) rfl (fun g58=>?_) (fun g58=>?_)
  ·replace hm:=cond_t hm g58
   refine tk_skip okM ?_
   refine n56 _ ?_
   refine tk_seq_k fun K n59 x60=>?_
   refine tk_block_k fun K n61 e62 x63=>?_
   refine tk_os okM hok fun J hJ=>?_
   simp only [C.f21r3,R,Nat.reduceEqDiff,h49]
   refine hJ _ ?_
   refine tk_oe okM hok fun J hJ=>?_
   obtain ⟨j64,ej64,hm⟩:=bind_s hm
   have a65:=ld_one (M:=Mt) (t:=33) f50 T.ag33 ((Seg.refl.sub (class_Set.seg0 x39)).sub (sgA enc_int.len (a:=x39.f_W) (ck_lt ej64).1))
   have a66:=ld_one (M:=Mt) (t:=33) f51 T.ag33 ((Seg.refl.sub (class_Set.seg0 x40)).sub (sgA enc_int.len (a:=x40.f_W) (ck_lt ej64).1))
   obtain ⟨H67,a68,f69,u70⟩:=st_ok (M:=Mt) (t:=33) (v:=(.int .u64 (orI .u64 (x39.f_W.nth j64) (x40.f_W.nth j64)))) (c:=(cInt .u64) (orI .u64 (x39.f_W.nth j64) (x40.f_W.nth j64))) (cs':=class_Set.c ({ x39 with f_W:=x39.f_W.put j64 (orI .u64 (x39.f_W.nth j64) (x40.f_W.nth j64)) })) f50 (by rw [enc_int.len]; exact T.sz33) rfl (enc_int.one _) (Nat.le_trans hcn r6) (Nat.le_trans (Nat.le_of_eq (congrArg _ (eqL enc_int.len))) ((Seg.refl.sub (class_Set.seg0 x39)).sub (sgA enc_int.len (a:=x39.f_W) (ck_lt ej64).1)).2) (by rw [wrs_in (Seg.refl.sub (class_Set.seg0 x39)) (by have:=(ck_lt ej64).1; simp only [enc_int.len,(enc_arr (n:=4) enc_int).len]; omega),wrA enc_int.len (a:=x39.f_W) (v:=orI .u64 (x39.f_W.nth j64) (x40.f_W.nth j64)) (ck_lt ej64).1,Nat.zero_add,class_Set.wr0 x39 (x39.f_W.put j64 (orI .u64 (x39.f_W.nth j64) (x40.f_W.nth j64)))])
   have i71:=i53.up u70 r6
   have f72:=(u70.get _ (ne_len f4 q15).symm).trans f51
   have f73:=(u70.get _ (ne_len f20 q26).symm).trans f52
   simp only [C.f21r4,R,Nat.reduceEqDiff,s_pt,s_gt,isW,Bool.false_eq_true,if_false,if_true,reduceIte,fa36_0,h46,ia34,ej64,a65,h47,a66,a68]
   refine hJ _ ?_
   refine n61 _ ?_
   refine n59 _ ?_
   refine tk_oe okM hok fun J hJ=>?_
   simp only [C.f21r5,R,Nat.reduceEqDiff,h49]
   refine hJ _ ?_
   refine n43 _ ?_
   exact ⟨{ x39 with f_W:=x39.f_W.put j64 (orI .u64 (x39.f_W.nth j64) (x40.f_W.nth j64)) },x40,x41,IntKind.i64.wrap (x6_42 + 1),hm,h46,h47,h48,rfl,f69,f72,f73,i71⟩
  ·replace hm:=cond_f hm g58
   refine tk_exit okM ?_
   refine x57 _ _ (by simp) ?_
   refine x44 _ _ (by simp) ?_
   refine e37 _ ?_
   refine n34 _ ?_
   refine tk_os okM hok fun J hJ=>?_
   have a74:=ld_agg (M:=Mt) (t:=36) f50 T.ag36 (by rw [class_Set.enc.len]; exact T.sz36) Seg.refl
   obtain ⟨H75,a76,f77,u78⟩:=st_ok (M:=Mt) (t:=36) (v:=(vAgg (class_Set.c (x39)))) (c:=class_Set.c x39) (cs':=class_Set.c x39) f52 (by rw [class_Set.enc.len]; exact T.sz36) vAgg_cells (class_Set.enc.one _) (Nat.le_trans hcn r27) (le0 class_Set.enc.len) (wrs_all (eqL class_Set.enc.len))
   have i79:=i53.up u78 r27
   have f80:=(u78.get _ (ne_len f20 q26)).trans f50
   have f81:=(u78.get _ (ne_len f14 q26)).trans f51
   simp only [C.f21r6,R,Nat.reduceEqDiff,a74,h46,a76,h48]
   refine hJ _ ?_
   refine tk_ret okM ?_
   obtain rfl:=Option.some.inj hm
   exact end_flat (.inl rfl) (vs:=[(vAgg (class_Set.c (x39)))]) (resC' (v:=(vAgg (class_Set.c (x39)))) h48 (ldv_of (ld_agg (M:=Mt) (t:=36) f77 T.ag36 (by rw [class_Set.enc.len]; exact T.sz36) Seg.refl)) resN) (fm_cons (flat_agg class_Set.enc _) fm_nil)
def b_lex_token_1 (c_lex_Class:T_lex_Class) (c_class_One:T_class_One) (c_lex_simple:T_lex_simple) (c_lex_opening:T_lex_opening) (c_lex_quant:T_lex_quant) (c_lex_escaped:T_lex_escaped) (n:Nat) (x27:lex_Token):Option (lex_Token × Int × Int):=some (lex_Token.zero,0,3)
def b_lex_token_2 (c_lex_Class:T_lex_Class) (c_class_One:T_class_One) (c_lex_simple:T_lex_simple) (c_lex_opening:T_lex_opening) (c_lex_quant:T_lex_quant) (c_lex_escaped:T_lex_escaped) (n:Nat) (x0_85:ByteArray) (x86:lex_Token) (x20_87:Int) (x23_88:Bool):Option (lex_Token × Int × Int):=bif x23_88 then ((c_lex_quant x0_85).bind fun v102=>some (v102.1,v102.2.1,v102.2.2)) else (bif decide (x20_87 = 91) then ((c_lex_Class x0_85 0).bind fun v114=>some (({ lex_Token.zero with f_Set:=v114.1 }:lex_Token),v114.2.1,v114.2.2)) else (bif decide (x20_87 = 92) then ((c_lex_escaped x0_85).bind fun v145=>some (v145.1,v145.2.1,v145.2.2)) else (bif decide (x20_87 = 93) then (b_lex_token_1 c_lex_Class c_class_One c_lex_simple c_lex_opening c_lex_quant c_lex_escaped n x86) else (bif decide (x20_87 = 125) then (b_lex_token_1 c_lex_Class c_class_One c_lex_simple c_lex_opening c_lex_quant c_lex_escaped n x86) else ((bt x0_85 0).bind fun v155=>(c_class_One v155).bind fun v157=>some (({ lex_Token.zero with f_Set:=v157 }:lex_Token),1,0))))))
def b_lex_token (c_lex_Class:T_lex_Class) (c_class_One:T_class_One) (c_lex_simple:T_lex_simple) (c_lex_opening:T_lex_opening) (c_lex_quant:T_lex_quant) (c_lex_escaped:T_lex_escaped) (n:Nat) (x0:ByteArray):Option (lex_Token × Int × Int):=(bt x0 0).bind fun v13=>(c_lex_simple v13).bind fun v15=>bif v15.2 then (some (({ lex_Token.zero with f_Kind:=v15.1 }:lex_Token),1,0)) else (bif decide (v13 = 40) then ((c_lex_opening x0).bind fun v77=>some (v77.1,v77.2.1,v77.2.2)) else (bif decide (v13 = 42) then (b_lex_token_2 c_lex_Class c_class_One c_lex_simple c_lex_opening c_lex_quant c_lex_escaped n x0 lex_Token.zero v13 (decide (v13 = 42))) else (bif decide (v13 = 43) then (b_lex_token_2 c_lex_Class c_class_One c_lex_simple c_lex_opening c_lex_quant c_lex_escaped n x0 lex_Token.zero v13 (decide (v13 = 43))) else (bif decide (v13 = 63) then (b_lex_token_2 c_lex_Class c_class_One c_lex_simple c_lex_opening c_lex_quant c_lex_escaped n x0 lex_Token.zero v13 (decide (v13 = 63))) else (b_lex_token_2 c_lex_Class c_class_One c_lex_simple c_lex_opening c_lex_quant c_lex_escaped n x0 lex_Token.zero v13 (decide (v13 = 123)))))))
theorem w_lex_token {call:CallF} (hok:CallOk Mt call) {n:Nat} {c_lex_Class:T_lex_Class} (ha_lex_Class:A_lex_Class call c_lex_Class) {c_class_One:T_class_One} (ha_class_One:A_class_One call c_class_One) {c_lex_simple:T_lex_simple} (ha_lex_simple:A_lex_simple call c_lex_simple) {c_lex_opening:T_lex_opening} (ha_lex_opening:A_lex_opening call c_lex_opening) {c_lex_quant:T_lex_quant} (ha_lex_quant:A_lex_quant call c_lex_quant) {c_lex_escaped:T_lex_escaped} (ha_lex_escaped:A_lex_escaped call c_lex_escaped) {H0:Hp} {x0:ByteArray} {r:lex_Token × Int × Int} {ro:Nat} (hro:ro ≤ H0.length) (hm:b_lex_token c_lex_Class c_class_One c_lex_simple c_lex_opening c_lex_quant c_lex_escaped n x0 = some r) (hG0:TabH0 H0) :
  Pt Mt ro 23 [(.string x0)] H0 (.tuple [(vAgg (lex_Token.c (r.1))),(.int .i64 (r.2.1)),(.int .i64 (r.2.2))].toArray) H0 []:=by
 refine pt_new0 okM F23d (by exact Nat.le_of_ble_eq_true rfl) ?_ hro
 intro c hnt hnb hcr
 have hcn:c.ro ≤ c.nb:=by omega
 have iv:Iv c.nb [] H0 H0:=by rw [hnb]; exact iv_refl
 rw [show args0 [(.string x0)] = [(0,(.string x0))] from rfl]
 rw [b_lex_token] at hm
 simp only [C.f23]
 refine tk_os okM hok fun J hJ=>?_
 obtain ⟨b1,H2,a3,f4,q5,r6,x7,i8⟩:=al_ok H0 46 (lex_Token.c lex_Token.zero) iv.le
 have i9:=i8 _ _ iv
 simp only [C.f23r0,R,Nat.reduceEqDiff,zs46,a3]
 refine hJ _ ?_
 refine tk_seq_k fun K n11 x12=>?_
 refine tk_os okM hok fun J hJ=>?_
 obtain ⟨v13,ev13,hm⟩:=bind_s hm
 obtain ⟨v15,ev15,hm⟩:=bind_s hm
 have a14:=ha_lex_simple c.ro H2 v13 v15 ev15
 simp only [C.f23r1,R,Nat.reduceEqDiff,idxP_str (M:=Mt) Tryd.underlying9,ev13,c_fn F37,a14]
 refine hJ _ ?_
 refine tk_os okM hok fun J hJ=>?_
 simp only [C.f23r2,R,Nat.reduceEqDiff]
 refine hJ _ ?_
 refine tk_cond (t:=v15.2) rfl (fun g16=>?_) (fun g16=>?_)
 ·replace hm:=cond_t hm g16
  refine tk_os okM hok fun J hJ=>?_
  obtain ⟨H17,a18,f19,u20⟩:=st_ok (M:=Mt) (t:=46) (v:=(vAgg (lex_Token.c (({ lex_Token.zero with f_Kind:=v15.1 }:lex_Token))))) (c:=lex_Token.c (({ lex_Token.zero with f_Kind:=v15.1 }:lex_Token))) (cs':=lex_Token.c (({ lex_Token.zero with f_Kind:=v15.1 }:lex_Token))) f4 (by rw [lex_Token.enc.len]; exact T.sz46) vAgg_cells (lex_Token.enc.one _) (Nat.le_trans hcn r6) (le0 lex_Token.enc.len) (wrs_all (eqL lex_Token.enc.len))
  have i21:=i9.up u20 r6
  simp only [C.f23r3,R,Nat.reduceEqDiff,bd46_0,a18]
  refine hJ _ ?_
  refine tk_ret okM ?_
  refine x12 _ _ (by simp) ?_
  obtain rfl:=Option.some.inj hm
  exact end_flat (.inl rfl) (vs:=[(vAgg (lex_Token.c (({ lex_Token.zero with f_Kind:=v15.1 }:lex_Token)))),(.int .i64 (1)),(.int .i64 (0))]) (resC' (v:=(vAgg (lex_Token.c (({ lex_Token.zero with f_Kind:=v15.1 }:lex_Token))))) rfl (ldv_of (ld_agg (M:=Mt) (t:=46) f19 T.ag46 (by rw [lex_Token.enc.len]; exact T.sz46) Seg.refl)) (resT' (v:=(.int .i64 (1))) rfl (resT' (v:=(.int .i64 (0))) rfl resN))) (fm_cons (flat_agg lex_Token.enc _) (fm_cons rfl (fm_cons rfl fm_nil)))
 ·replace hm:=cond_f hm g16
  refine tk_skip okM ?_
  refine n11 _ ?_
  refine tk_seq_k fun K n22 x23=>?_
  refine tk_os okM hok fun J hJ=>?_
  simp only [C.f23r4,R,Nat.reduceEqDiff,idxP_str (M:=Mt) Tryd.underlying9,ev13]
  refine hJ _ ?_
  refine tk_block_k fun K n24 e25 x26=>?_
  refine tk_seq_j (fun ⟨σ,H,_⟩=>∃ x27,b_lex_token_1 c_lex_Class c_class_One c_lex_simple c_lex_opening c_lex_quant c_lex_escaped n x27 = some r ∧ Lk σ 2 (.pointer (some ⟨b1,0,none⟩)) ∧ H[b1]? = some (.cells (lex_Token.c x27) 46) ∧ Iv c.nb [] H0 H) ?_ ?_
  ·skip
   rintro ⟨σ32,H28,d33⟩ ⟨x27,hm,h29,f30,i31⟩
   rw [b_lex_token_1] at hm
   refine tk_seq_k fun K n34 x35=>?_
   refine tk_os okM hok fun J hJ=>?_
   obtain ⟨H36,a37,f38,u39⟩:=st_ok (M:=Mt) (t:=46) (v:=(vAgg (lex_Token.c (lex_Token.zero)))) (c:=lex_Token.c lex_Token.zero) (cs':=lex_Token.c lex_Token.zero) f30 (by rw [lex_Token.enc.len]; exact T.sz46) vAgg_cells (lex_Token.enc.one _) (Nat.le_trans hcn r6) (le0 lex_Token.enc.len) (wrs_all (eqL lex_Token.enc.len))
   have i40:=i31.up u39 r6
   simp only [C.f23r19,R,Nat.reduceEqDiff,bd46_,a37,h29]
   refine hJ _ ?_
   refine tk_ret okM ?_
   refine x35 _ _ (by simp) ?_
   refine x26 _ _ (by simp) (by simp) ?_
   refine x23 _ _ (by simp) ?_
   obtain rfl:=Option.some.inj hm
   exact end_flat (.inl rfl) (vs:=[(vAgg (lex_Token.c (lex_Token.zero))),(.int .i64 (0)),(.int .i64 (3))]) (resC' (v:=(vAgg (lex_Token.c (lex_Token.zero)))) h29 (ldv_of (ld_agg (M:=Mt) (t:=46) f38 T.ag46 (by rw [lex_Token.enc.len]; exact T.sz46) Seg.refl)) (resT' (v:=(.int .i64 (0))) rfl (resT' (v:=(.int .i64 (3))) rfl resN))) (fm_cons (flat_agg lex_Token.enc _) (fm_cons rfl (fm_cons rfl fm_nil)))
  ·refine fun K n41 x42=>?_
   refine tk_block_k fun K n43 e44 x45=>?_
   refine tk_block_k fun K n46 e47 x48=>?_
   refine tk_seq_k fun K n49 x50=>?_
   refine tk_block_k fun K n51 e52 x53=>?_
   refine tk_seq_k fun K n54 x55=>?_
   refine tk_block_k fun K n56 e57 x58=>?_
   refine tk_seq_k fun K n59 x60=>?_
   refine tk_block_k fun K n61 e62 x63=>?_
   refine tk_seq_k fun K n64 x65=>?_
   refine tk_block_k fun K n66 e67 x68=>?_
   refine tk_seq_k fun K n69 x70=>?_
   refine tk_seq_k fun K n71 x72=>?_
   refine tk_os okM hok fun J hJ=>?_
   simp only [C.f23r5,R,Nat.reduceEqDiff]
   refine hJ _ ?_
   refine tk_cond (t:=decide (v13 = 40)) rfl (fun g73=>?_) (fun g73=>?_)
   ·replace hm:=cond_t hm g73
    refine tk_exit okM ?_
    refine x72 _ _ (by simp) ?_
    refine x70 _ _ (by simp) ?_
    refine e67 _ ?_
    refine n64 _ ?_
    refine tk_seq_k fun K n74 x75=>?_
    refine tk_os okM hok fun J hJ=>?_
    obtain ⟨v77,ev77,hm⟩:=bind_s hm
    have a76:=ha_lex_opening c.ro H2 x0 v77 ev77
    obtain ⟨H78,a79,f80,u81⟩:=st_ok (M:=Mt) (t:=46) (v:=(vAgg (lex_Token.c (v77.1)))) (c:=lex_Token.c v77.1) (cs':=lex_Token.c v77.1) f4 (by rw [lex_Token.enc.len]; exact T.sz46) vAgg_cells (lex_Token.enc.one _) (Nat.le_trans hcn r6) (le0 lex_Token.enc.len) (wrs_all (eqL lex_Token.enc.len))
    have i82:=i9.up u81 r6
    simp only [C.f23r14,R,Nat.reduceEqDiff,c_fn F38,a76,a79]
    refine hJ _ ?_
    refine tk_ret okM ?_
    refine x75 _ _ (by simp) ?_
    refine x63 _ _ (by simp) (by simp) ?_
    refine x60 _ _ (by simp) ?_
    refine x58 _ _ (by simp) (by simp) ?_
    refine x55 _ _ (by simp) ?_
    refine x53 _ _ (by simp) (by simp) ?_
    refine x50 _ _ (by simp) ?_
    refine x48 _ _ (by simp) (by simp) ?_
    refine x45 _ _ (by simp) (by simp) ?_
    refine x42 _ _ (by simp) ?_
    refine x26 _ _ (by simp) (by simp) ?_
    refine x23 _ _ (by simp) ?_
    obtain rfl:=Option.some.inj hm
    exact end_flat (.inl rfl) (vs:=[(vAgg (lex_Token.c (v77.1))),(.int .i64 (v77.2.1)),(.int .i64 (v77.2.2))]) (resC' (v:=(vAgg (lex_Token.c (v77.1)))) rfl (ldv_of (ld_agg (M:=Mt) (t:=46) f80 T.ag46 (by rw [lex_Token.enc.len]; exact T.sz46) Seg.refl)) (resT' (v:=(.int .i64 (v77.2.1))) rfl (resT' (v:=(.int .i64 (v77.2.2))) rfl resN))) (fm_cons (flat_agg lex_Token.enc _) (fm_cons rfl (fm_cons rfl fm_nil)))
   ·replace hm:=cond_f hm g73
    refine tk_skip okM ?_
    refine n71 _ ?_
    refine tk_seq_k fun K n83 x84=>?_
    refine tk_seq_j (fun ⟨σ,H,_⟩=>∃ x0_85 x86 x20_87 x23_88,b_lex_token_2 c_lex_Class c_class_One c_lex_simple c_lex_opening c_lex_quant c_lex_escaped n x0_85 x86 x20_87 x23_88 = some r ∧ Lk σ 0 (.string x0_85) ∧ Lk σ 2 (.pointer (some ⟨b1,0,none⟩)) ∧ Lk σ 20 (.int .u8 x20_87) ∧ Lk σ 23 (.bool x23_88) ∧ H[b1]? = some (.cells (lex_Token.c x86) 46) ∧ Iv c.nb [] H0 H) ?_ ?_
    ·skip
     rintro ⟨σ96,H89,d97⟩ ⟨x0_85,x86,x20_87,x23_88,hm,h90,h91,h92,h93,f94,i95⟩
     rw [b_lex_token_2] at hm
     refine tk_cond (t:=x23_88) h93 (fun g98=>?_) (fun g98=>?_)
     ·replace hm:=cond_t hm g98
      refine tk_exit okM ?_
      refine x84 _ _ (by simp) ?_
      refine x70 _ _ (by simp) ?_
      refine x68 _ _ (by simp) (by simp) ?_
      refine x65 _ _ (by simp) ?_
      refine e62 _ ?_
      refine n59 _ ?_
      refine tk_seq_k fun K n99 x100=>?_
      refine tk_os okM hok fun J hJ=>?_
      obtain ⟨v102,ev102,hm⟩:=bind_s hm
      have a101:=ha_lex_quant c.ro H89 x0_85 v102 ev102
      obtain ⟨H103,a104,f105,u106⟩:=st_ok (M:=Mt) (t:=46) (v:=(vAgg (lex_Token.c (v102.1)))) (c:=lex_Token.c v102.1) (cs':=lex_Token.c v102.1) f94 (by rw [lex_Token.enc.len]; exact T.sz46) vAgg_cells (lex_Token.enc.one _) (Nat.le_trans hcn r6) (le0 lex_Token.enc.len) (wrs_all (eqL lex_Token.enc.len))
      have i107:=i95.up u106 r6
      simp only [C.f23r15,R,Nat.reduceEqDiff,h90,c_fn F39,a101,a104,h91]
      refine hJ _ ?_
      refine tk_ret okM ?_
      refine x100 _ _ (by simp) ?_
      refine x58 _ _ (by simp) (by simp) ?_
      refine x55 _ _ (by simp) ?_
      refine x53 _ _ (by simp) (by simp) ?_
      refine x50 _ _ (by simp) ?_
      refine x48 _ _ (by simp) (by simp) ?_
      refine x45 _ _ (by simp) (by simp) ?_
      refine x42 _ _ (by simp) ?_
      refine x26 _ _ (by simp) (by simp) ?_
      refine x23 _ _ (by simp) ?_
      obtain rfl:=Option.some.inj hm
      exact end_flat (.inl rfl) (vs:=[(vAgg (lex_Token.c (v102.1))),(.int .i64 (v102.2.1)),(.int .i64 (v102.2.2))]) (resC' (v:=(vAgg (lex_Token.c (v102.1)))) h91 (ldv_of (ld_agg (M:=Mt) (t:=46) f105 T.ag46 (by rw [lex_Token.enc.len]; exact T.sz46) Seg.refl)) (resT' (v:=(.int .i64 (v102.2.1))) rfl (resT' (v:=(.int .i64 (v102.2.2))) rfl resN))) (fm_cons (flat_agg lex_Token.enc _) (fm_cons rfl (fm_cons rfl fm_nil)))
     ·replace hm:=cond_f hm g98
      refine tk_skip okM ?_
      refine n83 _ ?_
      refine tk_seq_k fun K n108 x109=>?_
      refine tk_os okM hok fun J hJ=>?_
      simp only [C.f23r10,R,Nat.reduceEqDiff,h92]
      refine hJ _ ?_
      refine tk_cond (t:=decide (x20_87 = 91)) rfl (fun g110=>?_) (fun g110=>?_)
      ·replace hm:=cond_t hm g110
       refine tk_exit okM ?_
       refine x109 _ _ (by simp) ?_
       refine x70 _ _ (by simp) ?_
       refine x68 _ _ (by simp) (by simp) ?_
       refine x65 _ _ (by simp) ?_
       refine x63 _ _ (by simp) (by simp) ?_
       refine x60 _ _ (by simp) ?_
       refine e57 _ ?_
       refine n54 _ ?_
       refine tk_seq_k fun K n111 x112=>?_
       refine tk_os okM hok fun J hJ=>?_
       obtain ⟨v114,ev114,hm⟩:=bind_s hm
       have a113:=ha_lex_Class c.ro H89 x0_85 0 v114 (tabIv0 i95 hnb hG0) ev114
       obtain ⟨b115,H116,a117,f118,q119,r120,x121,i122⟩:=al_ok H89 36 (class_Set.c class_Set.zero) i95.le
       have i123:=i122 _ _ i95
       have f124:=x121 _ _ f94
       obtain ⟨H126,a127,f128,u129⟩:=st_ok (M:=Mt) (t:=36) (v:=(vAgg (class_Set.c (v114.1)))) (c:=class_Set.c v114.1) (cs':=class_Set.c v114.1) f118 (by rw [class_Set.enc.len]; exact T.sz36) vAgg_cells (class_Set.enc.one _) (Nat.le_trans hcn r120) (le0 class_Set.enc.len) (wrs_all (eqL class_Set.enc.len))
       have i130:=i123.up u129 r120
       have f131:=(u129.get _ (ne_len f94 q119)).trans f124
       simp only [C.f23r16,R,Nat.reduceEqDiff,h90,c_fn F15,a113,zs36,a117,a127]
       refine hJ _ ?_
       refine tk_os okM hok fun J hJ=>?_
       have a132:=ld_agg (M:=Mt) (t:=36) f128 T.ag36 (by rw [class_Set.enc.len]; exact T.sz36) Seg.refl
       obtain ⟨H133,a134,f135,u136⟩:=st_ok (M:=Mt) (t:=46) (v:=(vAgg (lex_Token.c (({ lex_Token.zero with f_Set:=v114.1 }:lex_Token))))) (c:=lex_Token.c (({ lex_Token.zero with f_Set:=v114.1 }:lex_Token))) (cs':=lex_Token.c (({ lex_Token.zero with f_Set:=v114.1 }:lex_Token))) f131 (by rw [lex_Token.enc.len]; exact T.sz46) vAgg_cells (lex_Token.enc.one _) (Nat.le_trans hcn r6) (le0 lex_Token.enc.len) (wrs_all (eqL lex_Token.enc.len))
       have i137:=i130.up u136 r6
       have f138:=(u136.get _ (ne_len f94 q119).symm).trans f128
       simp only [C.f23r17,R,Nat.reduceEqDiff,a132,bd46_1,a134,h91]
       refine hJ _ ?_
       refine tk_ret okM ?_
       refine x112 _ _ (by simp) ?_
       refine x53 _ _ (by simp) (by simp) ?_
       refine x50 _ _ (by simp) ?_
       refine x48 _ _ (by simp) (by simp) ?_
       refine x45 _ _ (by simp) (by simp) ?_
       refine x42 _ _ (by simp) ?_
       refine x26 _ _ (by simp) (by simp) ?_
       refine x23 _ _ (by simp) ?_
       obtain rfl:=Option.some.inj hm
       exact end_flat (.inl rfl) (vs:=[(vAgg (lex_Token.c (({ lex_Token.zero with f_Set:=v114.1 }:lex_Token)))),(.int .i64 (v114.2.1)),(.int .i64 (v114.2.2))]) (resC' (v:=(vAgg (lex_Token.c (({ lex_Token.zero with f_Set:=v114.1 }:lex_Token))))) h91 (ldv_of (ld_agg (M:=Mt) (t:=46) f135 T.ag46 (by rw [lex_Token.enc.len]; exact T.sz46) Seg.refl)) (resT' (v:=(.int .i64 (v114.2.1))) rfl (resT' (v:=(.int .i64 (v114.2.2))) rfl resN))) (fm_cons (flat_agg lex_Token.enc _) (fm_cons rfl (fm_cons rfl fm_nil)))
      ·replace hm:=cond_f hm g110
       refine tk_skip okM ?_
       refine n108 _ ?_
       refine tk_seq_k fun K n139 x140=>?_
       refine tk_os okM hok fun J hJ=>?_
       simp only [C.f23r11,R,Nat.reduceEqDiff,h92]
       refine hJ _ ?_
       refine tk_cond (t:=decide (x20_87 = 92)) rfl (fun g141=>?_) (fun g141=>?_)
       ·replace hm:=cond_t hm g141
        refine tk_exit okM ?_
        refine x140 _ _ (by simp) ?_
        refine x70 _ _ (by simp) ?_
        refine x68 _ _ (by simp) (by simp) ?_
        refine x65 _ _ (by simp) ?_
        refine x63 _ _ (by simp) (by simp) ?_
        refine x60 _ _ (by simp) ?_
        refine x58 _ _ (by simp) (by simp) ?_
        refine x55 _ _ (by simp) ?_
        refine e52 _ ?_
        refine n49 _ ?_
        refine tk_seq_k fun K n142 x143=>?_
        refine tk_os okM hok fun J hJ=>?_
        obtain ⟨v145,ev145,hm⟩:=bind_s hm
        have a144:=ha_lex_escaped c.ro H89 x0_85 v145 ev145
        obtain ⟨H146,a147,f148,u149⟩:=st_ok (M:=Mt) (t:=46) (v:=(vAgg (lex_Token.c (v145.1)))) (c:=lex_Token.c v145.1) (cs':=lex_Token.c v145.1) f94 (by rw [lex_Token.enc.len]; exact T.sz46) vAgg_cells (lex_Token.enc.one _) (Nat.le_trans hcn r6) (le0 lex_Token.enc.len) (wrs_all (eqL lex_Token.enc.len))
        have i150:=i95.up u149 r6
        simp only [C.f23r18,R,Nat.reduceEqDiff,h90,c_fn F40,a144,a147,h91]
        refine hJ _ ?_
        refine tk_ret okM ?_
        refine x143 _ _ (by simp) ?_
        refine x48 _ _ (by simp) (by simp) ?_
        refine x45 _ _ (by simp) (by simp) ?_
        refine x42 _ _ (by simp) ?_
        refine x26 _ _ (by simp) (by simp) ?_
        refine x23 _ _ (by simp) ?_
        obtain rfl:=Option.some.inj hm
        exact end_flat (.inl rfl) (vs:=[(vAgg (lex_Token.c (v145.1))),(.int .i64 (v145.2.1)),(.int .i64 (v145.2.2))]) (resC' (v:=(vAgg (lex_Token.c (v145.1)))) h91 (ldv_of (ld_agg (M:=Mt) (t:=46) f148 T.ag46 (by rw [lex_Token.enc.len]; exact T.sz46) Seg.refl)) (resT' (v:=(.int .i64 (v145.2.1))) rfl (resT' (v:=(.int .i64 (v145.2.2))) rfl resN))) (fm_cons (flat_agg lex_Token.enc _) (fm_cons rfl (fm_cons rfl fm_nil)))
       ·replace hm:=cond_f hm g141
        refine tk_skip okM ?_
        refine n139 _ ?_
        refine tk_seq_k fun K n151 x152=>?_
        refine tk_os okM hok fun J hJ=>?_
        simp only [C.f23r12,R,Nat.reduceEqDiff,h92]
        refine hJ _ ?_
        refine tk_cond (t:=decide (x20_87 = 93)) rfl (fun g153=>?_) (fun g153=>?_)
        ·replace hm:=cond_t hm g153
         refine tk_exit okM ?_
         refine x152 _ _ (by simp) ?_
         refine x70 _ _ (by simp) ?_
         refine x68 _ _ (by simp) (by simp) ?_
         refine x65 _ _ (by simp) ?_
         refine x63 _ _ (by simp) (by simp) ?_
         refine x60 _ _ (by simp) ?_
         refine x58 _ _ (by simp) (by simp) ?_
         refine x55 _ _ (by simp) ?_
         refine x53 _ _ (by simp) (by simp) ?_
         refine x50 _ _ (by simp) ?_
         refine e47 _ ?_
         refine n43 _ ?_
         refine n41 _ ?_
         exact ⟨x86,hm,h91,f94,i95⟩
        ·replace hm:=cond_f hm g153
         refine tk_skip okM ?_
         refine n151 _ ?_
         refine tk_os okM hok fun J hJ=>?_
         simp only [C.f23r13,R,Nat.reduceEqDiff,h92]
         refine hJ _ ?_
         refine tk_cond (t:=decide (x20_87 = 125)) rfl (fun g154=>?_) (fun g154=>?_)
         ·replace hm:=cond_t hm g154
          refine tk_exit okM ?_
          refine x70 _ _ (by simp) ?_
          refine x68 _ _ (by simp) (by simp) ?_
          refine x65 _ _ (by simp) ?_
          refine x63 _ _ (by simp) (by simp) ?_
          refine x60 _ _ (by simp) ?_
          refine x58 _ _ (by simp) (by simp) ?_
          refine x55 _ _ (by simp) ?_
          refine x53 _ _ (by simp) (by simp) ?_
          refine x50 _ _ (by simp) ?_
          refine x48 _ _ (by simp) (by simp) ?_
          refine e44 _ ?_
          refine n41 _ ?_
          exact ⟨x86,hm,h91,f94,i95⟩
         ·replace hm:=cond_f hm g154
          refine tk_skip okM ?_
          refine n69 _ ?_
          refine tk_exit okM ?_
          refine x68 _ _ (by simp) (by simp) ?_
          refine x65 _ _ (by simp) ?_
          refine x63 _ _ (by simp) (by simp) ?_
          refine x60 _ _ (by simp) ?_
          refine x58 _ _ (by simp) (by simp) ?_
          refine x55 _ _ (by simp) ?_
          refine x53 _ _ (by simp) (by simp) ?_
          refine x50 _ _ (by simp) ?_
          refine x48 _ _ (by simp) (by simp) ?_
          refine x45 _ _ (by simp) (by simp) ?_
          refine x42 _ _ (by simp) ?_
          refine e25 _ ?_
          refine n22 _ ?_
          refine tk_os okM hok fun J hJ=>?_
          obtain ⟨v155,ev155,hm⟩:=bind_s hm
          obtain ⟨v157,ev157,hm⟩:=bind_s hm
          have a156:=ha_class_One c.ro H89 v155 v157 ev157
          obtain ⟨H158,a159,f160,u161⟩:=st_ok (M:=Mt) (t:=46) (v:=(vAgg (lex_Token.c (({ lex_Token.zero with f_Set:=v157 }:lex_Token))))) (c:=lex_Token.c (({ lex_Token.zero with f_Set:=v157 }:lex_Token))) (cs':=lex_Token.c (({ lex_Token.zero with f_Set:=v157 }:lex_Token))) f94 (by rw [lex_Token.enc.len]; exact T.sz46) vAgg_cells (lex_Token.enc.one _) (Nat.le_trans hcn r6) (le0 lex_Token.enc.len) (wrs_all (eqL lex_Token.enc.len))
          have i162:=i95.up u161 r6
          simp only [C.f23r20,R,Nat.reduceEqDiff,h90,idxP_str (M:=Mt) Tryd.underlying9,ev155,c_fn F17,a156,bd46_1,a159,h91]
          refine hJ _ ?_
          refine tk_ret okM ?_
          obtain rfl:=Option.some.inj hm
          exact end_flat (.inl rfl) (vs:=[(vAgg (lex_Token.c (({ lex_Token.zero with f_Set:=v157 }:lex_Token)))),(.int .i64 (1)),(.int .i64 (0))]) (resC' (v:=(vAgg (lex_Token.c (({ lex_Token.zero with f_Set:=v157 }:lex_Token))))) h91 (ldv_of (ld_agg (M:=Mt) (t:=46) f160 T.ag46 (by rw [lex_Token.enc.len]; exact T.sz46) Seg.refl)) (resT' (v:=(.int .i64 (1))) rfl (resT' (v:=(.int .i64 (0))) rfl resN))) (fm_cons (flat_agg lex_Token.enc _) (fm_cons rfl (fm_cons rfl fm_nil)))
    ·refine fun K n163 x164=>?_
     refine tk_os okM hok fun J hJ=>?_
     simp only [C.f23r6,R,Nat.reduceEqDiff]
     refine hJ _ ?_
     refine tk_cond (t:=decide (v13 = 42)) rfl (fun g165=>?_) (fun g165=>?_)
     ·replace hm:=cond_t hm g165
      refine tk_skip okM ?_
      refine n163 _ ?_
      exact ⟨x0,lex_Token.zero,v13,decide (v13 = 42),hm,rfl,rfl,rfl,rfl,f4,i9⟩
     ·replace hm:=cond_f hm g165
      refine tk_os okM hok fun J hJ=>?_
      simp only [C.f23r7,R,Nat.reduceEqDiff]
      refine hJ _ ?_
      refine tk_cond (t:=decide (v13 = 43)) rfl (fun g166=>?_) (fun g166=>?_)
      ·replace hm:=cond_t hm g166
       refine tk_skip okM ?_
       refine n163 _ ?_
       exact ⟨x0,lex_Token.zero,v13,decide (v13 = 43),hm,rfl,rfl,rfl,rfl,f4,i9⟩
      ·replace hm:=cond_f hm g166
       refine tk_os okM hok fun J hJ=>?_
       simp only [C.f23r8,R,Nat.reduceEqDiff]
       refine hJ _ ?_
       refine tk_cond (t:=decide (v13 = 63)) rfl (fun g167=>?_) (fun g167=>?_)
       ·replace hm:=cond_t hm g167
        refine tk_skip okM ?_
        refine n163 _ ?_
        exact ⟨x0,lex_Token.zero,v13,decide (v13 = 63),hm,rfl,rfl,rfl,rfl,f4,i9⟩
       ·replace hm:=cond_f hm g167
        refine tk_oe okM hok fun J hJ=>?_
        simp only [C.f23r9,R,Nat.reduceEqDiff]
        refine hJ _ ?_
        refine n163 _ ?_
        exact ⟨x0,lex_Token.zero,v13,decide (v13 = 123),hm,rfl,rfl,rfl,rfl,f4,i9⟩
end Go.Proofs.YtcjnmmeibppblaaDoor
