import Derived.Test.YtaadjlpfdajggaaGreatDoorBvBase
set_option maxRecDepth 100000
set_option linter.unusedVariables false
set_option linter.unusedSimpArgs false
namespace Go.Proofs.YtaadjlpfdajggaaGreatDoor
open Go Go.AM
attribute [local congr] bind_first map_first
def b_cX (n:Nat) (x0:Int) (x1:Int):Option (Int):=bif (decide (x0 = ((-1)))) || (decide (x1 = ((-1)))) then (some ((-1))) else (some (min (IntKind.i64.wrap (x0 + x1)) 1048576))
theorem w_fY {call:CallF} (hok:CallOk Mt call) {n:Nat} {H0:Hp} {x0:Int} {x1:Int} {r:Int} {ro:Nat} (hro:ro ≤ H0.length) (hm:b_cX n x0 x1 = some r) :
  Pt Mt ro 99 [(.int .i64 x0),(.int .i64 x1)] H0 (.int .i64 (r)) H0 []:=by
 refine pt_new0 okM F99d (by exact Nat.le_of_ble_eq_true rfl) ?_ hro
 intro c hnt hnb hcr
 have hcn:c.ro ≤ c.nb:=by omega
 have iv:Iv c.nb [] H0 H0:=by rw [hnb]; exact iv_refl
 rw [aI2]
 rw [b_cX] at hm
 simp only [C.f99]
 refine tS hok fun J hJ=>?_
 simp only [C.f99r0,R,Nat.reduceEqDiff]
 refine hJ _ ?_
 refine tk_seq_k fun K n1 x2=>?_
 refine tS hok fun J hJ=>?_
 refine rn_k (fun ⟨σ,H,_⟩=>Lk σ 0 (.int .i64 (x0)) ∧ Lk σ 1 (.int .i64 (x1)) ∧ Lk σ 10 (.bool ((decide (x0 = ((-1)))) || (decide (x1 = ((-1)))))) ∧ Iv c.nb [] H0 H) (fun J hJ=>?_) ?_
 ·skip
  cases g8:decide (x0 = ((-1)))
  ·skip
   simp only [C.f99r1,R,Nat.reduceEqDiff,g8]
   exact hJ _ ⟨(by first | rfl | (simp only [g8]; rfl) | simp only [g8,Lk,RB,Nat.reduceEqDiff,not_false_eq_true]),(by first | rfl | (simp only [g8]; rfl) | simp only [g8,Lk,RB,Nat.reduceEqDiff,not_false_eq_true]),(by first | rfl | (simp only [g8]; rfl) | simp only [g8,Lk,RB,Nat.reduceEqDiff,not_false_eq_true]),iv⟩
  ·skip
   simp only [C.f99r1,R,Nat.reduceEqDiff,g8]
   exact hJ _ ⟨(by first | rfl | (simp only [g8]; rfl) | simp only [g8,Lk,RB,Nat.reduceEqDiff,not_false_eq_true]),(by first | rfl | (simp only [g8]; rfl) | simp only [g8,Lk,RB,Nat.reduceEqDiff,not_false_eq_true]),(by first | rfl | (simp only [g8]; rfl) | simp only [g8,Lk,RB,Nat.reduceEqDiff,not_false_eq_true]),iv⟩
 rintro ⟨σ9,H3,d10⟩ ⟨h4,h5,h6,i7⟩
 refine hJ _ ?_
 refine tC h6 hm (fun g11 hm=>?_) (fun g11 hm=>?_)
 ·skip
  refine tS hok fun J hJ=>?_
  simp only [C.f99r2,R,Nat.reduceEqDiff]
  refine hJ _ ?_
  refine tR ?_
  refine x2 _ _ (by simp) ?_
  obtain rfl:=Option.some.inj hm
  exact ef1 rfl rfl
 ·skip
  refine tK ?_
  refine n1 _ ?_
  refine tS hok fun J hJ=>?_
  simp only [C.f99r3,R,Nat.reduceEqDiff,h4,h5]
  refine hJ _ ?_
  refine tR ?_
  obtain rfl:=Option.some.inj hm
  exact ef1 rfl rfl
def b_cC (n:Nat) (x0:Int) (x1:Int):Option (Int):=bif (decide (x0 = 0)) || (decide (x1 = 0)) then (some 0) else (bif (decide (x0 = ((-1)))) || (decide (x1 = ((-1)))) then (some ((-1))) else (some (min (IntKind.i64.wrap (x0 * x1)) 1048576)))
theorem w_fR {call:CallF} (hok:CallOk Mt call) {n:Nat} {H0:Hp} {x0:Int} {x1:Int} {r:Int} {ro:Nat} (hro:ro ≤ H0.length) (hm:b_cC n x0 x1 = some r) :
  Pt Mt ro 100 [(.int .i64 x0),(.int .i64 x1)] H0 (.int .i64 (r)) H0 []:=by
 refine pt_new0 okM F100d (by exact Nat.le_of_ble_eq_true rfl) ?_ hro
 intro c hnt hnb hcr
 have hcn:c.ro ≤ c.nb:=by omega
 have iv:Iv c.nb [] H0 H0:=by rw [hnb]; exact iv_refl
 rw [aI2]
 rw [b_cC] at hm
 simp only [C.f100]
 refine tS hok fun J hJ=>?_
 simp only [C.f100r0,R,Nat.reduceEqDiff]
 refine hJ _ ?_
 refine tk_seq_k fun K n1 x2=>?_
 refine tk_block_k fun K n3 e4 x5=>?_
 refine tS hok fun J hJ=>?_
 rw [C.f100r1]
 refine rn_app_k (fun ⟨σ,H,_⟩=>Lk σ 0 (.int .i64 (x0)) ∧ Lk σ 1 (.int .i64 (x1)) ∧ Lk σ 11 (.bool ((decide (x0 = 0)) || (decide (x1 = 0)))) ∧ Iv c.nb [] H0 H) (fun J hJ=>?_) ?_
 ·skip
  cases g11:decide (x0 = 0)
  ·skip
   simp only [C.f100r1p0,R,Nat.reduceEqDiff,g11]
   exact hJ _ ⟨(by first | rfl | (simp only [g11]; rfl) | simp only [g11,Lk,RB,Nat.reduceEqDiff,not_false_eq_true]),(by first | rfl | (simp only [g11]; rfl) | simp only [g11,Lk,RB,Nat.reduceEqDiff,not_false_eq_true]),(by first | rfl | (simp only [g11]; rfl) | simp only [g11,Lk,RB,Nat.reduceEqDiff,not_false_eq_true]),iv⟩
  ·skip
   simp only [C.f100r1p0,R,Nat.reduceEqDiff,g11]
   exact hJ _ ⟨(by first | rfl | (simp only [g11]; rfl) | simp only [g11,Lk,RB,Nat.reduceEqDiff,not_false_eq_true]),(by first | rfl | (simp only [g11]; rfl) | simp only [g11,Lk,RB,Nat.reduceEqDiff,not_false_eq_true]),(by first | rfl | (simp only [g11]; rfl) | simp only [g11,Lk,RB,Nat.reduceEqDiff,not_false_eq_true]),iv⟩
 rintro ⟨σ12,H6,d13⟩ ⟨h7,h8,h9,i10⟩
 simp only [C.f100r1p1,R,Nat.reduceEqDiff,h9]
 refine hJ _ ?_
 refine tC rfl hm (fun g14 hm=>?_) (fun g14 hm=>?_)
 ·skip
  refine tS hok fun J hJ=>?_
  simp only [C.f100r2,R,Nat.reduceEqDiff]
  refine hJ _ ?_
  refine tR ?_
  refine x5 _ _ (by simp) (by simp) ?_
  refine x2 _ _ (by simp) ?_
  obtain rfl:=Option.some.inj hm
  exact ef1 rfl rfl
 ·skip
  refine tS hok fun J hJ=>?_
  rw [C.f100r3]
  refine rn_app_k (fun ⟨σ,H,_⟩=>Lk σ 0 (.int .i64 (x0)) ∧ Lk σ 1 (.int .i64 (x1)) ∧ Lk σ 18 (.bool ((decide (x0 = ((-1)))) || (decide (x1 = ((-1)))))) ∧ Iv c.nb [] H0 H) (fun J hJ=>?_) ?_
  ·skip
   cases g20:decide (x0 = ((-1)))
   ·skip
    simp only [C.f100r3p0,R,Nat.reduceEqDiff,h7,g20,h8]
    exact hJ _ ⟨h7,h8,(by first | rfl | (simp only [g20]; rfl) | simp only [g20,Lk,RB,Nat.reduceEqDiff,not_false_eq_true]),i10⟩
   ·skip
    simp only [C.f100r3p0,R,Nat.reduceEqDiff,h7,g20]
    exact hJ _ ⟨h7,h8,(by first | rfl | (simp only [g20]; rfl) | simp only [g20,Lk,RB,Nat.reduceEqDiff,not_false_eq_true]),i10⟩
  rintro ⟨σ21,H15,d22⟩ ⟨h16,h17,h18,i19⟩
  simp only [C.f100r3p1,R,Nat.reduceEqDiff,h18]
  refine hJ _ ?_
  refine tC rfl hm (fun g23 hm=>?_) (fun g23 hm=>?_)
  ·skip
   refine tS hok fun J hJ=>?_
   simp only [C.f100r4,R,Nat.reduceEqDiff]
   refine hJ _ ?_
   refine tR ?_
   refine x5 _ _ (by simp) (by simp) ?_
   refine x2 _ _ (by simp) ?_
   obtain rfl:=Option.some.inj hm
   exact ef1 rfl rfl
  ·skip
   refine tK ?_
   refine n3 _ ?_
   refine n1 _ ?_
   refine tS hok fun J hJ=>?_
   simp only [C.f100r5,R,Nat.reduceEqDiff,h16,h17]
   refine hJ _ ?_
   refine tR ?_
   obtain rfl:=Option.some.inj hm
   exact ef1 rfl rfl
def b_bE (n:Nat) (x0:Int) (x1:(Sl Int)):Option (Int):=(ck (Sl.l x1).length x0).bind fun j4=>some (IntKind.i64.wrap ((IntKind.i64.wrap (x0 - (Sl.nth x1 j4))) + 1))
theorem w_ey {call:CallF} (hok:CallOk Mt call) {n:Nat} {H0:Hp} {x0:Int} {x1:(Sl Int)} {b1:Nat} {s1:Nat} {r:Int} {ro:Nat} (hro:ro ≤ H0.length) (hb1:H0[b1]? = some (.cells [slV x1 s1] 100)) (h1:SlH H0 (cInt .i64) 3 x1 s1) (hm:b_bE n x0 x1 = some r) :
  Pt Mt ro 102 [(.int .i64 x0),(.pointer (some ⟨b1,0,none⟩))] H0 (.int .i64 (r)) H0 []:=by
 refine pt_new0 okM F102d (by exact Nat.le_of_ble_eq_true rfl) ?_ hro
 intro c hnt hnb hcr
 have hcn:c.ro ≤ c.nb:=by omega
 have lb1:b1 < c.nb:=by rw [hnb]; exact get_lt hb1
 have l1:x1 ≠ none → s1 < c.nb:=fun h=>by rw [hnb]; exact h1.lt h
 have iv:Iv c.nb [] H0 H0:=by rw [hnb]; exact iv_refl
 rw [aI2]
 rw [b_bE] at hm
 simp only [C.f102]
 refine tS hok fun J hJ=>?_
 simp only [C.f102r0,R,Nat.reduceEqDiff]
 refine hJ _ ?_
 refine tS hok fun J hJ=>?_
 have a3:=lo ((iv.old b1 lb1 (by simp)).trans hb1) T.ag100 Seg.refl
 obtain ⟨j4,ej4,hm⟩:=bind_s hm
 obtain ⟨mm5,k6⟩:=(h1.iv l1 (fun _=>by simp) iv).blk (ck_lt ej4).1
 have a7:=lso k6 T.ag3 (seg_sl enc_int.len mm5 (ck_lt ej4).1)
 simp only [C.f102r1,R,Nat.reduceEqDiff,a3,ia100,ej4,a7]
 refine hJ _ ?_
 refine tR ?_
 obtain rfl:=Option.some.inj hm
 exact ef1 rfl rfl
def b_bF (c_bf:T_ci) (n:Nat) (x0:Int) (x1:Int) (x2:(Sl Int)) (x3:(Sl Int)):Option (Int):=(c_bf x0 x2).bind fun v10=>(c_bf x1 x2).bind fun v13=>bif !decide ((IntKind.i64.wrap (v10 - v13)) = 0) then (some (IntKind.i64.wrap (v10 - v13))) else ((ck (Sl.l x3).length x1).bind fun j16=>(ck (Sl.l x3).length x0).bind fun j21=>some (IntKind.i64.wrap ((Sl.nth x3 j16) - (Sl.nth x3 j21))))
theorem w_eA {call:CallF} (hok:CallOk Mt call) {n:Nat} {c_bf:T_ci} (z_cT:A_c6 call c_bf) {H0:Hp} {x0:Int} {x1:Int} {x2:(Sl Int)} {d2:Nat} {b2:Nat} {s2:Nat} {x3:(Sl Int)} {b3:Nat} {s3:Nat} {r:Int} {ro:Nat} (hro:ro ≤ H0.length) (hd2:H0[d2]? = some (.cells [.func (.func 102) [].toArray [(.pointer (some ⟨b2,0,none⟩))].toArray] 99)) (hb2:H0[b2]? = some (.cells [slV x2 s2] 100)) (h2:SlH H0 (cInt .i64) 3 x2 s2) (hb3:H0[b3]? = some (.cells [slV x3 s3] 100)) (h3:SlH H0 (cInt .i64) 3 x3 s3) (hm:b_bF c_bf n x0 x1 x2 x3 = some r) :
  Pt Mt ro 104 [(.int .i64 x0),(.int .i64 x1),(.pointer (some ⟨d2,0,none⟩)),(.pointer (some ⟨b3,0,none⟩))] H0 (.int .i64 (r)) H0 []:=by
 refine pt_new0 okM F104d (by exact Nat.le_of_ble_eq_true rfl) ?_ hro
 intro c hnt hnb hcr
 have hcn:c.ro ≤ c.nb:=by omega
 have lb2:b2 < c.nb:=by rw [hnb]; exact get_lt hb2
 have l2:x2 ≠ none → s2 < c.nb:=fun h=>by rw [hnb]; exact h2.lt h
 have ld2:d2 < c.nb:=by rw [hnb]; exact get_lt hd2
 have lb3:b3 < c.nb:=by rw [hnb]; exact get_lt hb3
 have l3:x3 ≠ none → s3 < c.nb:=fun h=>by rw [hnb]; exact h3.lt h
 have iv:Iv c.nb [] H0 H0:=by rw [hnb]; exact iv_refl
 rw [aI4]
 rw [b_bF] at hm
 simp only [C.f104]
 refine tS hok fun J hJ=>?_
 simp only [C.f104r0,R,Nat.reduceEqDiff]
 refine hJ _ ?_
 refine tk_seq_k fun K n6 x7=>?_
 refine tS hok fun J hJ=>?_
 have a8:=lo ((iv.old d2 ld2 (by simp)).trans hd2) T.ag99 Seg.refl
 obtain ⟨v10,ev10,hm⟩:=bind_s hm
 have a9:=z_cT H0.length H0 x0 x2 b2 s2 v10 ((iv.old b2 lb2 (by simp)).trans hb2) (h2.iv l2 (fun _=>by simp) iv) ev10
 have a11:=lo ((iv.old d2 ld2 (by simp)).trans hd2) T.ag99 Seg.refl
 obtain ⟨v13,ev13,hm⟩:=bind_s hm
 have a12:=z_cT H0.length H0 x1 x2 b2 s2 v13 ((iv.old b2 lb2 (by simp)).trans hb2) (h2.iv l2 (fun _=>by simp) iv) ev13
 simp only [C.f104r1,R,Nat.reduceEqDiff,s_pt,s_gt,isW,Bool.false_eq_true,if_false,if_true,reduceIte,a8,c_cl,cl_fn F102,List.toList_toArray,List.nil_append,List.append_nil,List.cons_append,a9,a11,a12]
 refine hJ _ ?_
 refine tS hok fun J hJ=>?_
 simp only [C.f104r2,R,Nat.reduceEqDiff]
 refine hJ _ ?_
 refine tC rfl hm (fun g14 hm=>?_) (fun g14 hm=>?_)
 ·skip
  refine tS hok fun J hJ=>?_
  simp only [C.f104r3,R,Nat.reduceEqDiff]
  refine hJ _ ?_
  refine tR ?_
  refine x7 _ _ (by simp) ?_
  obtain rfl:=Option.some.inj hm
  exact ef1 rfl rfl
 ·skip
  refine tK ?_
  refine n6 _ ?_
  refine tS hok fun J hJ=>?_
  have a15:=lo ((iv.old b3 lb3 (by simp)).trans hb3) T.ag100 Seg.refl
  obtain ⟨j16,ej16,hm⟩:=bind_s hm
  obtain ⟨mm17,k18⟩:=(h3.iv l3 (fun _=>by simp) iv).blk (ck_lt ej16).1
  have a19:=lso k18 T.ag3 (seg_sl enc_int.len mm17 (ck_lt ej16).1)
  have a20:=lo ((iv.old b3 lb3 (by simp)).trans hb3) T.ag100 Seg.refl
  obtain ⟨j21,ej21,hm⟩:=bind_s hm
  obtain ⟨mm22,k23⟩:=(h3.iv l3 (fun _=>by simp) iv).blk (ck_lt ej21).1
  have a24:=lso k23 T.ag3 (seg_sl enc_int.len mm22 (ck_lt ej21).1)
  simp only [C.f104r4,R,Nat.reduceEqDiff,s_pt,s_gt,isW,Bool.false_eq_true,if_false,if_true,reduceIte,a15,ia100,ej16,a19,a20,ej21,a24]
  refine hJ _ ?_
  refine tR ?_
  obtain rfl:=Option.some.inj hm
  exact ef1 rfl rfl
def b_bK (n:Nat) (x0:S_a) (x1:(Sl Int)):Option (Bool):=some ((decide (x0.f_Kind = 12)) && ((decide (x0.f_N < 1)) || (decide ((Sl.len x1) < x0.f_N))))
theorem w_ex {call:CallF} (hok:CallOk Mt call) {n:Nat} {H0:Hp} {x0:S_a} {x1:(Sl Int)} {b1:Nat} {s1:Nat} {r:Bool} {ro:Nat} (hro:ro ≤ H0.length) (hb1:H0[b1]? = some (.cells [slV x1 s1] 100)) (h1:SlH H0 (cInt .i64) 3 x1 s1) (hm:b_bK n x0 x1 = some r) :
  Pt Mt ro 105 [(vAgg (S_a.c x0)),(.pointer (some ⟨b1,0,none⟩))] H0 (.bool (r)) H0 []:=by
 refine pt_new0 okM F105d (by exact Nat.le_of_ble_eq_true rfl) ?_ hro
 intro c hnt hnb hcr
 have hcn:c.ro ≤ c.nb:=by omega
 have lb1:b1 < c.nb:=by rw [hnb]; exact get_lt hb1
 have l1:x1 ≠ none → s1 < c.nb:=fun h=>by rw [hnb]; exact h1.lt h
 have iv:Iv c.nb [] H0 H0:=by rw [hnb]; exact iv_refl
 rw [aI2]
 rw [b_bK] at hm
 simp only [C.f105]
 refine tS hok fun J hJ=>?_
 obtain ⟨b3,H4,a5,f6,q7,r8,x9,i10⟩:=bx_ok (M:=Mt) (t:=72) (u:=(vAgg (S_a.c (x0)))) (cs:=S_a.c x0) H0 iv.le (by rw [S_a.enc.len]; exact T.sz72) vAgg_cells (S_a.enc.one _)
 have i11:=i10 _ _ iv
 simp only [C.f105r0,R,Nat.reduceEqDiff,a5]
 refine hJ _ ?_
 refine tS hok fun J hJ=>?_
 rw [C.f105r1]
 have a13:=lo f6 T.ag3 (Seg.refl.sub (S_a.seg0 x0))
 refine rn_app_k (fun ⟨σ,H,_⟩=>Lk σ 18 (.bool ((decide (x0.f_Kind = 12)) && ((decide (x0.f_N < 1)) || (decide ((Sl.len x1) < x0.f_N))))) ∧ Iv c.nb [] H0 H) (fun J hJ=>?_) ?_
 ·skip
  cases g20:decide (x0.f_Kind = 12)
  ·skip
   simp only [C.f105r1p0,R,Nat.reduceEqDiff,fa72_0,a13,g20]
   exact hJ _ ⟨(by first | rfl | (simp only [g20]; rfl) | simp only [g20,Lk,RB,Nat.reduceEqDiff,not_false_eq_true]),i11⟩
  ·skip
   have a21:=lo f6 T.ag3 (Seg.refl.sub (S_a.seg7 x0))
   cases g24:decide (x0.f_N < 1)
   ·skip
    have a25:=lo f6 T.ag3 (Seg.refl.sub (S_a.seg7 x0))
    have a26:=lo ((i11.old b1 lb1 (by simp)).trans hb1) T.ag100 Seg.refl
    simp only [C.f105r1p0,R,Nat.reduceEqDiff,fa72_0,a13,g20,fa72_7,a21,g24,a25,a26,ln100]
    exact hJ _ ⟨(by first | rfl | (simp only [g20,g24]; rfl) | simp only [g20,g24,Lk,RB,Nat.reduceEqDiff,not_false_eq_true]),i11⟩
   ·skip
    simp only [C.f105r1p0,R,Nat.reduceEqDiff,fa72_0,a13,g20,fa72_7,a21,g24]
    exact hJ _ ⟨(by first | rfl | (simp only [g20,g24]; rfl) | simp only [g20,g24,Lk,RB,Nat.reduceEqDiff,not_false_eq_true]),i11⟩
 rintro ⟨σ27,H17,d28⟩ ⟨h18,i19⟩
 simp only [C.f105r1p1,R,Nat.reduceEqDiff,h18]
 refine hJ _ ?_
 refine tR ?_
 obtain rfl:=Option.some.inj hm
 exact ef1 rfl rfl
def b_1 (c_Z:T_bk) (n:Nat) (x0:(Sl S_a)) (x1:(Sl Int)):Option (Bool):=(c_Z x0 x1).bind fun v5=>some (decide (0 ≤ v5))
theorem w_do {call:CallF} (hok:CallOk Mt call) {n:Nat} {c_Z:T_bk} (z_db:A_ca call c_Z) {H0:Hp} {x0:(Sl S_a)} {b0:Nat} {x1:(Sl Int)} {b1:Nat} {s1:Nat} {r:Bool} {ro:Nat} (hro:ro ≤ H0.length) (h0:SlH H0 S_a.c 72 x0 b0) (hb1:H0[b1]? = some (.cells [slV x1 s1] 100)) (h1:SlH H0 (cInt .i64) 3 x1 s1) (hm:b_1 c_Z n x0 x1 = some r) :
  Pt Mt ro 106 [(slV x0 b0),(.func (.func 105) [].toArray [(.pointer (some ⟨b1,0,none⟩))].toArray)] H0 (.bool (r)) H0 []:=by
 refine pt_new0 okM F106d (by exact Nat.le_of_ble_eq_true rfl) ?_ hro
 intro c hnt hnb hcr
 have hcn:c.ro ≤ c.nb:=by omega
 have l0:x0 ≠ none → b0 < c.nb:=fun h=>by rw [hnb]; exact h0.lt h
 have lb1:b1 < c.nb:=by rw [hnb]; exact get_lt hb1
 have l1:x1 ≠ none → s1 < c.nb:=fun h=>by rw [hnb]; exact h1.lt h
 have iv:Iv c.nb [] H0 H0:=by rw [hnb]; exact iv_refl
 rw [aI2]
 rw [b_1] at hm
 simp only [C.f106]
 refine tS hok fun J hJ=>?_
 simp only [C.f106r0,R,Nat.reduceEqDiff]
 refine hJ _ ?_
 refine tS hok fun J hJ=>?_
 obtain ⟨v5,ev5,hm⟩:=bind_s hm
 have a4:=z_db c.ro H0 x0 b0 x1 b1 s1 v5 (h0.iv l0 (fun _=>by simp) iv) ((iv.old b1 lb1 (by simp)).trans hb1) (h1.iv l1 (fun _=>by simp) iv) ev5
 simp only [C.f106r1,R,Nat.reduceEqDiff,c_fn F138,a4]
 refine hJ _ ?_
 refine tR ?_
 obtain rfl:=Option.some.inj hm
 exact ef1 rfl rfl
def b_bU (n:Nat) (x0:S_a):Option (S_a):=some (S_a.w2 (S_a.w1 ({ x0 with f_Kind:=0 }) 0) 0)
theorem w_eN {call:CallF} (hok:CallOk Mt call) {n:Nat} {H0:Hp} {x0:S_a} {r:S_a} {ro:Nat} (hro:ro ≤ H0.length) (hm:b_bU n x0 = some r) :
  Pt Mt ro 124 [(vAgg (S_a.c x0))] H0 (vAgg (S_a.c (r))) H0 []:=by
 refine pt_new0 okM F124d (by exact Nat.le_of_ble_eq_true rfl) ?_ hro
 intro c hnt hnb hcr
 have hcn:c.ro ≤ c.nb:=by omega
 have iv:Iv c.nb [] H0 H0:=by rw [hnb]; exact iv_refl
 rw [aI1]
 rw [b_bU] at hm
 simp only [C.f124]
 refine tS hok fun J hJ=>?_
 obtain ⟨b1,H2,a3,f4,q5,r6,x7,i8⟩:=bx_ok (M:=Mt) (t:=72) (u:=(vAgg (S_a.c (x0)))) (cs:=S_a.c x0) H0 iv.le (by rw [S_a.enc.len]; exact T.sz72) vAgg_cells (S_a.enc.one _)
 have i9:=i8 _ _ iv
 obtain ⟨b11,H12,a13,f14,q15,r16,x17,i18⟩:=al_ok H2 72 (S_a.c S_a.zero) i9.le
 have i19:=i18 _ _ i9
 have f20:=x17 _ _ f4
 simp only [C.f124r0,R,Nat.reduceEqDiff,a3,zs72,a13]
 refine hJ _ ?_
 refine tS hok fun J hJ=>?_
 obtain ⟨H22,a23,f24,u25⟩:=st_ok (M:=Mt) (t:=3) (v:=(.int .i64 (0))) (c:=(cInt .i64) 0) (cs':=S_a.c ({ x0 with f_Kind:=0 })) f20 (by rw [enc_int.len]; exact T.sz3) rfl (enc_int.one _) (Nat.le_trans hcn r6) (Nat.le_trans (Nat.le_of_eq (congrArg _ (eqL enc_int.len))) (Seg.refl.sub (S_a.seg0 x0)).2) (by rw [Nat.zero_add,S_a.wr0 x0 0])
 have i26:=i19.up u25 r6
 have f27:=(u25.get _ (ne_len f4 q15).symm).trans f14
 obtain ⟨H28,a29,f30,u31⟩:=st_ok (M:=Mt) (t:=3) (v:=(.int .i64 (0))) (c:=(cInt .i64) 0) (cs':=S_a.c (S_a.w1 ({ x0 with f_Kind:=0 }) 0)) f24 (by rw [enc_int.len]; exact T.sz3) rfl (enc_int.one _) (Nat.le_trans hcn r6) (Nat.le_trans (Nat.le_of_eq (congrArg _ (eqL enc_int.len))) (Seg.refl.sub (S_a.seg1 ({ x0 with f_Kind:=0 }))).2) (by rw [Nat.zero_add,S_a.wr1 ({ x0 with f_Kind:=0 }) 0])
 have i32:=i26.up u31 r6
 have f33:=(u31.get _ (ne_len f4 q15).symm).trans f27
 obtain ⟨H34,a35,f36,u37⟩:=st_ok (M:=Mt) (t:=3) (v:=(.int .i64 (0))) (c:=(cInt .i64) 0) (cs':=S_a.c (S_a.w2 (S_a.w1 ({ x0 with f_Kind:=0 }) 0) 0)) f30 (by rw [enc_int.len]; exact T.sz3) rfl (enc_int.one _) (Nat.le_trans hcn r6) (Nat.le_trans (Nat.le_of_eq (congrArg _ (eqL enc_int.len))) (Seg.refl.sub (S_a.seg2 (S_a.w1 ({ x0 with f_Kind:=0 }) 0))).2) (by rw [Nat.zero_add,S_a.wr2 (S_a.w1 ({ x0 with f_Kind:=0 }) 0) 0])
 have i38:=i32.up u37 r6
 have f39:=(u37.get _ (ne_len f4 q15).symm).trans f33
 simp only [C.f124r1,R,Nat.reduceEqDiff,fa72_0,a23,fa72_1,a29,fa72_2,a35]
 refine hJ _ ?_
 refine tS hok fun J hJ=>?_
 have a40:=la f36 T.ag72 (by rw [S_a.enc.len]; exact T.sz72) Seg.refl
 obtain ⟨H41,a42,f43,u44⟩:=st_ok (M:=Mt) (t:=72) (v:=(vAgg (S_a.c (S_a.w2 (S_a.w1 ({ x0 with f_Kind:=0 }) 0) 0)))) (c:=S_a.c (S_a.w2 (S_a.w1 ({ x0 with f_Kind:=0 }) 0) 0)) (cs':=S_a.c (S_a.w2 (S_a.w1 ({ x0 with f_Kind:=0 }) 0) 0)) f39 (by rw [S_a.enc.len]; exact T.sz72) vAgg_cells (S_a.enc.one _) (Nat.le_trans hcn r16) (le0 S_a.enc.len) (wrs_all (eqL S_a.enc.len))
 have i45:=i38.up u44 r16
 have f46:=(u44.get _ (ne_len f4 q15)).trans f36
 simp only [C.f124r2,R,Nat.reduceEqDiff,a40,a42]
 refine hJ _ ?_
 refine tR ?_
 obtain rfl:=Option.some.inj hm
 exact end_flat (.inl rfl) (vs:=[(vAgg (S_a.c (S_a.w2 (S_a.w1 ({ x0 with f_Kind:=0 }) 0) 0)))]) (resC' (v:=(vAgg (S_a.c (S_a.w2 (S_a.w1 ({ x0 with f_Kind:=0 }) 0) 0)))) rfl (ldv_of (ld_agg (M:=Mt) (t:=72) f43 T.ag72 (by rw [S_a.enc.len]; exact T.sz72) Seg.refl)) resN) (fm_cons (flat_agg S_a.enc _) fm_nil)
def b_s (c_H:T_bJ) (n:Nat) (x0:(Sl S_a)) (x1:(Sl Int)):Nat → Int → Int → Option (Int)
 | 0,_,_=>none
 | k + 1,x7_9,x8_10=>bif decide (x8_10 < x7_9) then ((ck (Sl.l x0).length x8_10).bind fun j29=>(c_H (Sl.nth x0 j29) x1).bind fun v34=>bif v34 then (some x8_10) else (b_s c_H n x0 x1 k x7_9 (IntKind.i64.wrap (x8_10 + 1)))) else (some ((-1)))
def b_Y (c_H:T_bJ) (n:Nat) (x0:(Sl S_a)) (x1:(Sl Int)):Option (Int):=b_s c_H n x0 x1 n (Sl.len x0) 0
theorem w_dm {call:CallF} (hok:CallOk Mt call) {n:Nat} {c_H:T_bJ} (z_ej:A_c5 call c_H) {H0:Hp} {x0:(Sl S_a)} {b0:Nat} {x1:(Sl Int)} {b1:Nat} {s1:Nat} {r:Int} {ro:Nat} (hro:ro ≤ H0.length) (h0:SlH H0 S_a.c 72 x0 b0) (hb1:H0[b1]? = some (.cells [slV x1 s1] 100)) (h1:SlH H0 (cInt .i64) 3 x1 s1) (hm:b_Y c_H n x0 x1 = some r) :
  Pt Mt ro 138 [(slV x0 b0),(.func (.func 105) [].toArray [(.pointer (some ⟨b1,0,none⟩))].toArray)] H0 (.int .i64 (r)) H0 []:=by
 refine pt_new0 okM F138d (by exact Nat.le_of_ble_eq_true rfl) ?_ hro
 intro c hnt hnb hcr
 have hcn:c.ro ≤ c.nb:=by omega
 have l0:x0 ≠ none → b0 < c.nb:=fun h=>by rw [hnb]; exact h0.lt h
 have lb1:b1 < c.nb:=by rw [hnb]; exact get_lt hb1
 have l1:x1 ≠ none → s1 < c.nb:=fun h=>by rw [hnb]; exact h1.lt h
 have iv:Iv c.nb [] H0 H0:=by rw [hnb]; exact iv_refl
 rw [aI2]
 rw [b_Y] at hm
 simp only [C.f138,C.f138b0]
 refine tS hok fun J hJ=>?_
 simp only [C.f138r0,R,Nat.reduceEqDiff]
 refine hJ _ ?_
 refine tk_seq_k fun K n4 x5=>?_
 refine tS hok fun J hJ=>?_
 simp only [C.f138r1,R,Nat.reduceEqDiff,ln35]
 refine hJ _ ?_
 refine tk_block_k fun K n6 e7 x8=>?_
 refine tk_loop_k (n:=n) (fun k1 ⟨σ,H,_⟩=>∃ x7_9 x8_10,b_s c_H n x0 x1 k1 x7_9 x8_10 = some r ∧ Lk σ 0 (slV x0 b0) ∧ Lk σ 1 (.func (.func 105) [].toArray [(.pointer (some ⟨b1,0,none⟩))].toArray) ∧ Lk σ 7 (.int .i64 x7_9) ∧ Lk σ 8 (.int .i64 x8_10) ∧ Iv c.nb [] H0 H) ?_ ?_ ?_
 ·exact ⟨Sl.len x0,0,hm,rfl,rfl,rfl,rfl,iv⟩
 ·rintro ⟨σ,H,d⟩ ⟨_,_,hm,_⟩
  cases hm
 ·intro k1 K n11 x12
  rintro ⟨σ19,H13,d20⟩ ⟨x7_9,x8_10,hm,h14,h15,h16,h17,i18⟩
  rw [b_s.eq_2] at hm
  refine tS hok fun J hJ=>?_
  simp only [C.f138r2,R,Nat.reduceEqDiff,h17,h16]
  refine hJ _ ?_
  refine tk_seq_k fun K n21 x22=>?_
  refine tC rfl hm (fun g23 hm=>?_) (fun g23 hm=>?_)
  ·skip
   refine tK ?_
   refine n21 _ ?_
   refine tk_seq_k fun K n24 x25=>?_
   refine tk_block_k fun K n26 e27 x28=>?_
   refine tS hok fun J hJ=>?_
   simp only [C.f138r3,R,Nat.reduceEqDiff,h17]
   refine hJ _ ?_
   refine tS hok fun J hJ=>?_
   obtain ⟨j29,ej29,hm⟩:=bind_s hm
   obtain ⟨mm30,k31⟩:=(h0.iv l0 (fun _=>by simp) i18).blk (ck_lt ej29).1
   have a32:=lsa k31 T.ag72 (by rw [S_a.enc.len]; exact T.sz72) (seg_sl S_a.enc.len mm30 (ck_lt ej29).1)
   obtain ⟨v34,ev34,hm⟩:=bind_s hm
   have a33:=z_ej c.ro H13 (Sl.nth x0 j29) x1 b1 s1 v34 ((i18.old b1 lb1 (by simp)).trans hb1) (h1.iv l1 (fun _=>by simp) i18) ev34
   simp only [C.f138r4,R,Nat.reduceEqDiff,h15,h14,ia35,ej29,a32,c_cl,cl_fn F105,List.toList_toArray,List.nil_append,List.append_nil,List.cons_append,a33]
   refine hJ _ ?_
   refine tC rfl hm (fun g35 hm=>?_) (fun g35 hm=>?_)
   ·skip
    refine tS hok fun J hJ=>?_
    simp only [C.f138r5,R,Nat.reduceEqDiff]
    refine hJ _ ?_
    refine tR ?_
    refine x28 _ _ (by simp) (by simp) ?_
    refine x25 _ _ (by simp) ?_
    refine x12 _ _ (by simp) ?_
    refine x8 _ _ (by simp) (by simp) ?_
    refine x5 _ _ (by simp) ?_
    obtain rfl:=Option.some.inj hm
    exact ef1 rfl rfl
   ·skip
    refine tK ?_
    refine n26 _ ?_
    refine n24 _ ?_
    refine tE hok fun J hJ=>?_
    simp only [C.f138r6,R,Nat.reduceEqDiff,h17]
    refine hJ _ ?_
    refine n11 _ ?_
    exact ⟨x7_9,IntKind.i64.wrap (x8_10 + 1),hm,h14,h15,h16,rfl,i18⟩
  ·skip
   refine tX ?_
   refine x22 _ _ (by simp) ?_
   refine x12 _ _ (by simp) ?_
   refine e7 _ ?_
   refine n4 _ ?_
   refine tS hok fun J hJ=>?_
   simp only [C.f138r7,R,Nat.reduceEqDiff]
   refine hJ _ ?_
   refine tR ?_
   obtain rfl:=Option.some.inj hm
   exact ef1 rfl rfl
end Go.Proofs.YtaadjlpfdajggaaGreatDoor
