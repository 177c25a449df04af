import Derived.Test.YtaadjlpfdajggaaGreatDoorBtV0
import Derived.Test.YtaadjlpfdajggaaGreatDoorBtV1
import Derived.Test.YtaadjlpfdajggaaGreatDoorBtV2
import Derived.Test.YtaadjlpfdajggaaGreatDoorBtV3
import Derived.Test.YtaadjlpfdajggaaGreatDoorBtAm25
set_option maxRecDepth 100000
set_option linter.unusedVariables false
set_option linter.unusedSimpArgs false
namespace Go.Proofs.YtaadjlpfdajggaaGreatDoor
open Go Go.AM
noncomputable section
def m_cG:Nat → Option (Bool)
 | 0=>none
 | _ + 1=>some true
def m_cZ:Nat → S_a → Option (S_a)
 | 0,_=>none
 | _ + 1,x0=>some (ownS x0)
def m_cf:Nat → (Sl S_a) → Int → Option ((Sl S_a))
 | 0,_,_=>none
 | n + 1,x0,x1=>b_dc n x0 x1
def m_db:Nat → S_a → Option (S_b)
 | 0,_=>none
 | n + 1,x0=>b_eW n x0
def m_c9:Nat → (Sl S_a) → Option ((Sl S_b))
 | 0,_=>none
 | n + 1,x0=>b_dS (m_db n) n x0
def m_bN:Nat → Int → Option (Int)
 | 0,_=>none
 | n + 1,x0=>b_ei n x0
def m_cN:Nat → S_a → Option (S_a)
 | 0,_=>none
 | n + 1,x0=>b_cL n x0
def m_bt:Nat → S_a → Option (Bool)
 | 0,_=>none
 | n + 1,x0=>b_cK (m_cN n) (m_cZ n) n x0
def m_bl:Nat → (Sl S_a) → Option ((Sl Int) × Bool)
 | 0,_=>none
 | n + 1,x0=>b_dY (m_bN n) (m_bt n) n x0
def m_cV:Nat → (Sl S_a) → Option ((Sl Int))
 | 0,_=>none
 | n + 1,x0=>b_ds (m_bN n) n x0
def m_br:Nat → (Sl Int) → Option (Int)
 | 0,_=>none
 | n + 1,x0=>b_bL n x0
def m_cn:Nat → (Sl S_a) → Option (Int)
 | 0,_=>none
 | n + 1,x0=>b_dz (m_bl n) (m_cV n) (m_br n) n x0
def m_ca:Nat → Int → Int → Option (Int)
 | 0,_,_=>none
 | n + 1,x0,x1=>b_ej n x0 x1
def m_bT:Nat → Int → Int → Option (Int)
 | 0,_,_=>none
 | n + 1,x0,x1=>b_dR n x0 x1
def m_c0:Nat → (Sl S_a) → Option ((Sl Int) × (Sl Int))
 | 0,_=>none
 | n + 1,x0=>b_ek (m_ca n) (m_bT n) n x0
def m_b0:Nat → Int → (Sl Int) → Option (Int)
 | 0,_,_=>none
 | n + 1,x0,x1=>b_cw n x0 x1
def m_v:Nat → Int → Int → (Sl Int) → (Sl Int) → Option (Int)
 | 0,_,_,_,_=>none
 | n + 1,x0,x1,x2,x3=>b_ct (m_b0 n) n x0 x1 x2 x3
def m_q:Nat → Sl Int → Sl Int → Option (Sl Int)
 | 0,_,_=>none
 | _ + 1,none,_=>some none
 | n + 1,some l,x1=>open Classical in
  if l ≠ [] ∧ l.length < 4611686018427387904 ∧ (∀ x ∈ l,∀ y ∈ l,m_v n x y x1 x1 ≠ none) ∧ OrdOn (ltC fun x y=>(m_v n x y x1 x1).getD 0) l then some (some (srt (fun x y=>(m_v n x y x1 x1).getD 0) l)) else none
theorem m103_some {n:Nat} {l:List Int} {x1 r:Sl Int} (h:m_q n (some l) x1 = some r):∃ k,n = k + 1 ∧ l ≠ [] ∧ l.length < 4611686018427387904 ∧ (∀ x ∈ l,∀ y ∈ l,m_v k x y x1 x1 ≠ none) ∧ OrdOn (ltC fun x y=>(m_v k x y x1 x1).getD 0) l ∧ r = some (srt (fun x y=>(m_v k x y x1 x1).getD 0) l):=by
 cases n with
 | zero=>simp [m_q] at h
 | succ n =>
  simp only [m_q] at h
  split at h
  ·rename_i hc; injection h with h; exact ⟨n,rfl,hc.1,hc.2.1,hc.2.2.1,hc.2.2.2,h.symm⟩
  ·cases h
theorem m103_none {n:Nat} {x1 r:Sl Int} (h:m_q n none x1 = some r):r = none:=by
 cases n with
 | zero=>simp [m_q] at h
 | succ n=>simp only [m_q,Option.some.injEq] at h; exact h.symm
def m_bz:Nat → S_a → (Sl Int) → Option (Bool)
 | 0,_,_=>none
 | n + 1,x0,x1=>b_cx n x0 x1
def m_by:Nat → (Sl S_a) → (Sl Int) → Option (Int)
 | 0,_,_=>none
 | n + 1,x0,x1=>b_bx (m_bz n) n x0 x1
def m_K:Nat → (Sl S_a) → (Sl Int) → Option (Bool)
 | 0,_,_=>none
 | n + 1,x0,x1=>b_bw (m_by n) n x0 x1
def m_b8:Nat → (Sl S_a) → Option (Bool)
 | 0,_=>none
 | n + 1,x0=>b_dh (m_bl n) (m_q n) (m_K n) n x0
def m_bm:Nat → (Sl S_a) → Option (Int)
 | 0,_=>none
 | n + 1,x0=>b_dW (m_cn n) (m_c0 n) (m_b8 n) n x0
def m_bP:Nat → Int → Option (Int)
 | 0,_=>none
 | n + 1,x0=>b_e2 n x0
def m_bu:Nat → S_a → Int → Option (Int)
 | 0,_,_=>none
 | n + 1,x0,x1=>b_dd n x0 x1
def m_da:Nat → (Sl S_a) → Int → Option ((Sl Int))
 | 0,_,_=>none
 | n + 1,x0,x1=>b_dT (m_bP n) (m_bu n) n x0 x1
def m_B:Nat → (Sl S_a) → Int → Option (Int × Int)
 | 0,_,_=>none
 | n + 1,x0,x1=>b_ck (m_bm n) (m_bP n) (m_da n) n x0 x1
def m_bs:Nat → Int → Option (Int)
 | 0,_=>none
 | n + 1,x0=>b_dq n x0
def m_cS:Nat → S_b → Option (Bool)
 | 0,_=>none
 | n + 1,x0=>b_dx n x0
def m_bZ:Nat → (Sl S_b) → Int → Option (Int)
 | 0,_,_=>none
 | n + 1,x0,x1=>b_dB (m_bs n) (m_bZ n) (m_cS n) n x0 x1
def m_bD:Nat → (Sl S_b) → Int → Option (Int)
 | 0,_,_=>none
 | n + 1,x0,x1=>b_cg (m_bs n) (m_bD n) n x0 x1
def m_cU:Nat → (Sl S_b) → Option (Int)
 | 0,_=>none
 | n + 1,x0=>b_dE (m_bZ n) (m_bD n) n x0
def m_bj:Nat → (Sl S_b) → Option (Int)
 | 0,_=>none
 | n + 1,x0=>b_c4 (m_cU n) n x0
def m_H:Nat → (Sl S_b) → Int → Option ((Sl Int))
 | 0,_,_=>none
 | n + 1,x0,x1=>b_bF (m_H n) (m_bs n) n x0 x1
def m_cr:Nat → Int → Int → Option (Int)
 | 0,_,_=>none
 | n + 1,x0,x1=>b_du n x0 x1
def m_b5:Nat → Int → Int → Option (Int)
 | 0,_,_=>none
 | n + 1,x0,x1=>b_dj n x0 x1
def m_Y:Nat → (Sl S_b) → Int → Option (Int × Int)
 | 0,_,_=>none
 | n + 1,x0,x1=>b_cp (m_Y n) (m_cr n) (m_b5 n) n x0 x1
def m_cH:Nat → (Sl S_b) → Option (Int)
 | 0,_=>none
 | n + 1,x0=>b_di (m_bj n) (m_H n) (m_Y n) n x0
def m_bC:Nat → (Sl S_b) → Int → Int → Option (Int)
 | 0,_,_,_=>none
 | n + 1,x0,x1,x2=>b_cj (m_bC n) (m_bs n) n x0 x1 x2
def m_I:Nat → (Sl S_b) → Int → Option (Int × Int)
 | 0,_,_=>none
 | n + 1,x0,x1=>b_cl (m_cH n) (m_bC n) n x0 x1
def m_fq:Nat → Nat → Option (Nat)
 | 0,_=>none
 | n + 1,x0=>b_fw n x0
def m_cQ:Nat → Nat → Int → Option (Bool)
 | 0,_,_=>none
 | n + 1,x0,x1=>b_eF (m_fq n) n x0 x1
def m_cz:Nat → Int → Option (Nat)
 | 0,_=>none
 | n + 1,x0=>b_ft n x0
def m_X:Nat → (Sl S_a) → Int → Option (Nat × Int)
 | 0,_,_=>none
 | n + 1,x0,x1=>b_cE (m_B n) (m_cQ n) (m_cz n) n x0 x1
def m_be:Nat → (Sl S_b) → Int → Option (Nat × Int)
 | 0,_,_=>none
 | n + 1,x0,x1=>b_cD (m_I n) (m_cz n) n x0 x1
def m_bU:Nat → (Sl S_a) → Int → Option (S_d × Int)
 | 0,_,_=>none
 | n + 1,x0,x1=>b_c6 (m_X n) n x0 x1
def m_cT:Nat → (Sl S_a) → Int → Option (Bool)
 | 0,_,_=>none
 | n + 1,x0,x1=>b_cc (m_cf n) (m_c9 n) (m_B n) (m_I n) (m_X n) (m_be n) (m_bU n) (m_cG n) n x0 x1
def K_bk:Co where
 f:=103
 X:=Sl Int × Sl Int
 R:=Sl Int
 rd:=fun ro H args x=>∃ b0 d1 b1 s1,args = [slV x.1 b0,(.func (.func 104) [].toArray [(.pointer (some ⟨d1,0,none⟩)),(.pointer (some ⟨b1,0,none⟩))].toArray)] ∧ SlO ro H (cInt .i64) 3 x.1 b0 ∧ H[d1]? = some (.cells [.func (.func 102) [].toArray [(.pointer (some ⟨b1,0,none⟩))].toArray] 99) ∧ H[b1]? = some (.cells [slV x.2 s1] 100) ∧ SlH H (cInt .i64) 3 x.2 s1 ∧ (x.1 ≠ none → b0 ≠ d1) ∧ (x.1 ≠ none → b0 ≠ b1) ∧ (x.1 ≠ none → x.2 ≠ none → b0 ≠ s1)
 inj:=by
  rintro ro H args ⟨x0,x1⟩ ⟨y0,y1⟩ ⟨b0,d1,b1,s1,h,f0,f1,f2,f3,_⟩ ⟨c_il,k1,c_h3,u1,h',g0,g1,g2,g3,_⟩
  rw [h] at h'; simp only [List.cons.injEq,and_true] at h'
  obtain ⟨e0,e1⟩:=h'
  have z0:x0 = y0:=slV_inj e0 enc_int.inj enc_int.len f0.h g0.h
  have q:d1 = k1 ∧ b1 = c_h3:=by simpa using e1
  obtain ⟨rfl,rfl⟩:=q
  have q:slV x1 s1 = slV y1 u1:=by have q:=f2.symm.trans g2; simpa using q
  have z1:x1 = y1:=slV_inj q enc_int.inj enc_int.len f3 g3
  subst z0 z1; rfl
 m:=fun n x=>m_q n x.1 x.2
 lay:=fun r args H=>(.tuple [].toArray,match r with | none=>H | some l=>H.set (blkOf (args.getD 0 default)) (.cells (l.flatMap (cInt .i64)) 3))
def K_cR:Co where
 f:=4
 X:=(Sl S_a) × Int
 R:=Bool
 rd:=fun ro H args x=>∃ (b0:Nat),args = [(vAgg [slV (x.1) b0]),(.int .i64 (x.2))] ∧ SlH H S_a.c 72 (x.1) b0 ∧ TabH1 H
 inj:=by
  rintro ro H args ⟨x0,x1⟩ ⟨y0,y1⟩ ⟨b0,h,f0,f1⟩ ⟨db0,h',g0,g1⟩
  rw [h] at h'; simp only [List.cons.injEq,and_true] at h'
  obtain ⟨e0,e1⟩:=h'
  have z0:x0 = y0:=slV_inj (List.cons.inj (vAgg_inj e0)).1 S_a.enc.inj S_a.enc.len f0 g0
  have z1:x1 = y1:=by injection e1
  subst z0 z1; rfl
 m:=fun n x=>m_cT n (x.1) (x.2)
 lay:=fun r args H=>((.bool (r)),H)
def K_e9:Co where
 f:=18
 X:=(Sl S_a) × Int
 R:=(Sl S_a)
 rd:=fun ro H args x=>∃ (b0:Nat),args = [(vAgg [slV (x.1) b0]),(.int .i64 (x.2))] ∧ SlH H S_a.c 72 (x.1) b0
 inj:=by
  rintro ro H args ⟨x0,x1⟩ ⟨y0,y1⟩ ⟨b0,h,f0⟩ ⟨db0,h',g0⟩
  rw [h] at h'; simp only [List.cons.injEq,and_true] at h'
  obtain ⟨e0,e1⟩:=h'
  have z0:x0 = y0:=slV_inj (List.cons.inj (vAgg_inj e0)).1 S_a.enc.inj S_a.enc.len f0 g0
  have z1:x1 = y1:=by injection e1
  subst z0 z1; rfl
 m:=fun n x=>m_cf n (x.1) (x.2)
 lay:=fun r args H=>((vAgg [slV r (blkA (args.getD 0 default))]),H)
def K_fb:Co where
 f:=19
 X:=(Sl S_a)
 R:=(Sl S_b)
 rd:=fun ro H args x=>∃ (b0:Nat),args = [(vAgg [slV x b0])] ∧ SlH H S_a.c 72 x b0
 inj:=by
  rintro ro H args x0 y0 ⟨b0,h,f0⟩ ⟨db0,h',g0⟩
  rw [h] at h'; simp only [List.cons.injEq,and_true] at h'
  have e0:=h'
  have z0:x0 = y0:=slV_inj (List.cons.inj (vAgg_inj e0)).1 S_a.enc.inj S_a.enc.len f0 g0
  subst z0; rfl
 m:=fun n x=>m_c9 n x
 lay:=fun r args H=>((slV r H.length),(H ++ slB S_b.c 97 r))
def K_es:Co where
 f:=20
 X:=(Sl S_a) × Int
 R:=Int × Int
 rd:=fun ro H args x=>∃ (b0:Nat),args = [(vAgg [slV (x.1) b0]),(.int .i64 (x.2))] ∧ SlH H S_a.c 72 (x.1) b0
 inj:=by
  rintro ro H args ⟨x0,x1⟩ ⟨y0,y1⟩ ⟨b0,h,f0⟩ ⟨db0,h',g0⟩
  rw [h] at h'; simp only [List.cons.injEq,and_true] at h'
  obtain ⟨e0,e1⟩:=h'
  have z0:x0 = y0:=slV_inj (List.cons.inj (vAgg_inj e0)).1 S_a.enc.inj S_a.enc.len f0 g0
  have z1:x1 = y1:=by injection e1
  subst z0 z1; rfl
 m:=fun n x=>m_B n (x.1) (x.2)
 lay:=fun r args H=>((.tuple [(.int .i64 (r.1)),(.int .i64 (r.2))].toArray),H)
def K_eP:Co where
 f:=21
 X:=(Sl S_b) × Int
 R:=Int × Int
 rd:=fun ro H args x=>∃ (b0:Nat),args = [(slV (x.1) b0),(.int .i64 (x.2))] ∧ SlH H S_b.c 97 (x.1) b0
 inj:=by
  rintro ro H args ⟨x0,x1⟩ ⟨y0,y1⟩ ⟨b0,h,f0⟩ ⟨db0,h',g0⟩
  rw [h] at h'; simp only [List.cons.injEq,and_true] at h'
  obtain ⟨e0,e1⟩:=h'
  have z0:x0 = y0:=slV_inj e0 S_b.enc.inj S_b.enc.len f0 g0
  have z1:x1 = y1:=by injection e1
  subst z0 z1; rfl
 m:=fun n x=>m_I n (x.1) (x.2)
 lay:=fun r args H=>((.tuple [(.int .i64 (r.1)),(.int .i64 (r.2))].toArray),H)
def K_d4:Co where
 f:=22
 X:=(Sl S_a) × Int
 R:=Nat × Int
 rd:=fun ro H args x=>∃ (b0:Nat),args = [(vAgg [slV (x.1) b0]),(.int .i64 (x.2))] ∧ SlH H S_a.c 72 (x.1) b0
 inj:=by
  rintro ro H args ⟨x0,x1⟩ ⟨y0,y1⟩ ⟨b0,h,f0⟩ ⟨db0,h',g0⟩
  rw [h] at h'; simp only [List.cons.injEq,and_true] at h'
  obtain ⟨e0,e1⟩:=h'
  have z0:x0 = y0:=slV_inj (List.cons.inj (vAgg_inj e0)).1 S_a.enc.inj S_a.enc.len f0 g0
  have z1:x1 = y1:=by injection e1
  subst z0 z1; rfl
 m:=fun n x=>m_X n (x.1) (x.2)
 lay:=fun r args H=>((.tuple [(.float .f64 (r.1)),(.int .i64 (r.2))].toArray),H)
def K_ee:Co where
 f:=23
 X:=(Sl S_b) × Int
 R:=Nat × Int
 rd:=fun ro H args x=>∃ (b0:Nat),args = [(slV (x.1) b0),(.int .i64 (x.2))] ∧ SlH H S_b.c 97 (x.1) b0
 inj:=by
  rintro ro H args ⟨x0,x1⟩ ⟨y0,y1⟩ ⟨b0,h,f0⟩ ⟨db0,h',g0⟩
  rw [h] at h'; simp only [List.cons.injEq,and_true] at h'
  obtain ⟨e0,e1⟩:=h'
  have z0:x0 = y0:=slV_inj e0 S_b.enc.inj S_b.enc.len f0 g0
  have z1:x1 = y1:=by injection e1
  subst z0 z1; rfl
 m:=fun n x=>m_be n (x.1) (x.2)
 lay:=fun r args H=>((.tuple [(.float .f64 (r.1)),(.int .i64 (r.2))].toArray),H)
def K_dJ:Co where
 f:=24
 X:=(Sl S_a) × Int
 R:=S_d × Int
 rd:=fun ro H args x=>∃ (b0:Nat),args = [(vAgg [slV (x.1) b0]),(.int .i64 (x.2))] ∧ SlH H S_a.c 72 (x.1) b0
 inj:=by
  rintro ro H args ⟨x0,x1⟩ ⟨y0,y1⟩ ⟨b0,h,f0⟩ ⟨db0,h',g0⟩
  rw [h] at h'; simp only [List.cons.injEq,and_true] at h'
  obtain ⟨e0,e1⟩:=h'
  have z0:x0 = y0:=slV_inj (List.cons.inj (vAgg_inj e0)).1 S_a.enc.inj S_a.enc.len f0 g0
  have z1:x1 = y1:=by injection e1
  subst z0 z1; rfl
 m:=fun n x=>m_bU n (x.1) (x.2)
 lay:=fun r args H=>((.tuple [(vAgg (S_d.c (r.1))),(.int .i64 (r.2))].toArray),H)
def K_fc:Co where
 f:=40
 X:=(Sl S_a)
 R:=Int
 rd:=fun ro H args x=>∃ (b0:Nat),args = [(vAgg [slV x b0])] ∧ SlH H S_a.c 72 x b0
 inj:=by
  rintro ro H args x0 y0 ⟨b0,h,f0⟩ ⟨db0,h',g0⟩
  rw [h] at h'; simp only [List.cons.injEq,and_true] at h'
  have e0:=h'
  have z0:x0 = y0:=slV_inj (List.cons.inj (vAgg_inj e0)).1 S_a.enc.inj S_a.enc.len f0 g0
  subst z0; rfl
 m:=fun n x=>m_bm n x
 lay:=fun r args H=>((.int .i64 (r)),H)
def K_e6:Co where
 f:=50
 X:=S_a
 R:=S_b
 rd:=fun ro H args x=>args = [(vAgg (S_a.c x))]
 inj:=by
  rintro ro H args x0 y0 h h'
  rw [h] at h'; simp only [List.cons.injEq,and_true] at h'
  have e0:=h'
  have z0:x0 = y0:=S_a.enc.inj _ _ (vAgg_inj e0)
  subst z0; rfl
 m:=fun n x=>m_db n x
 lay:=fun r args H=>((vAgg (S_b.c (r))),H)
def K_e0:Co where
 f:=51
 X:=Int
 R:=Int
 rd:=fun ro H args x=>args = [(.int .i64 x)]
 inj:=by
  rintro ro H args x0 y0 h h'
  rw [h] at h'; simp only [List.cons.injEq,and_true] at h'
  have e0:=h'
  have z0:x0 = y0:=by injection e0
  subst z0; rfl
 m:=fun n x=>m_bP n x
 lay:=fun r args H=>((.int .i64 (r)),H)
def K_e1:Co where
 f:=52
 X:=(Sl S_a) × Int
 R:=(Sl Int)
 rd:=fun ro H args x=>∃ (b0:Nat),args = [(vAgg [slV (x.1) b0]),(.int .i64 (x.2))] ∧ SlH H S_a.c 72 (x.1) b0
 inj:=by
  rintro ro H args ⟨x0,x1⟩ ⟨y0,y1⟩ ⟨b0,h,f0⟩ ⟨db0,h',g0⟩
  rw [h] at h'; simp only [List.cons.injEq,and_true] at h'
  obtain ⟨e0,e1⟩:=h'
  have z0:x0 = y0:=slV_inj (List.cons.inj (vAgg_inj e0)).1 S_a.enc.inj S_a.enc.len f0 g0
  have z1:x1 = y1:=by injection e1
  subst z0 z1; rfl
 m:=fun n x=>m_da n (x.1) (x.2)
 lay:=fun r args H=>((slV r H.length),(H ++ slB (cInt .i64) 3 r))
def K_dZ:Co where
 f:=53
 X:=(Sl S_b)
 R:=Int
 rd:=fun ro H args x=>∃ (b0:Nat),args = [(slV x b0)] ∧ SlH H S_b.c 97 x b0
 inj:=by
  rintro ro H args x0 y0 ⟨b0,h,f0⟩ ⟨db0,h',g0⟩
  rw [h] at h'; simp only [List.cons.injEq,and_true] at h'
  have e0:=h'
  have z0:x0 = y0:=slV_inj e0 S_b.enc.inj S_b.enc.len f0 g0
  subst z0; rfl
 m:=fun n x=>m_cH n x
 lay:=fun r args H=>((.int .i64 (r)),H)
def K_eQ:Co where
 f:=54
 X:=(Sl S_b) × Int × Int
 R:=Int
 rd:=fun ro H args x=>∃ (b0:Nat),args = [(slV (x.1) b0),(.int .i64 (x.2.1)),(.int .i64 (x.2.2))] ∧ SlH H S_b.c 97 (x.1) b0
 inj:=by
  rintro ro H args ⟨x0,x1,x2⟩ ⟨y0,y1,y2⟩ ⟨b0,h,f0⟩ ⟨db0,h',g0⟩
  rw [h] at h'; simp only [List.cons.injEq,and_true] at h'
  obtain ⟨e0,e1,e2⟩:=h'
  have z0:x0 = y0:=slV_inj e0 S_b.enc.inj S_b.enc.len f0 g0
  have z1:x1 = y1:=by injection e1
  have z2:x2 = y2:=by injection e2
  subst z0 z1 z2; rfl
 m:=fun n x=>m_bC n (x.1) (x.2.1) (x.2.2)
 lay:=fun r args H=>((.int .i64 (r)),H)
def K_ex:Co where
 f:=55
 X:=Nat × Int
 R:=Bool
 rd:=fun ro H args x=>args = [(.float .f64 (x.1)),(.int .i64 (x.2))]
 inj:=by
  rintro ro H args ⟨x0,x1⟩ ⟨y0,y1⟩ h h'
  rw [h] at h'; simp only [List.cons.injEq,and_true] at h'
  obtain ⟨e0,e1⟩:=h'
  have z0:x0 = y0:=by injection e0
  have z1:x1 = y1:=by injection e1
  subst z0 z1; rfl
 m:=fun n x=>m_cQ n (x.1) (x.2)
 lay:=fun r args H=>((.bool (r)),H)
def K_fm:Co where
 f:=56
 X:=Int
 R:=Nat
 rd:=fun ro H args x=>args = [(.int .i64 x)]
 inj:=by
  rintro ro H args x0 y0 h h'
  rw [h] at h'; simp only [List.cons.injEq,and_true] at h'
  have e0:=h'
  have z0:x0 = y0:=by injection e0
  subst z0; rfl
 m:=fun n x=>m_cz n x
 lay:=fun r args H=>((.float .f64 (r)),H)
def K_e7:Co where
 f:=62
 X:=(Sl S_a)
 R:=(Sl Int) × Bool
 rd:=fun ro H args x=>∃ (b0:Nat),args = [(vAgg [slV x b0])] ∧ SlH H S_a.c 72 x b0
 inj:=by
  rintro ro H args x0 y0 ⟨b0,h,f0⟩ ⟨db0,h',g0⟩
  rw [h] at h'; simp only [List.cons.injEq,and_true] at h'
  have e0:=h'
  have z0:x0 = y0:=slV_inj (List.cons.inj (vAgg_inj e0)).1 S_a.enc.inj S_a.enc.len f0 g0
  subst z0; rfl
 m:=fun n x=>m_bl n x
 lay:=fun r args H=>((.tuple [(slV r.1 H.length),(.bool (r.2))].toArray),(H ++ slB (cInt .i64) 3 r.1))
def K_eN:Co where
 f:=63
 X:=(Sl S_a)
 R:=(Sl Int)
 rd:=fun ro H args x=>∃ (b0:Nat),args = [(vAgg [slV x b0])] ∧ SlH H S_a.c 72 x b0
 inj:=by
  rintro ro H args x0 y0 ⟨b0,h,f0⟩ ⟨db0,h',g0⟩
  rw [h] at h'; simp only [List.cons.injEq,and_true] at h'
  have e0:=h'
  have z0:x0 = y0:=slV_inj (List.cons.inj (vAgg_inj e0)).1 S_a.enc.inj S_a.enc.len f0 g0
  subst z0; rfl
 m:=fun n x=>m_cV n x
 lay:=fun r args H=>((slV r H.length),(H ++ slB (cInt .i64) 3 r))
def K_el:Co where
 f:=64
 X:=(Sl S_a)
 R:=Int
 rd:=fun ro H args x=>∃ (b0:Nat),args = [(vAgg [slV x b0])] ∧ SlH H S_a.c 72 x b0
 inj:=by
  rintro ro H args x0 y0 ⟨b0,h,f0⟩ ⟨db0,h',g0⟩
  rw [h] at h'; simp only [List.cons.injEq,and_true] at h'
  have e0:=h'
  have z0:x0 = y0:=slV_inj (List.cons.inj (vAgg_inj e0)).1 S_a.enc.inj S_a.enc.len f0 g0
  subst z0; rfl
 m:=fun n x=>m_cn n x
 lay:=fun r args H=>((.int .i64 (r)),H)
def K_fs:Co where
 f:=65
 X:=(Sl S_a)
 R:=(Sl Int) × (Sl Int)
 rd:=fun ro H args x=>∃ (b0:Nat),args = [(vAgg [slV x b0])] ∧ SlH H S_a.c 72 x b0
 inj:=by
  rintro ro H args x0 y0 ⟨b0,h,f0⟩ ⟨db0,h',g0⟩
  rw [h] at h'; simp only [List.cons.injEq,and_true] at h'
  have e0:=h'
  have z0:x0 = y0:=slV_inj (List.cons.inj (vAgg_inj e0)).1 S_a.enc.inj S_a.enc.len f0 g0
  subst z0; rfl
 m:=fun n x=>m_c0 n x
 lay:=fun r args H=>((.tuple [(slV r.1 H.length),(slV r.2 (H.length + (slB (cInt .i64) 3 r.1).length))].toArray),(H ++ (slB (cInt .i64) 3 r.1 ++ slB (cInt .i64) 3 r.2)))
def K_fn:Co where
 f:=66
 X:=Int
 R:=Int
 rd:=fun ro H args x=>args = [(.int .i64 x)]
 inj:=by
  rintro ro H args x0 y0 h h'
  rw [h] at h'; simp only [List.cons.injEq,and_true] at h'
  have e0:=h'
  have z0:x0 = y0:=by injection e0
  subst z0; rfl
 m:=fun n x=>m_bN n x
 lay:=fun r args H=>((.int .i64 (r)),H)
def K_d6:Co where
 f:=68
 X:=(Sl S_a)
 R:=Bool
 rd:=fun ro H args x=>∃ (b0:Nat),args = [(vAgg [slV x b0])] ∧ SlH H S_a.c 72 x b0
 inj:=by
  rintro ro H args x0 y0 ⟨b0,h,f0⟩ ⟨db0,h',g0⟩
  rw [h] at h'; simp only [List.cons.injEq,and_true] at h'
  have e0:=h'
  have z0:x0 = y0:=slV_inj (List.cons.inj (vAgg_inj e0)).1 S_a.enc.inj S_a.enc.len f0 g0
  subst z0; rfl
 m:=fun n x=>m_b8 n x
 lay:=fun r args H=>((.bool (r)),H)
def K_d0:Co where
 f:=79
 X:=S_a × Int
 R:=Int
 rd:=fun ro H args x=>args = [(vAgg (S_a.c (x.1))),(.int .i64 (x.2))]
 inj:=by
  rintro ro H args ⟨x0,x1⟩ ⟨y0,y1⟩ h h'
  rw [h] at h'; simp only [List.cons.injEq,and_true] at h'
  obtain ⟨e0,e1⟩:=h'
  have z0:x0 = y0:=S_a.enc.inj _ _ (vAgg_inj e0)
  have z1:x1 = y1:=by injection e1
  subst z0 z1; rfl
 m:=fun n x=>m_bu n (x.1) (x.2)
 lay:=fun r args H=>((.int .i64 (r)),H)
def K_dN:Co where
 f:=80
 X:=(Sl S_b)
 R:=Int
 rd:=fun ro H args x=>∃ (b0:Nat),args = [(slV x b0)] ∧ SlH H S_b.c 97 x b0
 inj:=by
  rintro ro H args x0 y0 ⟨b0,h,f0⟩ ⟨db0,h',g0⟩
  rw [h] at h'; simp only [List.cons.injEq,and_true] at h'
  have e0:=h'
  have z0:x0 = y0:=slV_inj e0 S_b.enc.inj S_b.enc.len f0 g0
  subst z0; rfl
 m:=fun n x=>m_bj n x
 lay:=fun r args H=>((.int .i64 (r)),H)
def K_dA:Co where
 f:=81
 X:=(Sl S_b) × Int
 R:=(Sl Int)
 rd:=fun ro H args x=>∃ (b0:Nat),args = [(slV (x.1) b0),(.int .i64 (x.2))] ∧ SlH H S_b.c 97 (x.1) b0
 inj:=by
  rintro ro H args ⟨x0,x1⟩ ⟨y0,y1⟩ ⟨b0,h,f0⟩ ⟨db0,h',g0⟩
  rw [h] at h'; simp only [List.cons.injEq,and_true] at h'
  obtain ⟨e0,e1⟩:=h'
  have z0:x0 = y0:=slV_inj e0 S_b.enc.inj S_b.enc.len f0 g0
  have z1:x1 = y1:=by injection e1
  subst z0 z1; rfl
 m:=fun n x=>m_H n (x.1) (x.2)
 lay:=fun r args H=>((slV r H.length),(H ++ slB (cInt .i64) 3 r))
def K_eL:Co where
 f:=82
 X:=(Sl S_b) × Int
 R:=Int × Int
 rd:=fun ro H args x=>∃ (b0:Nat),args = [(slV (x.1) b0),(.int .i64 (x.2))] ∧ SlH H S_b.c 97 (x.1) b0
 inj:=by
  rintro ro H args ⟨x0,x1⟩ ⟨y0,y1⟩ ⟨b0,h,f0⟩ ⟨db0,h',g0⟩
  rw [h] at h'; simp only [List.cons.injEq,and_true] at h'
  obtain ⟨e0,e1⟩:=h'
  have z0:x0 = y0:=slV_inj e0 S_b.enc.inj S_b.enc.len f0 g0
  have z1:x1 = y1:=by injection e1
  subst z0 z1; rfl
 m:=fun n x=>m_Y n (x.1) (x.2)
 lay:=fun r args H=>((.tuple [(.int .i64 (r.1)),(.int .i64 (r.2))].toArray),H)
def K_eK:Co where
 f:=83
 X:=Int
 R:=Int
 rd:=fun ro H args x=>args = [(.int .i64 x)]
 inj:=by
  rintro ro H args x0 y0 h h'
  rw [h] at h'; simp only [List.cons.injEq,and_true] at h'
  have e0:=h'
  have z0:x0 = y0:=by injection e0
  subst z0; rfl
 m:=fun n x=>m_bs n x
 lay:=fun r args H=>((.int .i64 (r)),H)
def K_fv:Co where
 f:=84
 X:=Nat
 R:=Nat
 rd:=fun ro H args x=>args = [(.float .f64 x)]
 inj:=by
  rintro ro H args x0 y0 h h'
  rw [h] at h'; simp only [List.cons.injEq,and_true] at h'
  have e0:=h'
  have z0:x0 = y0:=by injection e0
  subst z0; rfl
 m:=fun n x=>m_fq n x
 lay:=fun r args H=>((.float .f64 (r)),H)
def K_dt:Co where
 f:=97
 X:=S_a
 R:=Bool
 rd:=fun ro H args x=>args = [(vAgg (S_a.c x))]
 inj:=by
  rintro ro H args x0 y0 h h'
  rw [h] at h'; simp only [List.cons.injEq,and_true] at h'
  have e0:=h'
  have z0:x0 = y0:=S_a.enc.inj _ _ (vAgg_inj e0)
  subst z0; rfl
 m:=fun n x=>m_bt n x
 lay:=fun r args H=>((.bool (r)),H)
def K_cA:Co where
 f:=98
 X:=(Sl Int)
 R:=Int
 rd:=fun ro H args x=>∃ (b0:Nat),args = [(slV x b0)] ∧ SlH H (cInt .i64) 3 x b0
 inj:=by
  rintro ro H args x0 y0 ⟨b0,h,f0⟩ ⟨db0,h',g0⟩
  rw [h] at h'; simp only [List.cons.injEq,and_true] at h'
  have e0:=h'
  have z0:x0 = y0:=slV_inj e0 enc_int.inj enc_int.len f0 g0
  subst z0; rfl
 m:=fun n x=>m_br n x
 lay:=fun r args H=>((.int .i64 (r)),H)
def K_fu:Co where
 f:=99
 X:=Int × Int
 R:=Int
 rd:=fun ro H args x=>args = [(.int .i64 (x.1)),(.int .i64 (x.2))]
 inj:=by
  rintro ro H args ⟨x0,x1⟩ ⟨y0,y1⟩ h h'
  rw [h] at h'; simp only [List.cons.injEq,and_true] at h'
  obtain ⟨e0,e1⟩:=h'
  have z0:x0 = y0:=by injection e0
  have z1:x1 = y1:=by injection e1
  subst z0 z1; rfl
 m:=fun n x=>m_ca n (x.1) (x.2)
 lay:=fun r args H=>((.int .i64 (r)),H)
def K_eZ:Co where
 f:=100
 X:=Int × Int
 R:=Int
 rd:=fun ro H args x=>args = [(.int .i64 (x.1)),(.int .i64 (x.2))]
 inj:=by
  rintro ro H args ⟨x0,x1⟩ ⟨y0,y1⟩ h h'
  rw [h] at h'; simp only [List.cons.injEq,and_true] at h'
  obtain ⟨e0,e1⟩:=h'
  have z0:x0 = y0:=by injection e0
  have z1:x1 = y1:=by injection e1
  subst z0 z1; rfl
 m:=fun n x=>m_bT n (x.1) (x.2)
 lay:=fun r args H=>((.int .i64 (r)),H)
def K_dp:Co where
 f:=102
 X:=Int × (Sl Int)
 R:=Int
 rd:=fun ro H args x=>∃ (b1:Nat) (s1:Nat),args = [(.int .i64 (x.1)),(.pointer (some ⟨b1,0,none⟩))] ∧ H[b1]? = some (.cells [slV (x.2) s1] 100) ∧ SlH H (cInt .i64) 3 (x.2) s1
 inj:=by
  rintro ro H args ⟨x0,x1⟩ ⟨y0,y1⟩ ⟨b1,s1,h,f0,f1⟩ ⟨db1,ds1,h',g0,g1⟩
  rw [h] at h'; simp only [List.cons.injEq,and_true] at h'
  obtain ⟨e0,e1⟩:=h'
  have z0:x0 = y0:=by injection e0
  have z1:x1 = y1:=by
   have e:b1 = db1:=by injection e1 with e; injection e with e; injection e
   subst e
   have q:slV x1 s1 = slV y1 ds1:=by have q:=f0.symm.trans g0; simpa using q
   exact slV_inj q enc_int.inj enc_int.len f1 g1
  subst z0 z1; rfl
 m:=fun n x=>m_b0 n (x.1) (x.2)
 lay:=fun r args H=>((.int .i64 (r)),H)
def K_dm:Co where
 f:=104
 X:=Int × Int × (Sl Int) × (Sl Int)
 R:=Int
 rd:=fun ro H args x=>∃ (d2:Nat) (b2:Nat) (s2:Nat) (b3:Nat) (s3:Nat),args = [(.int .i64 (x.1)),(.int .i64 (x.2.1)),(.pointer (some ⟨d2,0,none⟩)),(.pointer (some ⟨b3,0,none⟩))] ∧ H[d2]? = some (.cells [.func (.func 102) [].toArray [(.pointer (some ⟨b2,0,none⟩))].toArray] 99) ∧ H[b2]? = some (.cells [slV (x.2.2.1) s2] 100) ∧ SlH H (cInt .i64) 3 (x.2.2.1) s2 ∧ H[b3]? = some (.cells [slV (x.2.2.2) s3] 100) ∧ SlH H (cInt .i64) 3 (x.2.2.2) s3
 inj:=by
  rintro ro H args ⟨x0,x1,x2,x3⟩ ⟨y0,y1,y2,y3⟩ ⟨d2,b2,s2,b3,s3,h,f0,f1,f2,f3,f4⟩ ⟨dd2,db2,ds2,db3,ds3,h',g0,g1,g2,g3,g4⟩
  rw [h] at h'; simp only [List.cons.injEq,and_true] at h'
  obtain ⟨e0,e1,e2,e3⟩:=h'
  have z0:x0 = y0:=by injection e0
  have z1:x1 = y1:=by injection e1
  have z2:x2 = y2:=by
   have e:d2 = dd2:=by injection e2 with e; injection e with e; injection e
   subst e
   have e:b2 = db2:=by have q:=f0.symm.trans g0; simpa using q
   subst e
   have q:slV x2 s2 = slV y2 ds2:=by have q:=f1.symm.trans g1; simpa using q
   exact slV_inj q enc_int.inj enc_int.len f2 g2
  have z3:x3 = y3:=by
   have e:b3 = db3:=by injection e3 with e; injection e with e; injection e
   subst e
   have q:slV x3 s3 = slV y3 ds3:=by have q:=f3.symm.trans g3; simpa using q
   exact slV_inj q enc_int.inj enc_int.len f4 g4
  subst z0 z1 z2 z3; rfl
 m:=fun n x=>m_v n (x.1) (x.2.1) (x.2.2.1) (x.2.2.2)
 lay:=fun r args H=>((.int .i64 (r)),H)
def K_do:Co where
 f:=105
 X:=S_a × (Sl Int)
 R:=Bool
 rd:=fun ro H args x=>∃ (b1:Nat) (s1:Nat),args = [(vAgg (S_a.c (x.1))),(.pointer (some ⟨b1,0,none⟩))] ∧ H[b1]? = some (.cells [slV (x.2) s1] 100) ∧ SlH H (cInt .i64) 3 (x.2) s1
 inj:=by
  rintro ro H args ⟨x0,x1⟩ ⟨y0,y1⟩ ⟨b1,s1,h,f0,f1⟩ ⟨db1,ds1,h',g0,g1⟩
  rw [h] at h'; simp only [List.cons.injEq,and_true] at h'
  obtain ⟨e0,e1⟩:=h'
  have z0:x0 = y0:=S_a.enc.inj _ _ (vAgg_inj e0)
  have z1:x1 = y1:=by
   have e:b1 = db1:=by injection e1 with e; injection e with e; injection e
   subst e
   have q:slV x1 s1 = slV y1 ds1:=by have q:=f0.symm.trans g0; simpa using q
   exact slV_inj q enc_int.inj enc_int.len f1 g1
  subst z0 z1; rfl
 m:=fun n x=>m_bz n (x.1) (x.2)
 lay:=fun r args H=>((.bool (r)),H)
def K_b1:Co where
 f:=106
 X:=(Sl S_a) × (Sl Int)
 R:=Bool
 rd:=fun ro H args x=>∃ (b0:Nat) (b1:Nat) (s1:Nat),args = [(slV (x.1) b0),(.func (.func 105) [].toArray [(.pointer (some ⟨b1,0,none⟩))].toArray)] ∧ SlH H S_a.c 72 (x.1) b0 ∧ H[b1]? = some (.cells [slV (x.2) s1] 100) ∧ SlH H (cInt .i64) 3 (x.2) s1
 inj:=by
  rintro ro H args ⟨x0,x1⟩ ⟨y0,y1⟩ ⟨b0,b1,s1,h,f0,f1,f2⟩ ⟨db0,db1,ds1,h',g0,g1,g2⟩
  rw [h] at h'; simp only [List.cons.injEq,and_true] at h'
  obtain ⟨e0,e1⟩:=h'
  have z0:x0 = y0:=slV_inj e0 S_a.enc.inj S_a.enc.len f0 g0
  have z1:x1 = y1:=by
   have e:b1 = db1:=by simpa using e1
   subst e
   have q:slV x1 s1 = slV y1 ds1:=by have q:=f1.symm.trans g1; simpa using q
   exact slV_inj q enc_int.inj enc_int.len f2 g2
  subst z0 z1; rfl
 m:=fun n x=>m_K n (x.1) (x.2)
 lay:=fun r args H=>((.bool (r)),H)
def K_eo:Co where
 f:=116
 X:=(Sl S_b)
 R:=Int
 rd:=fun ro H args x=>∃ (b0:Nat),args = [(slV x b0)] ∧ SlH H S_b.c 97 x b0
 inj:=by
  rintro ro H args x0 y0 ⟨b0,h,f0⟩ ⟨db0,h',g0⟩
  rw [h] at h'; simp only [List.cons.injEq,and_true] at h'
  have e0:=h'
  have z0:x0 = y0:=slV_inj e0 S_b.enc.inj S_b.enc.len f0 g0
  subst z0; rfl
 m:=fun n x=>m_cU n x
 lay:=fun r args H=>((.int .i64 (r)),H)
def K_eD:Co where
 f:=117
 X:=Int × Int
 R:=Int
 rd:=fun ro H args x=>args = [(.int .i64 (x.1)),(.int .i64 (x.2))]
 inj:=by
  rintro ro H args ⟨x0,x1⟩ ⟨y0,y1⟩ h h'
  rw [h] at h'; simp only [List.cons.injEq,and_true] at h'
  obtain ⟨e0,e1⟩:=h'
  have z0:x0 = y0:=by injection e0
  have z1:x1 = y1:=by injection e1
  subst z0 z1; rfl
 m:=fun n x=>m_cr n (x.1) (x.2)
 lay:=fun r args H=>((.int .i64 (r)),H)
def K_d9:Co where
 f:=118
 X:=Int × Int
 R:=Int
 rd:=fun ro H args x=>args = [(.int .i64 (x.1)),(.int .i64 (x.2))]
 inj:=by
  rintro ro H args ⟨x0,x1⟩ ⟨y0,y1⟩ h h'
  rw [h] at h'; simp only [List.cons.injEq,and_true] at h'
  obtain ⟨e0,e1⟩:=h'
  have z0:x0 = y0:=by injection e0
  have z1:x1 = y1:=by injection e1
  subst z0 z1; rfl
 m:=fun n x=>m_b5 n (x.1) (x.2)
 lay:=fun r args H=>((.int .i64 (r)),H)
def K_dG:Co where
 f:=124
 X:=S_a
 R:=S_a
 rd:=fun ro H args x=>args = [(vAgg (S_a.c x))]
 inj:=by
  rintro ro H args x0 y0 h h'
  rw [h] at h'; simp only [List.cons.injEq,and_true] at h'
  have e0:=h'
  have z0:x0 = y0:=S_a.enc.inj _ _ (vAgg_inj e0)
  subst z0; rfl
 m:=fun n x=>m_cN n x
 lay:=fun r args H=>((vAgg (S_a.c (r))),H)
def K_b2:Co where
 f:=138
 X:=(Sl S_a) × (Sl Int)
 R:=Int
 rd:=fun ro H args x=>∃ (b0:Nat) (b1:Nat) (s1:Nat),args = [(slV (x.1) b0),(.func (.func 105) [].toArray [(.pointer (some ⟨b1,0,none⟩))].toArray)] ∧ SlH H S_a.c 72 (x.1) b0 ∧ H[b1]? = some (.cells [slV (x.2) s1] 100) ∧ SlH H (cInt .i64) 3 (x.2) s1
 inj:=by
  rintro ro H args ⟨x0,x1⟩ ⟨y0,y1⟩ ⟨b0,b1,s1,h,f0,f1,f2⟩ ⟨db0,db1,ds1,h',g0,g1,g2⟩
  rw [h] at h'; simp only [List.cons.injEq,and_true] at h'
  obtain ⟨e0,e1⟩:=h'
  have z0:x0 = y0:=slV_inj e0 S_a.enc.inj S_a.enc.len f0 g0
  have z1:x1 = y1:=by
   have e:b1 = db1:=by simpa using e1
   subst e
   have q:slV x1 s1 = slV y1 ds1:=by have q:=f1.symm.trans g1; simpa using q
   exact slV_inj q enc_int.inj enc_int.len f2 g2
  subst z0 z1; rfl
 m:=fun n x=>m_by n (x.1) (x.2)
 lay:=fun r args H=>((.int .i64 (r)),H)
def K_eH:Co where
 f:=150
 X:=(Sl S_b) × Int
 R:=Int
 rd:=fun ro H args x=>∃ (b0:Nat),args = [(slV (x.1) b0),(.int .i64 (x.2))] ∧ SlH H S_b.c 97 (x.1) b0
 inj:=by
  rintro ro H args ⟨x0,x1⟩ ⟨y0,y1⟩ ⟨b0,h,f0⟩ ⟨db0,h',g0⟩
  rw [h] at h'; simp only [List.cons.injEq,and_true] at h'
  obtain ⟨e0,e1⟩:=h'
  have z0:x0 = y0:=slV_inj e0 S_b.enc.inj S_b.enc.len f0 g0
  have z1:x1 = y1:=by injection e1
  subst z0 z1; rfl
 m:=fun n x=>m_bZ n (x.1) (x.2)
 lay:=fun r args H=>((.int .i64 (r)),H)
def K_eq:Co where
 f:=151
 X:=(Sl S_b) × Int
 R:=Int
 rd:=fun ro H args x=>∃ (b0:Nat),args = [(slV (x.1) b0),(.int .i64 (x.2))] ∧ SlH H S_b.c 97 (x.1) b0
 inj:=by
  rintro ro H args ⟨x0,x1⟩ ⟨y0,y1⟩ ⟨b0,h,f0⟩ ⟨db0,h',g0⟩
  rw [h] at h'; simp only [List.cons.injEq,and_true] at h'
  obtain ⟨e0,e1⟩:=h'
  have z0:x0 = y0:=slV_inj e0 S_b.enc.inj S_b.enc.len f0 g0
  have z1:x1 = y1:=by injection e1
  subst z0 z1; rfl
 m:=fun n x=>m_bD n (x.1) (x.2)
 lay:=fun r args H=>((.int .i64 (r)),H)
def K_en:Co where
 f:=168
 X:=S_b
 R:=Bool
 rd:=fun ro H args x=>args = [(vAgg (S_b.c x))]
 inj:=by
  rintro ro H args x0 y0 h h'
  rw [h] at h'; simp only [List.cons.injEq,and_true] at h'
  have e0:=h'
  have z0:x0 = y0:=S_b.enc.inj _ _ (vAgg_inj e0)
  subst z0; rfl
 m:=fun n x=>m_cS n x
 lay:=fun r args H=>((.bool (r)),H)
def K_d3:Co where
 f:=25
 X:=Unit
 R:=Bool
 rd:=fun ro H args x=>args = [] ∧ TabH1 H
 inj:=by
  intros; rfl
 m:=fun n x=>m_cG n
 lay:=fun r args H=>((.bool (r)),H)
def K_dI:Co where
 f:=125
 X:=S_a
 R:=S_a
 rd:=fun ro H args x=>args = [(vAgg (S_a.c x))]
 inj:=by
  rintro ro H args x0 y0 h h'
  rw [h] at h'; simp only [List.cons.injEq,and_true] at h'
  have e0:=h'
  have z0:x0 = y0:=S_a.enc.inj _ _ (vAgg_inj e0)
  subst z0; rfl
 m:=fun n x=>m_cZ n x
 lay:=fun r args H=>((vAgg (S_a.c (r))),H)
def T:FuncId → Option Co
 | 4=>some K_cR
 | 18=>some K_e9
 | 19=>some K_fb
 | 20=>some K_es
 | 21=>some K_eP
 | 22=>some K_d4
 | 23=>some K_ee
 | 24=>some K_dJ
 | 40=>some K_fc
 | 50=>some K_e6
 | 51=>some K_e0
 | 52=>some K_e1
 | 53=>some K_dZ
 | 54=>some K_eQ
 | 55=>some K_ex
 | 56=>some K_fm
 | 62=>some K_e7
 | 63=>some K_eN
 | 64=>some K_el
 | 65=>some K_fs
 | 66=>some K_fn
 | 68=>some K_d6
 | 79=>some K_d0
 | 80=>some K_dN
 | 81=>some K_dA
 | 82=>some K_eL
 | 83=>some K_eK
 | 84=>some K_fv
 | 97=>some K_dt
 | 98=>some K_cA
 | 99=>some K_fu
 | 100=>some K_eZ
 | 102=>some K_dp
 | 104=>some K_dm
 | 105=>some K_do
 | 106=>some K_b1
 | 116=>some K_eo
 | 117=>some K_eD
 | 118=>some K_d9
 | 124=>some K_dG
 | 138=>some K_b2
 | 150=>some K_eH
 | 151=>some K_eq
 | 168=>some K_en
 | 25=>some K_d3
 | 125=>some K_dI
 | 103=>some K_bk
 | _=>none
theorem srt_len {cf:Int → Int → Int} {l:List Int}:(srt cf l).length = l.length:=List.length_mergeSort _
theorem z_ed {n:Nat}:A_cM (tabC T n) (m_q n):=fun ro nb H x0 b0 x1 d1 b1 s1 r hro h0 f1 f2 f3 n1 n2 n3 hm=>by
 have h:=ans_tab (T:=T) (n:=n) (k:=K_bk) rfl ro H _ (x0,x1) r ⟨b0,d1,b1,s1,rfl,h0.weak hro,f1,f2,f3,n1,n2,n3⟩ hm
 refine ⟨_,h,?_⟩
 cases x0 with
 | none =>
  obtain rfl:=m103_none hm
  exact ⟨h0,⟨rfl,fun _ _=>rfl⟩,fun _=>rfl,rfl,rfl⟩
 | some l =>
  obtain ⟨k,rfl,_,_,_,_,rfl⟩:=m103_some hm
  obtain ⟨g1,g2⟩:=h0 l rfl
  refine ⟨fun l' hl'=>?_,⟨?_,fun x hx=>?_⟩,fun b=>?_,by simp,?_⟩
  ·injection hl' with hl'; subst hl'; exact ⟨g1,get_set g2⟩
  ·simp [K_bk]
  ·exact List.getElem?_set_ne (fun e=>hx (by simp) e.symm)
  ·simp only [slV,srt_len]
  ·simp only [Sl.l,srt_len]
theorem alias18 {n:Nat} {x0 r:Sl S_a} {x1:Int} (h:m_cf n x0 x1 = some r):(r ≠ none → x0 ≠ none) ∧ ∀ (H:Hp) (b:Nat),SlH H S_a.c 72 x0 b → SlH H S_a.c 72 r b:=by
 cases n with
 | zero=>cases h
 | succ n =>
  simp only [m_cf,b_dc,Option.bind_eq_some_iff,Option.some.injEq] at h
  obtain ⟨y,hy,rfl⟩:=h
  exact ⟨Sl.upto_none hy,fun H b hs=>hs.upto hy⟩
theorem z_hD {n:Nat}:A_ga (tabC T n) (m_cf n):=fun ro H x0 b0 x1 r f0 hm=>⟨by
 have h:=ans_tab (T:=T) (n:=n) (k:=K_e9) rfl ro H _ ⟨x0,x1⟩ r ⟨b0,rfl,f0⟩ hm
 cases x0 with
 | none =>
  obtain rfl:r = none:=Classical.byContradiction fun hr=>(alias18 hm).1 hr rfl
  exact h
 | some l=>exact h,alias18 hm⟩
theorem z_hS {n:Nat}:A_gb (tabC T n) (m_c9 n):=fun ro H x0 b0 r f0 hm=>ans_tab (k:=K_fb) rfl ro H _ x0 r ⟨b0,rfl,f0⟩ hm
theorem z_fK {n:Nat}:A_eI (tabC T n) (m_B n):=fun ro H x0 b0 x1 r f0 hm=>ans_tab (k:=K_es) rfl ro H _ ⟨x0,x1⟩ r ⟨b0,rfl,f0⟩ hm
theorem z_fC {n:Nat}:A_ew (tabC T n) (m_I n):=fun ro H x0 b0 x1 r f0 hm=>ans_tab (k:=K_eP) rfl ro H _ ⟨x0,x1⟩ r ⟨b0,rfl,f0⟩ hm
theorem z_fj {n:Nat}:A_ea (tabC T n) (m_X n):=fun ro H x0 b0 x1 r f0 hm=>ans_tab (k:=K_d4) rfl ro H _ ⟨x0,x1⟩ r ⟨b0,rfl,f0⟩ hm
theorem z_g2 {n:Nat}:A_fz (tabC T n) (m_be n):=fun ro H x0 b0 x1 r f0 hm=>ans_tab (k:=K_ee) rfl ro H _ ⟨x0,x1⟩ r ⟨b0,rfl,f0⟩ hm
theorem z_gy {n:Nat}:A_ff (tabC T n) (m_bU n):=fun ro H x0 b0 x1 r f0 hm=>ans_tab (k:=K_dJ) rfl ro H _ ⟨x0,x1⟩ r ⟨b0,rfl,f0⟩ hm
theorem z_hG {n:Nat}:A_gg (tabC T n) (m_bm n):=fun ro H x0 b0 r f0 hm=>ans_tab (k:=K_fc) rfl ro H _ x0 r ⟨b0,rfl,f0⟩ hm
theorem z_h0 {n:Nat}:A_f9 (tabC T n) (m_db n):=fun ro H x0 r hm=>ans_tab (k:=K_e6) rfl ro H _ x0 r rfl hm
theorem z_f0 {n:Nat}:A_e3 (tabC T n) (m_bP n):=fun ro H x0 r hm=>ans_tab (k:=K_e0) rfl ro H _ x0 r rfl hm
theorem z_hJ {n:Nat}:A_gd (tabC T n) (m_da n):=fun ro H x0 b0 x1 r f0 hm=>ans_tab (k:=K_e1) rfl ro H _ ⟨x0,x1⟩ r ⟨b0,rfl,f0⟩ hm
theorem z_g8 {n:Nat}:A_fA (tabC T n) (m_cH n):=fun ro H x0 b0 r f0 hm=>ans_tab (k:=K_dZ) rfl ro H _ x0 r ⟨b0,rfl,f0⟩ hm
theorem z_fF {n:Nat}:A_ep (tabC T n) (m_bC n):=fun ro H x0 b0 x1 x2 r f0 hm=>ans_tab (k:=K_eQ) rfl ro H _ ⟨x0,x1,x2⟩ r ⟨b0,rfl,f0⟩ hm
theorem z_ht {n:Nat}:A_fU (tabC T n) (m_cQ n):=fun ro H x0 x1 r hm=>ans_tab (k:=K_ex) rfl ro H _ ⟨x0,x1⟩ r rfl hm
theorem z_f8 {n:Nat}:A_fp (tabC T n) (m_cz n):=fun ro H x0 r hm=>ans_tab (k:=K_fm) rfl ro H _ x0 r rfl hm
theorem z_fT {n:Nat}:A_fd (tabC T n) (m_bl n):=fun ro H x0 b0 r f0 hm=>ans_tab (k:=K_e7) rfl ro H _ x0 r ⟨b0,rfl,f0⟩ hm
theorem z_hi {n:Nat}:A_fZ (tabC T n) (m_cV n):=fun ro H x0 b0 r f0 hm=>ans_tab (k:=K_eN) rfl ro H _ x0 r ⟨b0,rfl,f0⟩ hm
theorem z_hq {n:Nat}:A_fV (tabC T n) (m_cn n):=fun ro H x0 b0 r f0 hm=>ans_tab (k:=K_el) rfl ro H _ x0 r ⟨b0,rfl,f0⟩ hm
theorem z_ib {n:Nat}:A_gI (tabC T n) (m_c0 n):=fun ro H x0 b0 r f0 hm=>ans_tab (k:=K_fs) rfl ro H _ x0 r ⟨b0,rfl,f0⟩ hm
theorem z_gc {n:Nat}:A_fo (tabC T n) (m_bN n):=fun ro H x0 r hm=>ans_tab (k:=K_fn) rfl ro H _ x0 r rfl hm
theorem z_g3 {n:Nat}:A_fE (tabC T n) (m_b8 n):=fun ro H x0 b0 r f0 hm=>ans_tab (k:=K_d6) rfl ro H _ x0 r ⟨b0,rfl,f0⟩ hm
theorem z_g6 {n:Nat}:A_fy (tabC T n) (m_bu n):=fun ro H x0 x1 r hm=>ans_tab (k:=K_d0) rfl ro H _ ⟨x0,x1⟩ r rfl hm
theorem z_gR {n:Nat}:A_fg (tabC T n) (m_bj n):=fun ro H x0 b0 r f0 hm=>ans_tab (k:=K_dN) rfl ro H _ x0 r ⟨b0,rfl,f0⟩ hm
theorem z_eE {n:Nat}:A_dC (tabC T n) (m_H n):=fun ro H x0 b0 x1 r f0 hm=>ans_tab (k:=K_dA) rfl ro H _ ⟨x0,x1⟩ r ⟨b0,rfl,f0⟩ hm
theorem z_fB {n:Nat}:A_ey (tabC T n) (m_Y n):=fun ro H x0 b0 x1 r f0 hm=>ans_tab (k:=K_eL) rfl ro H _ ⟨x0,x1⟩ r ⟨b0,rfl,f0⟩ hm
theorem z_dl {n:Nat}:A_cX (tabC T n) (m_bs n):=fun ro H x0 r hm=>ans_tab (k:=K_eK) rfl ro H _ x0 r rfl hm
theorem z_h6 {n:Nat}:A_gQ (tabC T n) (m_fq n):=fun ro H x0 r hm=>ans_tab (k:=K_fv) rfl ro H _ x0 r rfl hm
theorem z_gr {n:Nat}:A_eU (tabC T n) (m_bt n):=fun ro H x0 r hm=>ans_tab (k:=K_dt) rfl ro H _ x0 r rfl hm
theorem z_fe {n:Nat}:A_dD (tabC T n) (m_br n):=fun ro H x0 b0 r f0 hm=>ans_tab (k:=K_cA) rfl ro H _ x0 r ⟨b0,rfl,f0⟩ hm
theorem z_h2 {n:Nat}:A_gG (tabC T n) (m_ca n):=fun ro H x0 x1 r hm=>ans_tab (k:=K_fu) rfl ro H _ ⟨x0,x1⟩ r rfl hm
theorem z_hT {n:Nat}:A_ge (tabC T n) (m_bT n):=fun ro H x0 x1 r hm=>ans_tab (k:=K_eZ) rfl ro H _ ⟨x0,x1⟩ r rfl hm
theorem z_f7 {n:Nat}:A_eA (tabC T n) (m_b0 n):=fun ro H x0 x1 b1 s1 r f0 f1 hm=>ans_tab (k:=K_dp) rfl ro H _ ⟨x0,x1⟩ r ⟨b1,s1,rfl,f0,f1⟩ hm
theorem z_f1 {n:Nat}:A_gt (tabC T n) (m_v n):=fun ro H x0 x1 x2 d2 b2 s2 x3 b3 s3 r f0 f1 f2 f3 f4 hm=>ans_tab (k:=K_dm) rfl ro H _ ⟨x0,x1,x2,x3⟩ r ⟨d2,b2,s2,b3,s3,rfl,f0,f1,f2,f3,f4⟩ hm
theorem z_f4 {n:Nat}:A_eC (tabC T n) (m_bz n):=fun ro H x0 x1 b1 s1 r f0 f1 hm=>ans_tab (k:=K_do) rfl ro H _ ⟨x0,x1⟩ r ⟨b1,s1,rfl,f0,f1⟩ hm
theorem z_ev {n:Nat}:A_c7 (tabC T n) (m_K n):=fun ro H x0 b0 x1 b1 s1 r f0 f1 f2 hm=>ans_tab (k:=K_b1) rfl ro H _ ⟨x0,x1⟩ r ⟨b0,b1,s1,rfl,f0,f1,f2⟩ hm
theorem z_hr {n:Nat}:A_fO (tabC T n) (m_cU n):=fun ro H x0 b0 r f0 hm=>ans_tab (k:=K_eo) rfl ro H _ x0 r ⟨b0,rfl,f0⟩ hm
theorem z_hw {n:Nat}:A_fY (tabC T n) (m_cr n):=fun ro H x0 x1 r hm=>ans_tab (k:=K_eD) rfl ro H _ ⟨x0,x1⟩ r rfl hm
theorem z_gY {n:Nat}:A_fD (tabC T n) (m_b5 n):=fun ro H x0 x1 r hm=>ans_tab (k:=K_d9) rfl ro H _ ⟨x0,x1⟩ r rfl hm
theorem z_gq {n:Nat}:A_eV (tabC T n) (m_cN n):=fun ro H x0 r hm=>ans_tab (k:=K_dG) rfl ro H _ x0 r rfl hm
theorem z_eu {n:Nat}:A_c8 (tabC T n) (m_by n):=fun ro H x0 b0 x1 b1 s1 r f0 f1 f2 hm=>ans_tab (k:=K_b2) rfl ro H _ ⟨x0,x1⟩ r ⟨b0,b1,s1,rfl,f0,f1,f2⟩ hm
theorem z_fG {n:Nat}:A_ez (tabC T n) (m_bZ n):=fun ro H x0 b0 x1 r f0 hm=>ans_tab (k:=K_eH) rfl ro H _ ⟨x0,x1⟩ r ⟨b0,rfl,f0⟩ hm
theorem z_fJ {n:Nat}:A_eM (tabC T n) (m_bD n):=fun ro H x0 b0 x1 r f0 hm=>ans_tab (k:=K_eq) rfl ro H _ ⟨x0,x1⟩ r ⟨b0,rfl,f0⟩ hm
theorem z_hv {n:Nat}:A_fP (tabC T n) (m_cS n):=fun ro H x0 r hm=>ans_tab (k:=K_en) rfl ro H _ x0 r rfl hm
theorem z_g9 {n:Nat}:A_fI (tabC T n) (m_cG n):=fun ro H  r f0 hm=>ans_tab (k:=K_d3) rfl ro H _ () r ⟨rfl,f0⟩ hm
theorem z_gE {n:Nat}:A_fh (tabC T n) (m_cZ n):=fun ro H x0 r hm=>ans_tab (k:=K_dI) rfl ro H _ x0 r rfl hm
end
end Go.Proofs.YtaadjlpfdajggaaGreatDoor
