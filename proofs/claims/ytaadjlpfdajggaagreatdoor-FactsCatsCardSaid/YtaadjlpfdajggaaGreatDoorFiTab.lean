import Derived.Test.YtaadjlpfdajggaaGreatDoorFiV0
import Derived.Test.YtaadjlpfdajggaaGreatDoorFiV1
import Derived.Test.YtaadjlpfdajggaaGreatDoorFiV2
import Derived.Test.YtaadjlpfdajggaaGreatDoorFiV3
import Derived.Test.YtaadjlpfdajggaaGreatDoorFiAm25
set_option maxRecDepth 100000
set_option linter.unusedVariables false
set_option linter.unusedSimpArgs false
namespace Go.Proofs.YtaadjlpfdajggaaGreatDoor
open Go Go.AM
noncomputable section
def m_c3:Nat → Option (Bool)
 | 0=>none
 | _ + 1=>some true
def m_cP:Nat → S_b → Option (S_b)
 | 0,_=>none
 | _ + 1,x0=>some (ownS x0)
def m_b8:Nat → (Sl S_b) → Int → Option ((Sl S_b))
 | 0,_,_=>none
 | n + 1,x0,x1=>b_c1 n x0 x1
def m_0:Nat → Int → Option (Int)
 | 0,_=>none
 | n + 1,x0=>b_d3 n x0
def m_cD:Nat → S_b → Option (S_b)
 | 0,_=>none
 | n + 1,x0=>b_cE n x0
def m_bi:Nat → S_b → Option (Bool)
 | 0,_=>none
 | n + 1,x0=>b_cy (m_cD n) (m_cP n) n x0
def m_6:Nat → (Sl S_b) → Option ((Sl Int) × Bool)
 | 0,_=>none
 | n + 1,x0=>b_dI (m_0 n) (m_bi n) n x0
def m_cf:Nat → (Sl S_b) → Option ((Sl Int))
 | 0,_=>none
 | n + 1,x0=>b_dm (m_0 n) n x0
def m_bh:Nat → (Sl Int) → Option (Int)
 | 0,_=>none
 | n + 1,x0=>b_bI n x0
def m_cd:Nat → (Sl S_b) → Option (Int)
 | 0,_=>none
 | n + 1,x0=>b_dc (m_6 n) (m_cf n) (m_bh n) n x0
def m_b3:Nat → Int → Int → Option (Int)
 | 0,_,_=>none
 | n + 1,x0,x1=>b_d1 n x0 x1
def m_bN:Nat → Int → Int → Option (Int)
 | 0,_,_=>none
 | n + 1,x0,x1=>b_dF n x0 x1
def m_cO:Nat → (Sl S_b) → Option ((Sl Int) × (Sl Int))
 | 0,_=>none
 | n + 1,x0=>b_dZ (m_b3 n) (m_bN n) n x0
def m_bT:Nat → Int → (Sl Int) → Option (Int)
 | 0,_,_=>none
 | n + 1,x0,x1=>b_cg n x0 x1
def m_x:Nat → Int → Int → (Sl Int) → (Sl Int) → Option (Int)
 | 0,_,_,_,_=>none
 | n + 1,x0,x1,x2,x3=>b_ch (m_bT n) n x0 x1 x2 x3
def m_q:Nat → Sl Int → Sl Int → Option (Sl Int)
 | 0,_,_=>none
 | _ + 1,none,_=>some none
 | n + 1,some l,x1=>open Classical in
  if l ≠ [] ∧ l.length < 4611686018427387904 ∧ (∀ x ∈ l,∀ y ∈ l,m_x n x y x1 x1 ≠ none) ∧ OrdOn (ltC fun x y=>(m_x n x y x1 x1).getD 0) l then some (some (srt (fun x y=>(m_x n x y x1 x1).getD 0) l)) else none
theorem m103_some {n:Nat} {l:List Int} {x1 r:Sl Int} (h:m_q n (some l) x1 = some r):∃ k,n = k + 1 ∧ l ≠ [] ∧ l.length < 4611686018427387904 ∧ (∀ x ∈ l,∀ y ∈ l,m_x k x y x1 x1 ≠ none) ∧ OrdOn (ltC fun x y=>(m_x k x y x1 x1).getD 0) l ∧ r = some (srt (fun x y=>(m_x k x y x1 x1).getD 0) l):=by
 cases n with
 | zero=>simp [m_q] at h
 | succ n =>
  simp only [m_q] at h
  split at h
  ·rename_i hc; injection h with h; exact ⟨n,rfl,hc.1,hc.2.1,hc.2.2.1,hc.2.2.2,h.symm⟩
  ·cases h
theorem m103_none {n:Nat} {x1 r:Sl Int} (h:m_q n none x1 = some r):r = none:=by
 cases n with
 | zero=>simp [m_q] at h
 | succ n=>simp only [m_q,Option.some.injEq] at h; exact h.symm
def m_bs:Nat → S_b → (Sl Int) → Option (Bool)
 | 0,_,_=>none
 | n + 1,x0,x1=>b_ck n x0 x1
def m_bl:Nat → (Sl S_b) → (Sl Int) → Option (Int)
 | 0,_,_=>none
 | n + 1,x0,x1=>b_bm (m_bs n) n x0 x1
def m_H:Nat → (Sl S_b) → (Sl Int) → Option (Bool)
 | 0,_,_=>none
 | n + 1,x0,x1=>b_bn (m_bl n) n x0 x1
def m_bZ:Nat → (Sl S_b) → Option (Bool)
 | 0,_=>none
 | n + 1,x0=>b_c4 (m_6 n) (m_q n) (m_H n) n x0
def m_c2:Nat → (Sl S_b) → Option (Int)
 | 0,_=>none
 | n + 1,x0=>b_dH (m_cd n) (m_cO n) (m_bZ n) n x0
def m_b1:Nat → Int → Option (Int)
 | 0,_=>none
 | n + 1,x0=>b_bc n x0
def m_b5:Nat → S_d → Option (Int)
 | 0,_=>none
 | n + 1,x0=>b_cx (m_b1 n) n x0
def m_Q:Nat → Int → Option (Int)
 | 0,_=>none
 | n + 1,x0=>b_bt n x0
def m_U:Nat → S_d → Option (Int × Bool)
 | 0,_=>none
 | n + 1,x0=>b_5 (m_Q n) n x0
def m_P:Nat → S_d → Option (S_a)
 | 0,_=>none
 | n + 1,x0=>b_cr (m_b5 n) (m_U n) n x0
def m_4:Nat → Option (S_a)
 | 0=>none
 | n + 1=>b_dn n
def m_dd:Nat → S_d → Option (S_d)
 | 0,_=>none
 | n + 1,x0=>b_dh n x0
def m_bL:Nat → Option (S_d)
 | 0=>none
 | n + 1=>b_es (m_dd n) n
def m_br:Nat → S_d → S_d → Option (S_d)
 | 0,_,_=>none
 | n + 1,x0,x1=>b_du n x0 x1
def m_bE:Nat → S_a → Option (S_a)
 | 0,_=>none
 | n + 1,x0=>b_ca n x0
def m_bK:Nat → S_a → S_a → Option (S_a)
 | 0,_,_=>none
 | n + 1,x0,x1=>b_dC (m_br n) (m_bE n) n x0 x1
def m_bM:Nat → S_a → S_a → Option (S_a)
 | 0,_,_=>none
 | n + 1,x0,x1=>b_dE (m_br n) n x0 x1
def m_bb:Nat → S_b → S_a → Option (S_a)
 | 0,_,_=>none
 | n + 1,x0,x1=>b_cL (m_4 n) n x0 x1
def m_c0:Nat → (Sl S_b) → Option ((Sl S_a))
 | 0,_=>none
 | n + 1,x0=>b_dy (m_P n) (m_4 n) (m_bL n) (m_bK n) (m_bM n) (m_bb n) n x0
def m_bG:Nat → (Sl S_b) → Option (S_c × Int)
 | 0,_=>none
 | n + 1,x0=>b_d4 (m_c2 n) (m_c0 n) n x0
def m_cS:Nat → (Sl S_b) → Option (Int)
 | 0,_=>none
 | n + 1,x0=>b_dV (m_6 n) (m_cf n) n x0
def m_cF:Nat → (Sl S_b) → Option (Int)
 | 0,_=>none
 | n + 1,x0=>b_de n x0
def m_cN:Nat → (Sl S_b) → (Sl S_b) → Int → Option ((Sl S_b))
 | 0,_,_,_=>none
 | n + 1,x0,x1,x2=>b_dX (m_0 n) n x0 x1 x2
def m_cX:Nat → (Sl S_b) → (Sl S_b) → Option (Bool)
 | 0,_,_=>none
 | n + 1,x0,x1=>b_b9 (m_b8 n) (m_bG n) (m_c3 n) (m_cS n) (m_cF n) (m_cN n) (m_br n) n x0 x1
def K_bd:Co where
 f:=103
 X:=Sl Int × Sl Int
 R:=Sl Int
 rd:=fun ro H args x=>∃ b0 d1 b1 s1,args = [slV x.1 b0,(.func (.func 104) [].toArray [(.pointer (some ⟨d1,0,none⟩)),(.pointer (some ⟨b1,0,none⟩))].toArray)] ∧ SlO ro H (cInt .i64) 3 x.1 b0 ∧ H[d1]? = some (.cells [.func (.func 102) [].toArray [(.pointer (some ⟨b1,0,none⟩))].toArray] 99) ∧ H[b1]? = some (.cells [slV x.2 s1] 100) ∧ SlH H (cInt .i64) 3 x.2 s1 ∧ (x.1 ≠ none → b0 ≠ d1) ∧ (x.1 ≠ none → b0 ≠ b1) ∧ (x.1 ≠ none → x.2 ≠ none → b0 ≠ s1)
 inj:=by
  rintro ro H args ⟨x0,x1⟩ ⟨y0,y1⟩ ⟨b0,d1,b1,s1,h,f0,f1,f2,f3,_⟩ ⟨c_hd,k1,c_g4,u1,h',g0,g1,g2,g3,_⟩
  rw [h] at h'; simp only [List.cons.injEq,and_true] at h'
  obtain ⟨e0,e1⟩:=h'
  have z0:x0 = y0:=slV_inj e0 enc_int.inj enc_int.len f0.h g0.h
  have q:d1 = k1 ∧ b1 = c_g4:=by simpa using e1
  obtain ⟨rfl,rfl⟩:=q
  have q:slV x1 s1 = slV y1 u1:=by have q:=f2.symm.trans g2; simpa using q
  have z1:x1 = y1:=slV_inj q enc_int.inj enc_int.len f3 g3
  subst z0 z1; rfl
 m:=fun n x=>m_q n x.1 x.2
 lay:=fun r args H=>(.tuple [].toArray,match r with | none=>H | some l=>H.set (blkOf (args.getD 0 default)) (.cells (l.flatMap (cInt .i64)) 3))
def K_cW:Co where
 f:=12
 X:=(Sl S_b) × (Sl S_b)
 R:=Bool
 rd:=fun ro H args x=>∃ (b0:Nat) (b1:Nat),args = [(vAgg [slV (x.1) b0]),(vAgg [slV (x.2) b1])] ∧ SlH H S_b.c 72 (x.1) b0 ∧ SlH H S_b.c 72 (x.2) b1 ∧ TabH1 H
 inj:=by
  rintro ro H args ⟨x0,x1⟩ ⟨y0,y1⟩ ⟨b0,b1,h,f0,f1,f2⟩ ⟨db0,db1,h',g0,g1,g2⟩
  rw [h] at h'; simp only [List.cons.injEq,and_true] at h'
  obtain ⟨e0,e1⟩:=h'
  have z0:x0 = y0:=slV_inj (List.cons.inj (vAgg_inj e0)).1 S_b.enc.inj S_b.enc.len f0 g0
  have z1:x1 = y1:=slV_inj (List.cons.inj (vAgg_inj e1)).1 S_b.enc.inj S_b.enc.len f1 g1
  subst z0 z1; rfl
 m:=fun n x=>m_cX n (x.1) (x.2)
 lay:=fun r args H=>((.bool (r)),H)
def K_ey:Co where
 f:=18
 X:=(Sl S_b) × Int
 R:=(Sl S_b)
 rd:=fun ro H args x=>∃ (b0:Nat),args = [(vAgg [slV (x.1) b0]),(.int .i64 (x.2))] ∧ SlH H S_b.c 72 (x.1) b0
 inj:=by
  rintro ro H args ⟨x0,x1⟩ ⟨y0,y1⟩ ⟨b0,h,f0⟩ ⟨db0,h',g0⟩
  rw [h] at h'; simp only [List.cons.injEq,and_true] at h'
  obtain ⟨e0,e1⟩:=h'
  have z0:x0 = y0:=slV_inj (List.cons.inj (vAgg_inj e0)).1 S_b.enc.inj S_b.enc.len f0 g0
  have z1:x1 = y1:=by injection e1
  subst z0 z1; rfl
 m:=fun n x=>m_b8 n (x.1) (x.2)
 lay:=fun r args H=>((vAgg [slV r (blkA (args.getD 0 default))]),H)
def K_eR:Co where
 f:=26
 X:=(Sl S_b)
 R:=S_c × Int
 rd:=fun ro H args x=>∃ (b0:Nat),args = [(vAgg [slV x b0])] ∧ SlH H S_b.c 72 x b0 ∧ TabH1 H
 inj:=by
  rintro ro H args x0 y0 ⟨b0,h,f0,f1⟩ ⟨db0,h',g0,g1⟩
  rw [h] at h'; simp only [List.cons.injEq,and_true] at h'
  have e0:=h'
  have z0:x0 = y0:=slV_inj (List.cons.inj (vAgg_inj e0)).1 S_b.enc.inj S_b.enc.len f0 g0
  subst z0; rfl
 m:=fun n x=>m_bG n x
 lay:=fun r args H=>((.tuple [(vAgg (S_c.c (r.1))),(.int .i64 (r.2))].toArray),H)
def K_eO:Co where
 f:=32
 X:=(Sl S_b)
 R:=Int
 rd:=fun ro H args x=>∃ (b0:Nat),args = [(vAgg [slV x b0])] ∧ SlH H S_b.c 72 x b0
 inj:=by
  rintro ro H args x0 y0 ⟨b0,h,f0⟩ ⟨db0,h',g0⟩
  rw [h] at h'; simp only [List.cons.injEq,and_true] at h'
  have e0:=h'
  have z0:x0 = y0:=slV_inj (List.cons.inj (vAgg_inj e0)).1 S_b.enc.inj S_b.enc.len f0 g0
  subst z0; rfl
 m:=fun n x=>m_cS n x
 lay:=fun r args H=>((.int .i64 (r)),H)
def K_d5:Co where
 f:=36
 X:=(Sl S_b)
 R:=Int
 rd:=fun ro H args x=>∃ (b0:Nat),args = [(vAgg [slV x b0])] ∧ SlH H S_b.c 72 x b0
 inj:=by
  rintro ro H args x0 y0 ⟨b0,h,f0⟩ ⟨db0,h',g0⟩
  rw [h] at h'; simp only [List.cons.injEq,and_true] at h'
  have e0:=h'
  have z0:x0 = y0:=slV_inj (List.cons.inj (vAgg_inj e0)).1 S_b.enc.inj S_b.enc.len f0 g0
  subst z0; rfl
 m:=fun n x=>m_cF n x
 lay:=fun r args H=>((.int .i64 (r)),H)
def K_eP:Co where
 f:=37
 X:=(Sl S_b) × (Sl S_b) × Int
 R:=(Sl S_b)
 rd:=fun ro H args x=>∃ (b0:Nat) (b1:Nat),args = [(vAgg [slV (x.1) b0]),(vAgg [slV (x.2.1) b1]),(.int .i64 (x.2.2))] ∧ SlH H S_b.c 72 (x.1) b0 ∧ SlH H S_b.c 72 (x.2.1) b1
 inj:=by
  rintro ro H args ⟨x0,x1,x2⟩ ⟨y0,y1,y2⟩ ⟨b0,b1,h,f0,f1⟩ ⟨db0,db1,h',g0,g1⟩
  rw [h] at h'; simp only [List.cons.injEq,and_true] at h'
  obtain ⟨e0,e1,e2⟩:=h'
  have z0:x0 = y0:=slV_inj (List.cons.inj (vAgg_inj e0)).1 S_b.enc.inj S_b.enc.len f0 g0
  have z1:x1 = y1:=slV_inj (List.cons.inj (vAgg_inj e1)).1 S_b.enc.inj S_b.enc.len f1 g1
  have z2:x2 = y2:=by injection e2
  subst z0 z1 z2; rfl
 m:=fun n x=>m_cN n (x.1) (x.2.1) (x.2.2)
 lay:=fun r args H=>((vAgg [slV r H.length]),(H ++ slB S_b.c 72 r))
def K_dt:Co where
 f:=38
 X:=S_d × S_d
 R:=S_d
 rd:=fun ro H args x=>args = [(vAgg (S_d.c (x.1))),(vAgg (S_d.c (x.2)))]
 inj:=by
  rintro ro H args ⟨x0,x1⟩ ⟨y0,y1⟩ h h'
  rw [h] at h'; simp only [List.cons.injEq,and_true] at h'
  obtain ⟨e0,e1⟩:=h'
  have z0:x0 = y0:=S_d.enc.inj _ _ (vAgg_inj e0)
  have z1:x1 = y1:=S_d.enc.inj _ _ (vAgg_inj e1)
  subst z0 z1; rfl
 m:=fun n x=>m_br n (x.1) (x.2)
 lay:=fun r args H=>((vAgg (S_d.c (r))),H)
def K_eB:Co where
 f:=40
 X:=(Sl S_b)
 R:=Int
 rd:=fun ro H args x=>∃ (b0:Nat),args = [(vAgg [slV x b0])] ∧ SlH H S_b.c 72 x b0
 inj:=by
  rintro ro H args x0 y0 ⟨b0,h,f0⟩ ⟨db0,h',g0⟩
  rw [h] at h'; simp only [List.cons.injEq,and_true] at h'
  have e0:=h'
  have z0:x0 = y0:=slV_inj (List.cons.inj (vAgg_inj e0)).1 S_b.enc.inj S_b.enc.len f0 g0
  subst z0; rfl
 m:=fun n x=>m_c2 n x
 lay:=fun r args H=>((.int .i64 (r)),H)
def K_dl:Co where
 f:=44
 X:=S_d
 R:=Int
 rd:=fun ro H args x=>args = [(vAgg (S_d.c x))]
 inj:=by
  rintro ro H args x0 y0 h h'
  rw [h] at h'; simp only [List.cons.injEq,and_true] at h'
  have e0:=h'
  have z0:x0 = y0:=S_d.enc.inj _ _ (vAgg_inj e0)
  subst z0; rfl
 m:=fun n x=>m_b5 n x
 lay:=fun r args H=>((.int .i64 (r)),H)
def K_ez:Co where
 f:=57
 X:=(Sl S_b)
 R:=(Sl S_a)
 rd:=fun ro H args x=>∃ (b0:Nat),args = [(vAgg [slV x b0])] ∧ SlH H S_b.c 72 x b0 ∧ TabH1 H
 inj:=by
  rintro ro H args x0 y0 ⟨b0,h,f0,f1⟩ ⟨db0,h',g0,g1⟩
  rw [h] at h'; simp only [List.cons.injEq,and_true] at h'
  have e0:=h'
  have z0:x0 = y0:=slV_inj (List.cons.inj (vAgg_inj e0)).1 S_b.enc.inj S_b.enc.len f0 g0
  subst z0; rfl
 m:=fun n x=>m_c0 n x
 lay:=fun r args H=>((slV r H.length),(H ++ slB S_a.c 107 r))
def K_eC:Co where
 f:=62
 X:=(Sl S_b)
 R:=(Sl Int) × Bool
 rd:=fun ro H args x=>∃ (b0:Nat),args = [(vAgg [slV x b0])] ∧ SlH H S_b.c 72 x b0
 inj:=by
  rintro ro H args x0 y0 ⟨b0,h,f0⟩ ⟨db0,h',g0⟩
  rw [h] at h'; simp only [List.cons.injEq,and_true] at h'
  have e0:=h'
  have z0:x0 = y0:=slV_inj (List.cons.inj (vAgg_inj e0)).1 S_b.enc.inj S_b.enc.len f0 g0
  subst z0; rfl
 m:=fun n x=>m_6 n x
 lay:=fun r args H=>((.tuple [(slV r.1 H.length),(.bool (r.2))].toArray),(H ++ slB (cInt .i64) 3 r.1))
def K_eh:Co where
 f:=63
 X:=(Sl S_b)
 R:=(Sl Int)
 rd:=fun ro H args x=>∃ (b0:Nat),args = [(vAgg [slV x b0])] ∧ SlH H S_b.c 72 x b0
 inj:=by
  rintro ro H args x0 y0 ⟨b0,h,f0⟩ ⟨db0,h',g0⟩
  rw [h] at h'; simp only [List.cons.injEq,and_true] at h'
  have e0:=h'
  have z0:x0 = y0:=slV_inj (List.cons.inj (vAgg_inj e0)).1 S_b.enc.inj S_b.enc.len f0 g0
  subst z0; rfl
 m:=fun n x=>m_cf n x
 lay:=fun r args H=>((slV r H.length),(H ++ slB (cInt .i64) 3 r))
def K_ec:Co where
 f:=64
 X:=(Sl S_b)
 R:=Int
 rd:=fun ro H args x=>∃ (b0:Nat),args = [(vAgg [slV x b0])] ∧ SlH H S_b.c 72 x b0
 inj:=by
  rintro ro H args x0 y0 ⟨b0,h,f0⟩ ⟨db0,h',g0⟩
  rw [h] at h'; simp only [List.cons.injEq,and_true] at h'
  have e0:=h'
  have z0:x0 = y0:=slV_inj (List.cons.inj (vAgg_inj e0)).1 S_b.enc.inj S_b.enc.len f0 g0
  subst z0; rfl
 m:=fun n x=>m_cd n x
 lay:=fun r args H=>((.int .i64 (r)),H)
def K_eT:Co where
 f:=65
 X:=(Sl S_b)
 R:=(Sl Int) × (Sl Int)
 rd:=fun ro H args x=>∃ (b0:Nat),args = [(vAgg [slV x b0])] ∧ SlH H S_b.c 72 x b0
 inj:=by
  rintro ro H args x0 y0 ⟨b0,h,f0⟩ ⟨db0,h',g0⟩
  rw [h] at h'; simp only [List.cons.injEq,and_true] at h'
  have e0:=h'
  have z0:x0 = y0:=slV_inj (List.cons.inj (vAgg_inj e0)).1 S_b.enc.inj S_b.enc.len f0 g0
  subst z0; rfl
 m:=fun n x=>m_cO n x
 lay:=fun r args H=>((.tuple [(slV r.1 H.length),(slV r.2 (H.length + (slB (cInt .i64) 3 r.1).length))].toArray),(H ++ (slB (cInt .i64) 3 r.1 ++ slB (cInt .i64) 3 r.2)))
def K_eN:Co where
 f:=66
 X:=Int
 R:=Int
 rd:=fun ro H args x=>args = [(.int .i64 x)]
 inj:=by
  rintro ro H args x0 y0 h h'
  rw [h] at h'; simp only [List.cons.injEq,and_true] at h'
  have e0:=h'
  have z0:x0 = y0:=by injection e0
  subst z0; rfl
 m:=fun n x=>m_0 n x
 lay:=fun r args H=>((.int .i64 (r)),H)
def K_dN:Co where
 f:=68
 X:=(Sl S_b)
 R:=Bool
 rd:=fun ro H args x=>∃ (b0:Nat),args = [(vAgg [slV x b0])] ∧ SlH H S_b.c 72 x b0
 inj:=by
  rintro ro H args x0 y0 ⟨b0,h,f0⟩ ⟨db0,h',g0⟩
  rw [h] at h'; simp only [List.cons.injEq,and_true] at h'
  have e0:=h'
  have z0:x0 = y0:=slV_inj (List.cons.inj (vAgg_inj e0)).1 S_b.enc.inj S_b.enc.len f0 g0
  subst z0; rfl
 m:=fun n x=>m_bZ n x
 lay:=fun r args H=>((.bool (r)),H)
def K_cK:Co where
 f:=72
 X:=Int
 R:=Int
 rd:=fun ro H args x=>args = [(.int .u64 x)]
 inj:=by
  rintro ro H args x0 y0 h h'
  rw [h] at h'; simp only [List.cons.injEq,and_true] at h'
  have e0:=h'
  have z0:x0 = y0:=by injection e0
  subst z0; rfl
 m:=fun n x=>m_b1 n x
 lay:=fun r args H=>((.int .i64 (r)),H)
def K_dO:Co where
 f:=86
 X:=S_d
 R:=S_a
 rd:=fun ro H args x=>args = [(vAgg (S_d.c x))] ∧ TabH1 H
 inj:=by
  rintro ro H args x0 y0 ⟨h,f0⟩ ⟨h',g0⟩
  rw [h] at h'; simp only [List.cons.injEq,and_true] at h'
  have e0:=h'
  have z0:x0 = y0:=S_d.enc.inj _ _ (vAgg_inj e0)
  subst z0; rfl
 m:=fun n x=>m_P n x
 lay:=fun r args H=>((vAgg (S_a.c (r))),H)
def K_do:Co where
 f:=87
 X:=Unit
 R:=S_a
 rd:=fun ro H args x=>args = []
 inj:=by
  intros; rfl
 m:=fun n x=>m_4 n
 lay:=fun r args H=>((vAgg (S_a.c (r))),H)
def K_eu:Co where
 f:=88
 X:=Unit
 R:=S_d
 rd:=fun ro H args x=>args = []
 inj:=by
  intros; rfl
 m:=fun n x=>m_bL n
 lay:=fun r args H=>((vAgg (S_d.c (r))),H)
def K_ev:Co where
 f:=89
 X:=S_a × S_a
 R:=S_a
 rd:=fun ro H args x=>args = [(vAgg (S_a.c (x.1))),(vAgg (S_a.c (x.2)))]
 inj:=by
  rintro ro H args ⟨x0,x1⟩ ⟨y0,y1⟩ h h'
  rw [h] at h'; simp only [List.cons.injEq,and_true] at h'
  obtain ⟨e0,e1⟩:=h'
  have z0:x0 = y0:=S_a.enc.inj _ _ (vAgg_inj e0)
  have z1:x1 = y1:=S_a.enc.inj _ _ (vAgg_inj e1)
  subst z0 z1; rfl
 m:=fun n x=>m_bK n (x.1) (x.2)
 lay:=fun r args H=>((vAgg (S_a.c (r))),H)
def K_ex:Co where
 f:=90
 X:=S_a × S_a
 R:=S_a
 rd:=fun ro H args x=>args = [(vAgg (S_a.c (x.1))),(vAgg (S_a.c (x.2)))]
 inj:=by
  rintro ro H args ⟨x0,x1⟩ ⟨y0,y1⟩ h h'
  rw [h] at h'; simp only [List.cons.injEq,and_true] at h'
  obtain ⟨e0,e1⟩:=h'
  have z0:x0 = y0:=S_a.enc.inj _ _ (vAgg_inj e0)
  have z1:x1 = y1:=S_a.enc.inj _ _ (vAgg_inj e1)
  subst z0 z1; rfl
 m:=fun n x=>m_bM n (x.1) (x.2)
 lay:=fun r args H=>((vAgg (S_a.c (r))),H)
def K_ds:Co where
 f:=91
 X:=S_b × S_a
 R:=S_a
 rd:=fun ro H args x=>args = [(vAgg (S_b.c (x.1))),(vAgg (S_a.c (x.2)))]
 inj:=by
  rintro ro H args ⟨x0,x1⟩ ⟨y0,y1⟩ h h'
  rw [h] at h'; simp only [List.cons.injEq,and_true] at h'
  obtain ⟨e0,e1⟩:=h'
  have z0:x0 = y0:=S_b.enc.inj _ _ (vAgg_inj e0)
  have z1:x1 = y1:=S_a.enc.inj _ _ (vAgg_inj e1)
  subst z0 z1; rfl
 m:=fun n x=>m_bb n (x.1) (x.2)
 lay:=fun r args H=>((vAgg (S_a.c (r))),H)
def K_df:Co where
 f:=97
 X:=S_b
 R:=Bool
 rd:=fun ro H args x=>args = [(vAgg (S_b.c x))]
 inj:=by
  rintro ro H args x0 y0 h h'
  rw [h] at h'; simp only [List.cons.injEq,and_true] at h'
  have e0:=h'
  have z0:x0 = y0:=S_b.enc.inj _ _ (vAgg_inj e0)
  subst z0; rfl
 m:=fun n x=>m_bi n x
 lay:=fun r args H=>((.bool (r)),H)
def K_cl:Co where
 f:=98
 X:=(Sl Int)
 R:=Int
 rd:=fun ro H args x=>∃ (b0:Nat),args = [(slV x b0)] ∧ SlH H (cInt .i64) 3 x b0
 inj:=by
  rintro ro H args x0 y0 ⟨b0,h,f0⟩ ⟨db0,h',g0⟩
  rw [h] at h'; simp only [List.cons.injEq,and_true] at h'
  have e0:=h'
  have z0:x0 = y0:=slV_inj e0 enc_int.inj enc_int.len f0 g0
  subst z0; rfl
 m:=fun n x=>m_bh n x
 lay:=fun r args H=>((.int .i64 (r)),H)
def K_eL:Co where
 f:=99
 X:=Int × Int
 R:=Int
 rd:=fun ro H args x=>args = [(.int .i64 (x.1)),(.int .i64 (x.2))]
 inj:=by
  rintro ro H args ⟨x0,x1⟩ ⟨y0,y1⟩ h h'
  rw [h] at h'; simp only [List.cons.injEq,and_true] at h'
  obtain ⟨e0,e1⟩:=h'
  have z0:x0 = y0:=by injection e0
  have z1:x1 = y1:=by injection e1
  subst z0 z1; rfl
 m:=fun n x=>m_b3 n (x.1) (x.2)
 lay:=fun r args H=>((.int .i64 (r)),H)
def K_eE:Co where
 f:=100
 X:=Int × Int
 R:=Int
 rd:=fun ro H args x=>args = [(.int .i64 (x.1)),(.int .i64 (x.2))]
 inj:=by
  rintro ro H args ⟨x0,x1⟩ ⟨y0,y1⟩ h h'
  rw [h] at h'; simp only [List.cons.injEq,and_true] at h'
  obtain ⟨e0,e1⟩:=h'
  have z0:x0 = y0:=by injection e0
  have z1:x1 = y1:=by injection e1
  subst z0 z1; rfl
 m:=fun n x=>m_bN n (x.1) (x.2)
 lay:=fun r args H=>((.int .i64 (r)),H)
def K_c7:Co where
 f:=102
 X:=Int × (Sl Int)
 R:=Int
 rd:=fun ro H args x=>∃ (b1:Nat) (s1:Nat),args = [(.int .i64 (x.1)),(.pointer (some ⟨b1,0,none⟩))] ∧ H[b1]? = some (.cells [slV (x.2) s1] 100) ∧ SlH H (cInt .i64) 3 (x.2) s1
 inj:=by
  rintro ro H args ⟨x0,x1⟩ ⟨y0,y1⟩ ⟨b1,s1,h,f0,f1⟩ ⟨db1,ds1,h',g0,g1⟩
  rw [h] at h'; simp only [List.cons.injEq,and_true] at h'
  obtain ⟨e0,e1⟩:=h'
  have z0:x0 = y0:=by injection e0
  have z1:x1 = y1:=by
   have e:b1 = db1:=by injection e1 with e; injection e with e; injection e
   subst e
   have q:slV x1 s1 = slV y1 ds1:=by have q:=f0.symm.trans g0; simpa using q
   exact slV_inj q enc_int.inj enc_int.len f1 g1
  subst z0 z1; rfl
 m:=fun n x=>m_bT n (x.1) (x.2)
 lay:=fun r args H=>((.int .i64 (r)),H)
def K_c9:Co where
 f:=104
 X:=Int × Int × (Sl Int) × (Sl Int)
 R:=Int
 rd:=fun ro H args x=>∃ (d2:Nat) (b2:Nat) (s2:Nat) (b3:Nat) (s3:Nat),args = [(.int .i64 (x.1)),(.int .i64 (x.2.1)),(.pointer (some ⟨d2,0,none⟩)),(.pointer (some ⟨b3,0,none⟩))] ∧ H[d2]? = some (.cells [.func (.func 102) [].toArray [(.pointer (some ⟨b2,0,none⟩))].toArray] 99) ∧ H[b2]? = some (.cells [slV (x.2.2.1) s2] 100) ∧ SlH H (cInt .i64) 3 (x.2.2.1) s2 ∧ H[b3]? = some (.cells [slV (x.2.2.2) s3] 100) ∧ SlH H (cInt .i64) 3 (x.2.2.2) s3
 inj:=by
  rintro ro H args ⟨x0,x1,x2,x3⟩ ⟨y0,y1,y2,y3⟩ ⟨d2,b2,s2,b3,s3,h,f0,f1,f2,f3,f4⟩ ⟨dd2,db2,ds2,db3,ds3,h',g0,g1,g2,g3,g4⟩
  rw [h] at h'; simp only [List.cons.injEq,and_true] at h'
  obtain ⟨e0,e1,e2,e3⟩:=h'
  have z0:x0 = y0:=by injection e0
  have z1:x1 = y1:=by injection e1
  have z2:x2 = y2:=by
   have e:d2 = dd2:=by injection e2 with e; injection e with e; injection e
   subst e
   have e:b2 = db2:=by have q:=f0.symm.trans g0; simpa using q
   subst e
   have q:slV x2 s2 = slV y2 ds2:=by have q:=f1.symm.trans g1; simpa using q
   exact slV_inj q enc_int.inj enc_int.len f2 g2
  have z3:x3 = y3:=by
   have e:b3 = db3:=by injection e3 with e; injection e with e; injection e
   subst e
   have q:slV x3 s3 = slV y3 ds3:=by have q:=f3.symm.trans g3; simpa using q
   exact slV_inj q enc_int.inj enc_int.len f4 g4
  subst z0 z1 z2 z3; rfl
 m:=fun n x=>m_x n (x.1) (x.2.1) (x.2.2.1) (x.2.2.2)
 lay:=fun r args H=>((.int .i64 (r)),H)
def K_c6:Co where
 f:=105
 X:=S_b × (Sl Int)
 R:=Bool
 rd:=fun ro H args x=>∃ (b1:Nat) (s1:Nat),args = [(vAgg (S_b.c (x.1))),(.pointer (some ⟨b1,0,none⟩))] ∧ H[b1]? = some (.cells [slV (x.2) s1] 100) ∧ SlH H (cInt .i64) 3 (x.2) s1
 inj:=by
  rintro ro H args ⟨x0,x1⟩ ⟨y0,y1⟩ ⟨b1,s1,h,f0,f1⟩ ⟨db1,ds1,h',g0,g1⟩
  rw [h] at h'; simp only [List.cons.injEq,and_true] at h'
  obtain ⟨e0,e1⟩:=h'
  have z0:x0 = y0:=S_b.enc.inj _ _ (vAgg_inj e0)
  have z1:x1 = y1:=by
   have e:b1 = db1:=by injection e1 with e; injection e with e; injection e
   subst e
   have q:slV x1 s1 = slV y1 ds1:=by have q:=f0.symm.trans g0; simpa using q
   exact slV_inj q enc_int.inj enc_int.len f1 g1
  subst z0 z1; rfl
 m:=fun n x=>m_bs n (x.1) (x.2)
 lay:=fun r args H=>((.bool (r)),H)
def K_bW:Co where
 f:=106
 X:=(Sl S_b) × (Sl Int)
 R:=Bool
 rd:=fun ro H args x=>∃ (b0:Nat) (b1:Nat) (s1:Nat),args = [(slV (x.1) b0),(.func (.func 105) [].toArray [(.pointer (some ⟨b1,0,none⟩))].toArray)] ∧ SlH H S_b.c 72 (x.1) b0 ∧ H[b1]? = some (.cells [slV (x.2) s1] 100) ∧ SlH H (cInt .i64) 3 (x.2) s1
 inj:=by
  rintro ro H args ⟨x0,x1⟩ ⟨y0,y1⟩ ⟨b0,b1,s1,h,f0,f1,f2⟩ ⟨db0,db1,ds1,h',g0,g1,g2⟩
  rw [h] at h'; simp only [List.cons.injEq,and_true] at h'
  obtain ⟨e0,e1⟩:=h'
  have z0:x0 = y0:=slV_inj e0 S_b.enc.inj S_b.enc.len f0 g0
  have z1:x1 = y1:=by
   have e:b1 = db1:=by simpa using e1
   subst e
   have q:slV x1 s1 = slV y1 ds1:=by have q:=f1.symm.trans g1; simpa using q
   exact slV_inj q enc_int.inj enc_int.len f2 g2
  subst z0 z1; rfl
 m:=fun n x=>m_H n (x.1) (x.2)
 lay:=fun r args H=>((.bool (r)),H)
def K_db:Co where
 f:=113
 X:=S_d
 R:=S_d
 rd:=fun ro H args x=>args = [(vAgg (S_d.c x))]
 inj:=by
  rintro ro H args x0 y0 h h'
  rw [h] at h'; simp only [List.cons.injEq,and_true] at h'
  have e0:=h'
  have z0:x0 = y0:=S_d.enc.inj _ _ (vAgg_inj e0)
  subst z0; rfl
 m:=fun n x=>m_dd n x
 lay:=fun r args H=>((vAgg (S_d.c (r))),H)
def K_dp:Co where
 f:=120
 X:=S_d
 R:=Int × Bool
 rd:=fun ro H args x=>args = [(vAgg (S_d.c x))] ∧ TabH1 H
 inj:=by
  rintro ro H args x0 y0 ⟨h,f0⟩ ⟨h',g0⟩
  rw [h] at h'; simp only [List.cons.injEq,and_true] at h'
  have e0:=h'
  have z0:x0 = y0:=S_d.enc.inj _ _ (vAgg_inj e0)
  subst z0; rfl
 m:=fun n x=>m_U n x
 lay:=fun r args H=>((.tuple [(.int .u8 (r.1)),(.bool (r.2))].toArray),H)
def K_cY:Co where
 f:=121
 X:=S_a
 R:=S_a
 rd:=fun ro H args x=>args = [(vAgg (S_a.c x))]
 inj:=by
  rintro ro H args x0 y0 h h'
  rw [h] at h'; simp only [List.cons.injEq,and_true] at h'
  have e0:=h'
  have z0:x0 = y0:=S_a.enc.inj _ _ (vAgg_inj e0)
  subst z0; rfl
 m:=fun n x=>m_bE n x
 lay:=fun r args H=>((vAgg (S_a.c (r))),H)
def K_dq:Co where
 f:=124
 X:=S_b
 R:=S_b
 rd:=fun ro H args x=>args = [(vAgg (S_b.c x))]
 inj:=by
  rintro ro H args x0 y0 h h'
  rw [h] at h'; simp only [List.cons.injEq,and_true] at h'
  have e0:=h'
  have z0:x0 = y0:=S_b.enc.inj _ _ (vAgg_inj e0)
  subst z0; rfl
 m:=fun n x=>m_cD n x
 lay:=fun r args H=>((vAgg (S_b.c (r))),H)
def K_bU:Co where
 f:=138
 X:=(Sl S_b) × (Sl Int)
 R:=Int
 rd:=fun ro H args x=>∃ (b0:Nat) (b1:Nat) (s1:Nat),args = [(slV (x.1) b0),(.func (.func 105) [].toArray [(.pointer (some ⟨b1,0,none⟩))].toArray)] ∧ SlH H S_b.c 72 (x.1) b0 ∧ H[b1]? = some (.cells [slV (x.2) s1] 100) ∧ SlH H (cInt .i64) 3 (x.2) s1
 inj:=by
  rintro ro H args ⟨x0,x1⟩ ⟨y0,y1⟩ ⟨b0,b1,s1,h,f0,f1,f2⟩ ⟨db0,db1,ds1,h',g0,g1,g2⟩
  rw [h] at h'; simp only [List.cons.injEq,and_true] at h'
  obtain ⟨e0,e1⟩:=h'
  have z0:x0 = y0:=slV_inj e0 S_b.enc.inj S_b.enc.len f0 g0
  have z1:x1 = y1:=by
   have e:b1 = db1:=by simpa using e1
   subst e
   have q:slV x1 s1 = slV y1 ds1:=by have q:=f1.symm.trans g1; simpa using q
   exact slV_inj q enc_int.inj enc_int.len f2 g2
  subst z0 z1; rfl
 m:=fun n x=>m_bl n (x.1) (x.2)
 lay:=fun r args H=>((.int .i64 (r)),H)
def K_b7:Co where
 f:=152
 X:=Int
 R:=Int
 rd:=fun ro H args x=>args = [(.int .u64 x)] ∧ TabH1 H
 inj:=by
  rintro ro H args x0 y0 ⟨h,f0⟩ ⟨h',g0⟩
  rw [h] at h'; simp only [List.cons.injEq,and_true] at h'
  have e0:=h'
  have z0:x0 = y0:=by injection e0
  subst z0; rfl
 m:=fun n x=>m_Q n x
 lay:=fun r args H=>((.int .i64 (r)),H)
def K_dL:Co where
 f:=29
 X:=Unit
 R:=Bool
 rd:=fun ro H args x=>args = [] ∧ TabH1 H
 inj:=by
  intros; rfl
 m:=fun n x=>m_c3 n
 lay:=fun r args H=>((.bool (r)),H)
def K_dx:Co where
 f:=125
 X:=S_b
 R:=S_b
 rd:=fun ro H args x=>args = [(vAgg (S_b.c x))]
 inj:=by
  rintro ro H args x0 y0 h h'
  rw [h] at h'; simp only [List.cons.injEq,and_true] at h'
  have e0:=h'
  have z0:x0 = y0:=S_b.enc.inj _ _ (vAgg_inj e0)
  subst z0; rfl
 m:=fun n x=>m_cP n x
 lay:=fun r args H=>((vAgg (S_b.c (r))),H)
def T:FuncId → Option Co
 | 12=>some K_cW
 | 18=>some K_ey
 | 26=>some K_eR
 | 32=>some K_eO
 | 36=>some K_d5
 | 37=>some K_eP
 | 38=>some K_dt
 | 40=>some K_eB
 | 44=>some K_dl
 | 57=>some K_ez
 | 62=>some K_eC
 | 63=>some K_eh
 | 64=>some K_ec
 | 65=>some K_eT
 | 66=>some K_eN
 | 68=>some K_dN
 | 72=>some K_cK
 | 86=>some K_dO
 | 87=>some K_do
 | 88=>some K_eu
 | 89=>some K_ev
 | 90=>some K_ex
 | 91=>some K_ds
 | 97=>some K_df
 | 98=>some K_cl
 | 99=>some K_eL
 | 100=>some K_eE
 | 102=>some K_c7
 | 104=>some K_c9
 | 105=>some K_c6
 | 106=>some K_bW
 | 113=>some K_db
 | 120=>some K_dp
 | 121=>some K_cY
 | 124=>some K_dq
 | 138=>some K_bU
 | 152=>some K_b7
 | 29=>some K_dL
 | 125=>some K_dx
 | 103=>some K_bd
 | _=>none
theorem srt_len {cf:Int → Int → Int} {l:List Int}:(srt cf l).length = l.length:=List.length_mergeSort _
theorem z_dP {n:Nat}:A_cB (tabC T n) (m_q n):=fun ro nb H x0 b0 x1 d1 b1 s1 r hro h0 f1 f2 f3 n1 n2 n3 hm=>by
 have h:=ans_tab (T:=T) (n:=n) (k:=K_bd) rfl ro H _ (x0,x1) r ⟨b0,d1,b1,s1,rfl,h0.weak hro,f1,f2,f3,n1,n2,n3⟩ hm
 refine ⟨_,h,?_⟩
 cases x0 with
 | none =>
  obtain rfl:=m103_none hm
  exact ⟨h0,⟨rfl,fun _ _=>rfl⟩,fun _=>rfl,rfl,rfl⟩
 | some l =>
  obtain ⟨k,rfl,_,_,_,_,rfl⟩:=m103_some hm
  obtain ⟨g1,g2⟩:=h0 l rfl
  refine ⟨fun l' hl'=>?_,⟨?_,fun x hx=>?_⟩,fun b=>?_,by simp,?_⟩
  ·injection hl' with hl'; subst hl'; exact ⟨g1,get_set g2⟩
  ·simp [K_bd]
  ·exact List.getElem?_set_ne (fun e=>hx (by simp) e.symm)
  ·simp only [slV,srt_len]
  ·simp only [Sl.l,srt_len]
theorem alias18 {n:Nat} {x0 r:Sl S_b} {x1:Int} (h:m_b8 n x0 x1 = some r):(r ≠ none → x0 ≠ none) ∧ ∀ (H:Hp) (b:Nat),SlH H S_b.c 72 x0 b → SlH H S_b.c 72 r b:=by
 cases n with
 | zero=>cases h
 | succ n =>
  simp only [m_b8,b_c1,Option.bind_eq_some_iff,Option.some.injEq] at h
  obtain ⟨y,hy,rfl⟩:=h
  exact ⟨Sl.upto_none hy,fun H b hs=>hs.upto hy⟩
theorem z_gO {n:Nat}:A_fw (tabC T n) (m_b8 n):=fun ro H x0 b0 x1 r f0 hm=>⟨by
 have h:=ans_tab (T:=T) (n:=n) (k:=K_ey) rfl ro H _ ⟨x0,x1⟩ r ⟨b0,rfl,f0⟩ hm
 cases x0 with
 | none =>
  obtain rfl:r = none:=Classical.byContradiction fun hr=>(alias18 hm).1 hr rfl
  exact h
 | some l=>exact h,alias18 hm⟩
theorem z_g5 {n:Nat}:A_f0 (tabC T n) (m_bG n):=fun ro H x0 b0 r f0 f1 hm=>ans_tab (k:=K_eR) rfl ro H _ x0 r ⟨b0,rfl,f0,f1⟩ hm
theorem z_gX {n:Nat}:A_f7 (tabC T n) (m_cS n):=fun ro H x0 b0 r f0 hm=>ans_tab (k:=K_eO) rfl ro H _ x0 r ⟨b0,rfl,f0⟩ hm
theorem z_gs {n:Nat}:A_fg (tabC T n) (m_cF n):=fun ro H x0 b0 r f0 hm=>ans_tab (k:=K_d5) rfl ro H _ x0 r ⟨b0,rfl,f0⟩ hm
theorem z_gY {n:Nat}:A_fS (tabC T n) (m_cN n):=fun ro H x0 b0 x1 b1 x2 r f0 f1 hm=>ans_tab (k:=K_eP) rfl ro H _ ⟨x0,x1,x2⟩ r ⟨b0,b1,rfl,f0,f1⟩ hm
theorem z_dr {n:Nat}:A_cR (tabC T n) (m_br n):=fun ro H x0 x1 r hm=>ans_tab (k:=K_dt) rfl ro H _ ⟨x0,x1⟩ r rfl hm
theorem z_gB {n:Nat}:A_fr (tabC T n) (m_c2 n):=fun ro H x0 b0 r f0 hm=>ans_tab (k:=K_eB) rfl ro H _ x0 r ⟨b0,rfl,f0⟩ hm
theorem z_fN {n:Nat}:A_er (tabC T n) (m_b5 n):=fun ro H x0 r hm=>ans_tab (k:=K_dl) rfl ro H _ x0 r rfl hm
theorem z_gP {n:Nat}:A_fv (tabC T n) (m_c0 n):=fun ro H x0 b0 r f0 f1 hm=>ans_tab (k:=K_ez) rfl ro H _ x0 r ⟨b0,rfl,f0,f1⟩ hm
theorem z_d8 {n:Nat}:A_dD (tabC T n) (m_6 n):=fun ro H x0 b0 r f0 hm=>ans_tab (k:=K_eC) rfl ro H _ x0 r ⟨b0,rfl,f0⟩ hm
theorem z_eU {n:Nat}:A_ea (tabC T n) (m_cf n):=fun ro H x0 b0 r f0 hm=>ans_tab (k:=K_eh) rfl ro H _ x0 r ⟨b0,rfl,f0⟩ hm
theorem z_gu {n:Nat}:A_fa (tabC T n) (m_cd n):=fun ro H x0 b0 r f0 hm=>ans_tab (k:=K_ec) rfl ro H _ x0 r ⟨b0,rfl,f0⟩ hm
theorem z_gZ {n:Nat}:A_f8 (tabC T n) (m_cO n):=fun ro H x0 b0 r f0 hm=>ans_tab (k:=K_eT) rfl ro H _ x0 r ⟨b0,rfl,f0⟩ hm
theorem z_et {n:Nat}:A_dU (tabC T n) (m_0 n):=fun ro H x0 r hm=>ans_tab (k:=K_eN) rfl ro H _ x0 r rfl hm
theorem z_gn {n:Nat}:A_eX (tabC T n) (m_bZ n):=fun ro H x0 b0 r f0 hm=>ans_tab (k:=K_dN) rfl ro H _ x0 r ⟨b0,rfl,f0⟩ hm
theorem z_eZ {n:Nat}:A_dJ (tabC T n) (m_b1 n):=fun ro H x0 r hm=>ans_tab (k:=K_cK) rfl ro H _ x0 r rfl hm
theorem z_ge {n:Nat}:A_eW (tabC T n) (m_P n):=fun ro H x0 r f0 hm=>ans_tab (k:=K_dO) rfl ro H _ x0 r ⟨rfl,f0⟩ hm
theorem z_eg {n:Nat}:A_dj (tabC T n) (m_4 n):=fun ro H  r hm=>ans_tab (k:=K_do) rfl ro H _ () r rfl hm
theorem z_gI {n:Nat}:A_fy (tabC T n) (m_bL n):=fun ro H  r hm=>ans_tab (k:=K_eu) rfl ro H _ () r rfl hm
theorem z_gD {n:Nat}:A_ft (tabC T n) (m_bK n):=fun ro H x0 x1 r hm=>ans_tab (k:=K_ev) rfl ro H _ ⟨x0,x1⟩ r rfl hm
theorem z_gJ {n:Nat}:A_fs (tabC T n) (m_bM n):=fun ro H x0 x1 r hm=>ans_tab (k:=K_ex) rfl ro H _ ⟨x0,x1⟩ r rfl hm
theorem z_fY {n:Nat}:A_eF (tabC T n) (m_bb n):=fun ro H x0 x1 r hm=>ans_tab (k:=K_ds) rfl ro H _ ⟨x0,x1⟩ r rfl hm
theorem z_fC {n:Nat}:A_eo (tabC T n) (m_bi n):=fun ro H x0 r hm=>ans_tab (k:=K_df) rfl ro H _ x0 r rfl hm
theorem z_eH {n:Nat}:A_dk (tabC T n) (m_bh n):=fun ro H x0 b0 r f0 hm=>ans_tab (k:=K_cl) rfl ro H _ x0 r ⟨b0,rfl,f0⟩ hm
theorem z_gW {n:Nat}:A_f2 (tabC T n) (m_b3 n):=fun ro H x0 x1 r hm=>ans_tab (k:=K_eL) rfl ro H _ ⟨x0,x1⟩ r rfl hm
theorem z_gK {n:Nat}:A_fx (tabC T n) (m_bN n):=fun ro H x0 x1 r hm=>ans_tab (k:=K_eE) rfl ro H _ ⟨x0,x1⟩ r rfl hm
theorem z_fj {n:Nat}:A_ef (tabC T n) (m_bT n):=fun ro H x0 x1 b1 s1 r f0 f1 hm=>ans_tab (k:=K_c7) rfl ro H _ ⟨x0,x1⟩ r ⟨b1,s1,rfl,f0,f1⟩ hm
theorem z_fh {n:Nat}:A_fM (tabC T n) (m_x n):=fun ro H x0 x1 x2 d2 b2 s2 x3 b3 s3 r f0 f1 f2 f3 f4 hm=>ans_tab (k:=K_c9) rfl ro H _ ⟨x0,x1,x2,x3⟩ r ⟨d2,b2,s2,b3,s3,rfl,f0,f1,f2,f3,f4⟩ hm
theorem z_fp {n:Nat}:A_d9 (tabC T n) (m_bs n):=fun ro H x0 x1 b1 s1 r f0 f1 hm=>ans_tab (k:=K_c6) rfl ro H _ ⟨x0,x1⟩ r ⟨b1,s1,rfl,f0,f1⟩ hm
theorem z_ed {n:Nat}:A_cU (tabC T n) (m_H n):=fun ro H x0 b0 x1 b1 s1 r f0 f1 f2 hm=>ans_tab (k:=K_bW) rfl ro H _ ⟨x0,x1⟩ r ⟨b0,b1,s1,rfl,f0,f1,f2⟩ hm
theorem z_fD {n:Nat}:A_eq (tabC T n) (m_dd n):=fun ro H x0 r hm=>ans_tab (k:=K_db) rfl ro H _ x0 r rfl hm
theorem z_fL {n:Nat}:A_en (tabC T n) (m_U n):=fun ro H x0 r f0 hm=>ans_tab (k:=K_dp) rfl ro H _ x0 r ⟨rfl,f0⟩ hm
theorem z_fd {n:Nat}:A_dS (tabC T n) (m_bE n):=fun ro H x0 r hm=>ans_tab (k:=K_cY) rfl ro H _ x0 r rfl hm
theorem z_fA {n:Nat}:A_ep (tabC T n) (m_cD n):=fun ro H x0 r hm=>ans_tab (k:=K_dq) rfl ro H _ x0 r rfl hm
theorem z_ee {n:Nat}:A_cV (tabC T n) (m_bl n):=fun ro H x0 b0 x1 b1 s1 r f0 f1 f2 hm=>ans_tab (k:=K_bU) rfl ro H _ ⟨x0,x1⟩ r ⟨b0,b1,s1,rfl,f0,f1,f2⟩ hm
theorem z_ei {n:Nat}:A_cZ (tabC T n) (m_Q n):=fun ro H x0 r f0 hm=>ans_tab (k:=K_b7) rfl ro H _ x0 r ⟨rfl,f0⟩ hm
theorem z_gd {n:Nat}:A_eY (tabC T n) (m_c3 n):=fun ro H  r f0 hm=>ans_tab (k:=K_dL) rfl ro H _ () r ⟨rfl,f0⟩ hm
theorem z_fX {n:Nat}:A_eI (tabC T n) (m_cP n):=fun ro H x0 r hm=>ans_tab (k:=K_dx) rfl ro H _ x0 r rfl hm
end
end Go.Proofs.YtaadjlpfdajggaaGreatDoor
