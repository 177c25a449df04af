import Derived.Test.YtaadjlpfdajggaaGreatDoorBvV0
import Derived.Test.YtaadjlpfdajggaaGreatDoorBvV1
import Derived.Test.YtaadjlpfdajggaaGreatDoorBvV2
import Derived.Test.YtaadjlpfdajggaaGreatDoorBvAm25
set_option maxRecDepth 100000
set_option linter.unusedVariables false
set_option linter.unusedSimpArgs false
namespace Go.Proofs.YtaadjlpfdajggaaGreatDoor
open Go Go.AM
noncomputable section
def m_bN:Nat → Option (Bool)
 | 0=>none
 | _ + 1=>some true
def m_b4:Nat → S_a → Option (S_a)
 | 0,_=>none
 | _ + 1,x0=>some (ownS x0)
def m_bx:Nat → (Sl S_a) → Int → Option ((Sl S_a))
 | 0,_,_=>none
 | n + 1,x0,x1=>b_cd n x0 x1
def m_v:Nat → Int → Option (Int)
 | 0,_=>none
 | n + 1,x0=>b_c1 n x0
def m_bT:Nat → S_a → Option (S_a)
 | 0,_=>none
 | n + 1,x0=>b_bU n x0
def m_V:Nat → S_a → Option (Bool)
 | 0,_=>none
 | n + 1,x0=>b_bR (m_bT n) (m_b4 n) n x0
def m_M:Nat → (Sl S_a) → Option ((Sl Int) × Bool)
 | 0,_=>none
 | n + 1,x0=>b_cF (m_v n) (m_V n) n x0
def m_bC:Nat → (Sl S_a) → Option ((Sl Int))
 | 0,_=>none
 | n + 1,x0=>b_cn (m_v n) n x0
def m_T:Nat → (Sl Int) → Option (Int)
 | 0,_=>none
 | n + 1,x0=>b_9 n x0
def m_bB:Nat → (Sl S_a) → Option (Int)
 | 0,_=>none
 | n + 1,x0=>b_cw (m_M n) (m_bC n) (m_T n) n x0
def m_bq:Nat → Int → Int → Option (Int)
 | 0,_,_=>none
 | n + 1,x0,x1=>b_cX n x0 x1
def m_bc:Nat → Int → Int → Option (Int)
 | 0,_,_=>none
 | n + 1,x0,x1=>b_cC n x0 x1
def m_b5:Nat → (Sl S_a) → Option ((Sl Int) × (Sl Int))
 | 0,_=>none
 | n + 1,x0=>b_c3 (m_bq n) (m_bc n) n x0
def m_bh:Nat → Int → (Sl Int) → Option (Int)
 | 0,_,_=>none
 | n + 1,x0,x1=>b_bE n x0 x1
def m_l:Nat → Int → Int → (Sl Int) → (Sl Int) → Option (Int)
 | 0,_,_,_,_=>none
 | n + 1,x0,x1,x2,x3=>b_bF (m_bh n) n x0 x1 x2 x3
def m_h:Nat → Sl Int → Sl Int → Option (Sl Int)
 | 0,_,_=>none
 | _ + 1,none,_=>some none
 | n + 1,some l,x1=>open Classical in
  if l ≠ [] ∧ l.length < 4611686018427387904 ∧ (∀ x ∈ l,∀ y ∈ l,m_l n x y x1 x1 ≠ none) ∧ OrdOn (ltC fun x y=>(m_l n x y x1 x1).getD 0) l then some (some (srt (fun x y=>(m_l n x y x1 x1).getD 0) l)) else none
theorem m103_some {n:Nat} {l:List Int} {x1 r:Sl Int} (h:m_h n (some l) x1 = some r):∃ k,n = k + 1 ∧ l ≠ [] ∧ l.length < 4611686018427387904 ∧ (∀ x ∈ l,∀ y ∈ l,m_l k x y x1 x1 ≠ none) ∧ OrdOn (ltC fun x y=>(m_l k x y x1 x1).getD 0) l ∧ r = some (srt (fun x y=>(m_l k x y x1 x1).getD 0) l):=by
 cases n with
 | zero=>simp [m_h] at h
 | succ n =>
  simp only [m_h] at h
  split at h
  ·rename_i hc; injection h with h; exact ⟨n,rfl,hc.1,hc.2.1,hc.2.2.1,hc.2.2.2,h.symm⟩
  ·cases h
theorem m103_none {n:Nat} {x1 r:Sl Int} (h:m_h n none x1 = some r):r = none:=by
 cases n with
 | zero=>simp [m_h] at h
 | succ n=>simp only [m_h,Option.some.injEq] at h; exact h.symm
def m_2:Nat → S_a → (Sl Int) → Option (Bool)
 | 0,_,_=>none
 | n + 1,x0,x1=>b_bK n x0 x1
def m_0:Nat → (Sl S_a) → (Sl Int) → Option (Int)
 | 0,_,_=>none
 | n + 1,x0,x1=>b_Y (m_2 n) n x0 x1
def m_w:Nat → (Sl S_a) → (Sl Int) → Option (Bool)
 | 0,_,_=>none
 | n + 1,x0,x1=>b_1 (m_0 n) n x0 x1
def m_bo:Nat → (Sl S_a) → Option (Bool)
 | 0,_=>none
 | n + 1,x0=>b_cg (m_M n) (m_h n) (m_w n) n x0
def m_bw:Nat → (Sl S_a) → Option (Int)
 | 0,_=>none
 | n + 1,x0=>b_cD (m_bB n) (m_b5 n) (m_bo n) n x0
def m_bd:Nat → Int → Option (Int)
 | 0,_=>none
 | n + 1,x0=>b_dx n x0
def m_X:Nat → S_a → Int → Option (Int)
 | 0,_,_=>none
 | n + 1,x0,x1=>b_ch n x0 x1
def m_cc:Nat → (Sl S_a) → Int → Option ((Sl Int))
 | 0,_,_=>none
 | n + 1,x0,x1=>b_cH (m_bd n) (m_X n) n x0 x1
def m_B:Nat → (Sl S_a) → Int → Option (Int × Int)
 | 0,_,_=>none
 | n + 1,x0,x1=>b_bX (m_bw n) (m_bd n) (m_cc n) n x0 x1
def m_dX:Nat → Nat → Option (Nat)
 | 0,_=>none
 | n + 1,x0=>b_dO n x0
def m_b3:Nat → Nat → Int → Option (Bool)
 | 0,_,_=>none
 | n + 1,x0,x1=>b_dd (m_dX n) n x0 x1
def m_cZ:Nat → Int → Option (Nat)
 | 0,_=>none
 | n + 1,x0=>b_dL n x0
def m_bL:Nat → (Sl S_a) → Int → Option (Nat × Int)
 | 0,_,_=>none
 | n + 1,x0,x1=>b_cf (m_B n) (m_b3 n) (m_cZ n) n x0 x1
def m_b8:Nat → (Sl S_a) → Option (Int)
 | 0,_=>none
 | n + 1,x0=>b_cY (m_M n) (m_bC n) n x0
def m_cp:Nat → (Sl S_a) → S_a → Option ((Sl S_a))
 | 0,_,_=>none
 | n + 1,x0,x1=>b_cV n x0 x1
def m_b1:Nat → (Sl S_a) → Option (Int)
 | 0,_=>none
 | n + 1,x0=>b_cv n x0
def m_bH:Nat → (Sl S_a) → (Sl S_a) → Int → Option ((Sl S_a))
 | 0,_,_,_=>none
 | n + 1,x0,x1,x2=>b_cu (m_v n) n x0 x1 x2
def m_b2:Nat → (Sl S_a) → (Sl S_a) → Int → Option (Bool)
 | 0,_,_,_=>none
 | n + 1,x0,x1,x2=>b_bs (m_bx n) (m_B n) (m_bL n) (m_bN n) (m_b8 n) (m_cp n) (m_b1 n) (m_bH n) n x0 x1 x2
def K_P:Co where
 f:=103
 X:=Sl Int × Sl Int
 R:=Sl Int
 rd:=fun ro H args x=>∃ b0 d1 b1 s1,args = [slV x.1 b0,(.func (.func 104) [].toArray [(.pointer (some ⟨d1,0,none⟩)),(.pointer (some ⟨b1,0,none⟩))].toArray)] ∧ SlO ro H (cInt .i64) 3 x.1 b0 ∧ H[d1]? = some (.cells [.func (.func 102) [].toArray [(.pointer (some ⟨b1,0,none⟩))].toArray] 99) ∧ H[b1]? = some (.cells [slV x.2 s1] 100) ∧ SlH H (cInt .i64) 3 x.2 s1 ∧ (x.1 ≠ none → b0 ≠ d1) ∧ (x.1 ≠ none → b0 ≠ b1) ∧ (x.1 ≠ none → x.2 ≠ none → b0 ≠ s1)
 inj:=by
  rintro ro H args ⟨x0,x1⟩ ⟨y0,y1⟩ ⟨b0,d1,b1,s1,h,f0,f1,f2,f3,_⟩ ⟨c_f5,k1,c_fH,u1,h',g0,g1,g2,g3,_⟩
  rw [h] at h'; simp only [List.cons.injEq,and_true] at h'
  obtain ⟨e0,e1⟩:=h'
  have z0:x0 = y0:=slV_inj e0 enc_int.inj enc_int.len f0.h g0.h
  have q:d1 = k1 ∧ b1 = c_fH:=by simpa using e1
  obtain ⟨rfl,rfl⟩:=q
  have q:slV x1 s1 = slV y1 u1:=by have q:=f2.symm.trans g2; simpa using q
  have z1:x1 = y1:=slV_inj q enc_int.inj enc_int.len f3 g3
  subst z0 z1; rfl
 m:=fun n x=>m_h n x.1 x.2
 lay:=fun r args H=>(.tuple [].toArray,match r with | none=>H | some l=>H.set (blkOf (args.getD 0 default)) (.cells (l.flatMap (cInt .i64)) 3))
def K_bY:Co where
 f:=10
 X:=(Sl S_a) × (Sl S_a) × Int
 R:=Bool
 rd:=fun ro H args x=>∃ (b0:Nat) (b1:Nat),args = [(vAgg [slV (x.1) b0]),(vAgg [slV (x.2.1) b1]),(.int .u8 (x.2.2))] ∧ SlH H S_a.c 72 (x.1) b0 ∧ SlH H S_a.c 72 (x.2.1) b1 ∧ TabH1 H
 inj:=by
  rintro ro H args ⟨x0,x1,x2⟩ ⟨y0,y1,y2⟩ ⟨b0,b1,h,f0,f1,f2⟩ ⟨db0,db1,h',g0,g1,g2⟩
  rw [h] at h'; simp only [List.cons.injEq,and_true] at h'
  obtain ⟨e0,e1,e2⟩:=h'
  have z0:x0 = y0:=slV_inj (List.cons.inj (vAgg_inj e0)).1 S_a.enc.inj S_a.enc.len f0 g0
  have z1:x1 = y1:=slV_inj (List.cons.inj (vAgg_inj e1)).1 S_a.enc.inj S_a.enc.len f1 g1
  have z2:x2 = y2:=by injection e2
  subst z0 z1 z2; rfl
 m:=fun n x=>m_b2 n (x.1) (x.2.1) (x.2.2)
 lay:=fun r args H=>((.bool (r)),H)
def K_ds:Co where
 f:=18
 X:=(Sl S_a) × Int
 R:=(Sl S_a)
 rd:=fun ro H args x=>∃ (b0:Nat),args = [(vAgg [slV (x.1) b0]),(.int .i64 (x.2))] ∧ SlH H S_a.c 72 (x.1) b0
 inj:=by
  rintro ro H args ⟨x0,x1⟩ ⟨y0,y1⟩ ⟨b0,h,f0⟩ ⟨db0,h',g0⟩
  rw [h] at h'; simp only [List.cons.injEq,and_true] at h'
  obtain ⟨e0,e1⟩:=h'
  have z0:x0 = y0:=slV_inj (List.cons.inj (vAgg_inj e0)).1 S_a.enc.inj S_a.enc.len f0 g0
  have z1:x1 = y1:=by injection e1
  subst z0 z1; rfl
 m:=fun n x=>m_bx n (x.1) (x.2)
 lay:=fun r args H=>((vAgg [slV r (blkA (args.getD 0 default))]),H)
def K_da:Co where
 f:=20
 X:=(Sl S_a) × Int
 R:=Int × Int
 rd:=fun ro H args x=>∃ (b0:Nat),args = [(vAgg [slV (x.1) b0]),(.int .i64 (x.2))] ∧ SlH H S_a.c 72 (x.1) b0
 inj:=by
  rintro ro H args ⟨x0,x1⟩ ⟨y0,y1⟩ ⟨b0,h,f0⟩ ⟨db0,h',g0⟩
  rw [h] at h'; simp only [List.cons.injEq,and_true] at h'
  obtain ⟨e0,e1⟩:=h'
  have z0:x0 = y0:=slV_inj (List.cons.inj (vAgg_inj e0)).1 S_a.enc.inj S_a.enc.len f0 g0
  have z1:x1 = y1:=by injection e1
  subst z0 z1; rfl
 m:=fun n x=>m_B n (x.1) (x.2)
 lay:=fun r args H=>((.tuple [(.int .i64 (r.1)),(.int .i64 (r.2))].toArray),H)
def K_cL:Co where
 f:=22
 X:=(Sl S_a) × Int
 R:=Nat × Int
 rd:=fun ro H args x=>∃ (b0:Nat),args = [(vAgg [slV (x.1) b0]),(.int .i64 (x.2))] ∧ SlH H S_a.c 72 (x.1) b0
 inj:=by
  rintro ro H args ⟨x0,x1⟩ ⟨y0,y1⟩ ⟨b0,h,f0⟩ ⟨db0,h',g0⟩
  rw [h] at h'; simp only [List.cons.injEq,and_true] at h'
  obtain ⟨e0,e1⟩:=h'
  have z0:x0 = y0:=slV_inj (List.cons.inj (vAgg_inj e0)).1 S_a.enc.inj S_a.enc.len f0 g0
  have z1:x1 = y1:=by injection e1
  subst z0 z1; rfl
 m:=fun n x=>m_bL n (x.1) (x.2)
 lay:=fun r args H=>((.tuple [(.float .f64 (r.1)),(.int .i64 (r.2))].toArray),H)
def K_dP:Co where
 f:=32
 X:=(Sl S_a)
 R:=Int
 rd:=fun ro H args x=>∃ (b0:Nat),args = [(vAgg [slV x b0])] ∧ SlH H S_a.c 72 x b0
 inj:=by
  rintro ro H args x0 y0 ⟨b0,h,f0⟩ ⟨db0,h',g0⟩
  rw [h] at h'; simp only [List.cons.injEq,and_true] at h'
  have e0:=h'
  have z0:x0 = y0:=slV_inj (List.cons.inj (vAgg_inj e0)).1 S_a.enc.inj S_a.enc.len f0 g0
  subst z0; rfl
 m:=fun n x=>m_b8 n x
 lay:=fun r args H=>((.int .i64 (r)),H)
def K_dR:Co where
 f:=33
 X:=(Sl S_a) × S_a
 R:=(Sl S_a)
 rd:=fun ro H args x=>∃ (b0:Nat),args = [(vAgg [slV (x.1) b0]),(vAgg (S_a.c (x.2)))] ∧ SlH H S_a.c 72 (x.1) b0
 inj:=by
  rintro ro H args ⟨x0,x1⟩ ⟨y0,y1⟩ ⟨b0,h,f0⟩ ⟨db0,h',g0⟩
  rw [h] at h'; simp only [List.cons.injEq,and_true] at h'
  obtain ⟨e0,e1⟩:=h'
  have z0:x0 = y0:=slV_inj (List.cons.inj (vAgg_inj e0)).1 S_a.enc.inj S_a.enc.len f0 g0
  have z1:x1 = y1:=S_a.enc.inj _ _ (vAgg_inj e1)
  subst z0 z1; rfl
 m:=fun n x=>m_cp n (x.1) (x.2)
 lay:=fun r args H=>((vAgg [slV r H.length]),(H ++ slB S_a.c 72 r))
def K_dl:Co where
 f:=36
 X:=(Sl S_a)
 R:=Int
 rd:=fun ro H args x=>∃ (b0:Nat),args = [(vAgg [slV x b0])] ∧ SlH H S_a.c 72 x b0
 inj:=by
  rintro ro H args x0 y0 ⟨b0,h,f0⟩ ⟨db0,h',g0⟩
  rw [h] at h'; simp only [List.cons.injEq,and_true] at h'
  have e0:=h'
  have z0:x0 = y0:=slV_inj (List.cons.inj (vAgg_inj e0)).1 S_a.enc.inj S_a.enc.len f0 g0
  subst z0; rfl
 m:=fun n x=>m_b1 n x
 lay:=fun r args H=>((.int .i64 (r)),H)
def K_dV:Co where
 f:=37
 X:=(Sl S_a) × (Sl S_a) × Int
 R:=(Sl S_a)
 rd:=fun ro H args x=>∃ (b0:Nat) (b1:Nat),args = [(vAgg [slV (x.1) b0]),(vAgg [slV (x.2.1) b1]),(.int .i64 (x.2.2))] ∧ SlH H S_a.c 72 (x.1) b0 ∧ SlH H S_a.c 72 (x.2.1) b1
 inj:=by
  rintro ro H args ⟨x0,x1,x2⟩ ⟨y0,y1,y2⟩ ⟨b0,b1,h,f0,f1⟩ ⟨db0,db1,h',g0,g1⟩
  rw [h] at h'; simp only [List.cons.injEq,and_true] at h'
  obtain ⟨e0,e1,e2⟩:=h'
  have z0:x0 = y0:=slV_inj (List.cons.inj (vAgg_inj e0)).1 S_a.enc.inj S_a.enc.len f0 g0
  have z1:x1 = y1:=slV_inj (List.cons.inj (vAgg_inj e1)).1 S_a.enc.inj S_a.enc.len f1 g1
  have z2:x2 = y2:=by injection e2
  subst z0 z1 z2; rfl
 m:=fun n x=>m_bH n (x.1) (x.2.1) (x.2.2)
 lay:=fun r args H=>((vAgg [slV r H.length]),(H ++ slB S_a.c 72 r))
def K_dw:Co where
 f:=40
 X:=(Sl S_a)
 R:=Int
 rd:=fun ro H args x=>∃ (b0:Nat),args = [(vAgg [slV x b0])] ∧ SlH H S_a.c 72 x b0
 inj:=by
  rintro ro H args x0 y0 ⟨b0,h,f0⟩ ⟨db0,h',g0⟩
  rw [h] at h'; simp only [List.cons.injEq,and_true] at h'
  have e0:=h'
  have z0:x0 = y0:=slV_inj (List.cons.inj (vAgg_inj e0)).1 S_a.enc.inj S_a.enc.len f0 g0
  subst z0; rfl
 m:=fun n x=>m_bw n x
 lay:=fun r args H=>((.int .i64 (r)),H)
def K_dt:Co where
 f:=51
 X:=Int
 R:=Int
 rd:=fun ro H args x=>args = [(.int .i64 x)]
 inj:=by
  rintro ro H args x0 y0 h h'
  rw [h] at h'; simp only [List.cons.injEq,and_true] at h'
  have e0:=h'
  have z0:x0 = y0:=by injection e0
  subst z0; rfl
 m:=fun n x=>m_bd n x
 lay:=fun r args H=>((.int .i64 (r)),H)
def K_dy:Co where
 f:=52
 X:=(Sl S_a) × Int
 R:=(Sl Int)
 rd:=fun ro H args x=>∃ (b0:Nat),args = [(vAgg [slV (x.1) b0]),(.int .i64 (x.2))] ∧ SlH H S_a.c 72 (x.1) b0
 inj:=by
  rintro ro H args ⟨x0,x1⟩ ⟨y0,y1⟩ ⟨b0,h,f0⟩ ⟨db0,h',g0⟩
  rw [h] at h'; simp only [List.cons.injEq,and_true] at h'
  obtain ⟨e0,e1⟩:=h'
  have z0:x0 = y0:=slV_inj (List.cons.inj (vAgg_inj e0)).1 S_a.enc.inj S_a.enc.len f0 g0
  have z1:x1 = y1:=by injection e1
  subst z0 z1; rfl
 m:=fun n x=>m_cc n (x.1) (x.2)
 lay:=fun r args H=>((slV r H.length),(H ++ slB (cInt .i64) 3 r))
def K_dj:Co where
 f:=55
 X:=Nat × Int
 R:=Bool
 rd:=fun ro H args x=>args = [(.float .f64 (x.1)),(.int .i64 (x.2))]
 inj:=by
  rintro ro H args ⟨x0,x1⟩ ⟨y0,y1⟩ h h'
  rw [h] at h'; simp only [List.cons.injEq,and_true] at h'
  obtain ⟨e0,e1⟩:=h'
  have z0:x0 = y0:=by injection e0
  have z1:x1 = y1:=by injection e1
  subst z0 z1; rfl
 m:=fun n x=>m_b3 n (x.1) (x.2)
 lay:=fun r args H=>((.bool (r)),H)
def K_dU:Co where
 f:=56
 X:=Int
 R:=Nat
 rd:=fun ro H args x=>args = [(.int .i64 x)]
 inj:=by
  rintro ro H args x0 y0 h h'
  rw [h] at h'; simp only [List.cons.injEq,and_true] at h'
  have e0:=h'
  have z0:x0 = y0:=by injection e0
  subst z0; rfl
 m:=fun n x=>m_cZ n x
 lay:=fun r args H=>((.float .f64 (r)),H)
def K_dv:Co where
 f:=62
 X:=(Sl S_a)
 R:=(Sl Int) × Bool
 rd:=fun ro H args x=>∃ (b0:Nat),args = [(vAgg [slV x b0])] ∧ SlH H S_a.c 72 x b0
 inj:=by
  rintro ro H args x0 y0 ⟨b0,h,f0⟩ ⟨db0,h',g0⟩
  rw [h] at h'; simp only [List.cons.injEq,and_true] at h'
  have e0:=h'
  have z0:x0 = y0:=slV_inj (List.cons.inj (vAgg_inj e0)).1 S_a.enc.inj S_a.enc.len f0 g0
  subst z0; rfl
 m:=fun n x=>m_M n x
 lay:=fun r args H=>((.tuple [(slV r.1 H.length),(.bool (r.2))].toArray),(H ++ slB (cInt .i64) 3 r.1))
def K_c7:Co where
 f:=63
 X:=(Sl S_a)
 R:=(Sl Int)
 rd:=fun ro H args x=>∃ (b0:Nat),args = [(vAgg [slV x b0])] ∧ SlH H S_a.c 72 x b0
 inj:=by
  rintro ro H args x0 y0 ⟨b0,h,f0⟩ ⟨db0,h',g0⟩
  rw [h] at h'; simp only [List.cons.injEq,and_true] at h'
  have e0:=h'
  have z0:x0 = y0:=slV_inj (List.cons.inj (vAgg_inj e0)).1 S_a.enc.inj S_a.enc.len f0 g0
  subst z0; rfl
 m:=fun n x=>m_bC n x
 lay:=fun r args H=>((slV r H.length),(H ++ slB (cInt .i64) 3 r))
def K_c9:Co where
 f:=64
 X:=(Sl S_a)
 R:=Int
 rd:=fun ro H args x=>∃ (b0:Nat),args = [(vAgg [slV x b0])] ∧ SlH H S_a.c 72 x b0
 inj:=by
  rintro ro H args x0 y0 ⟨b0,h,f0⟩ ⟨db0,h',g0⟩
  rw [h] at h'; simp only [List.cons.injEq,and_true] at h'
  have e0:=h'
  have z0:x0 = y0:=slV_inj (List.cons.inj (vAgg_inj e0)).1 S_a.enc.inj S_a.enc.len f0 g0
  subst z0; rfl
 m:=fun n x=>m_bB n x
 lay:=fun r args H=>((.int .i64 (r)),H)
def K_dK:Co where
 f:=65
 X:=(Sl S_a)
 R:=(Sl Int) × (Sl Int)
 rd:=fun ro H args x=>∃ (b0:Nat),args = [(vAgg [slV x b0])] ∧ SlH H S_a.c 72 x b0
 inj:=by
  rintro ro H args x0 y0 ⟨b0,h,f0⟩ ⟨db0,h',g0⟩
  rw [h] at h'; simp only [List.cons.injEq,and_true] at h'
  have e0:=h'
  have z0:x0 = y0:=slV_inj (List.cons.inj (vAgg_inj e0)).1 S_a.enc.inj S_a.enc.len f0 g0
  subst z0; rfl
 m:=fun n x=>m_b5 n x
 lay:=fun r args H=>((.tuple [(slV r.1 H.length),(slV r.2 (H.length + (slB (cInt .i64) 3 r.1).length))].toArray),(H ++ (slB (cInt .i64) 3 r.1 ++ slB (cInt .i64) 3 r.2)))
def K_dM:Co where
 f:=66
 X:=Int
 R:=Int
 rd:=fun ro H args x=>args = [(.int .i64 x)]
 inj:=by
  rintro ro H args x0 y0 h h'
  rw [h] at h'; simp only [List.cons.injEq,and_true] at h'
  have e0:=h'
  have z0:x0 = y0:=by injection e0
  subst z0; rfl
 m:=fun n x=>m_v n x
 lay:=fun r args H=>((.int .i64 (r)),H)
def K_cK:Co where
 f:=68
 X:=(Sl S_a)
 R:=Bool
 rd:=fun ro H args x=>∃ (b0:Nat),args = [(vAgg [slV x b0])] ∧ SlH H S_a.c 72 x b0
 inj:=by
  rintro ro H args x0 y0 ⟨b0,h,f0⟩ ⟨db0,h',g0⟩
  rw [h] at h'; simp only [List.cons.injEq,and_true] at h'
  have e0:=h'
  have z0:x0 = y0:=slV_inj (List.cons.inj (vAgg_inj e0)).1 S_a.enc.inj S_a.enc.len f0 g0
  subst z0; rfl
 m:=fun n x=>m_bo n x
 lay:=fun r args H=>((.bool (r)),H)
def K_cJ:Co where
 f:=79
 X:=S_a × Int
 R:=Int
 rd:=fun ro H args x=>args = [(vAgg (S_a.c (x.1))),(.int .i64 (x.2))]
 inj:=by
  rintro ro H args ⟨x0,x1⟩ ⟨y0,y1⟩ h h'
  rw [h] at h'; simp only [List.cons.injEq,and_true] at h'
  obtain ⟨e0,e1⟩:=h'
  have z0:x0 = y0:=S_a.enc.inj _ _ (vAgg_inj e0)
  have z1:x1 = y1:=by injection e1
  subst z0 z1; rfl
 m:=fun n x=>m_X n (x.1) (x.2)
 lay:=fun r args H=>((.int .i64 (r)),H)
def K_dN:Co where
 f:=84
 X:=Nat
 R:=Nat
 rd:=fun ro H args x=>args = [(.float .f64 x)]
 inj:=by
  rintro ro H args x0 y0 h h'
  rw [h] at h'; simp only [List.cons.injEq,and_true] at h'
  have e0:=h'
  have z0:x0 = y0:=by injection e0
  subst z0; rfl
 m:=fun n x=>m_dX n x
 lay:=fun r args H=>((.float .f64 (r)),H)
def K_co:Co where
 f:=97
 X:=S_a
 R:=Bool
 rd:=fun ro H args x=>args = [(vAgg (S_a.c x))]
 inj:=by
  rintro ro H args x0 y0 h h'
  rw [h] at h'; simp only [List.cons.injEq,and_true] at h'
  have e0:=h'
  have z0:x0 = y0:=S_a.enc.inj _ _ (vAgg_inj e0)
  subst z0; rfl
 m:=fun n x=>m_V n x
 lay:=fun r args H=>((.bool (r)),H)
def K_bI:Co where
 f:=98
 X:=(Sl Int)
 R:=Int
 rd:=fun ro H args x=>∃ (b0:Nat),args = [(slV x b0)] ∧ SlH H (cInt .i64) 3 x b0
 inj:=by
  rintro ro H args x0 y0 ⟨b0,h,f0⟩ ⟨db0,h',g0⟩
  rw [h] at h'; simp only [List.cons.injEq,and_true] at h'
  have e0:=h'
  have z0:x0 = y0:=slV_inj e0 enc_int.inj enc_int.len f0 g0
  subst z0; rfl
 m:=fun n x=>m_T n x
 lay:=fun r args H=>((.int .i64 (r)),H)
def K_dS:Co where
 f:=99
 X:=Int × Int
 R:=Int
 rd:=fun ro H args x=>args = [(.int .i64 (x.1)),(.int .i64 (x.2))]
 inj:=by
  rintro ro H args ⟨x0,x1⟩ ⟨y0,y1⟩ h h'
  rw [h] at h'; simp only [List.cons.injEq,and_true] at h'
  obtain ⟨e0,e1⟩:=h'
  have z0:x0 = y0:=by injection e0
  have z1:x1 = y1:=by injection e1
  subst z0 z1; rfl
 m:=fun n x=>m_bq n (x.1) (x.2)
 lay:=fun r args H=>((.int .i64 (r)),H)
def K_dC:Co where
 f:=100
 X:=Int × Int
 R:=Int
 rd:=fun ro H args x=>args = [(.int .i64 (x.1)),(.int .i64 (x.2))]
 inj:=by
  rintro ro H args ⟨x0,x1⟩ ⟨y0,y1⟩ h h'
  rw [h] at h'; simp only [List.cons.injEq,and_true] at h'
  obtain ⟨e0,e1⟩:=h'
  have z0:x0 = y0:=by injection e0
  have z1:x1 = y1:=by injection e1
  subst z0 z1; rfl
 m:=fun n x=>m_bc n (x.1) (x.2)
 lay:=fun r args H=>((.int .i64 (r)),H)
def K_ck:Co where
 f:=102
 X:=Int × (Sl Int)
 R:=Int
 rd:=fun ro H args x=>∃ (b1:Nat) (s1:Nat),args = [(.int .i64 (x.1)),(.pointer (some ⟨b1,0,none⟩))] ∧ H[b1]? = some (.cells [slV (x.2) s1] 100) ∧ SlH H (cInt .i64) 3 (x.2) s1
 inj:=by
  rintro ro H args ⟨x0,x1⟩ ⟨y0,y1⟩ ⟨b1,s1,h,f0,f1⟩ ⟨db1,ds1,h',g0,g1⟩
  rw [h] at h'; simp only [List.cons.injEq,and_true] at h'
  obtain ⟨e0,e1⟩:=h'
  have z0:x0 = y0:=by injection e0
  have z1:x1 = y1:=by
   have e:b1 = db1:=by injection e1 with e; injection e with e; injection e
   subst e
   have q:slV x1 s1 = slV y1 ds1:=by have q:=f0.symm.trans g0; simpa using q
   exact slV_inj q enc_int.inj enc_int.len f1 g1
  subst z0 z1; rfl
 m:=fun n x=>m_bh n (x.1) (x.2)
 lay:=fun r args H=>((.int .i64 (r)),H)
def K_cj:Co where
 f:=104
 X:=Int × Int × (Sl Int) × (Sl Int)
 R:=Int
 rd:=fun ro H args x=>∃ (d2:Nat) (b2:Nat) (s2:Nat) (b3:Nat) (s3:Nat),args = [(.int .i64 (x.1)),(.int .i64 (x.2.1)),(.pointer (some ⟨d2,0,none⟩)),(.pointer (some ⟨b3,0,none⟩))] ∧ H[d2]? = some (.cells [.func (.func 102) [].toArray [(.pointer (some ⟨b2,0,none⟩))].toArray] 99) ∧ H[b2]? = some (.cells [slV (x.2.2.1) s2] 100) ∧ SlH H (cInt .i64) 3 (x.2.2.1) s2 ∧ H[b3]? = some (.cells [slV (x.2.2.2) s3] 100) ∧ SlH H (cInt .i64) 3 (x.2.2.2) s3
 inj:=by
  rintro ro H args ⟨x0,x1,x2,x3⟩ ⟨y0,y1,y2,y3⟩ ⟨d2,b2,s2,b3,s3,h,f0,f1,f2,f3,f4⟩ ⟨dd2,db2,ds2,db3,ds3,h',g0,g1,g2,g3,g4⟩
  rw [h] at h'; simp only [List.cons.injEq,and_true] at h'
  obtain ⟨e0,e1,e2,e3⟩:=h'
  have z0:x0 = y0:=by injection e0
  have z1:x1 = y1:=by injection e1
  have z2:x2 = y2:=by
   have e:d2 = dd2:=by injection e2 with e; injection e with e; injection e
   subst e
   have e:b2 = db2:=by have q:=f0.symm.trans g0; simpa using q
   subst e
   have q:slV x2 s2 = slV y2 ds2:=by have q:=f1.symm.trans g1; simpa using q
   exact slV_inj q enc_int.inj enc_int.len f2 g2
  have z3:x3 = y3:=by
   have e:b3 = db3:=by injection e3 with e; injection e with e; injection e
   subst e
   have q:slV x3 s3 = slV y3 ds3:=by have q:=f3.symm.trans g3; simpa using q
   exact slV_inj q enc_int.inj enc_int.len f4 g4
  subst z0 z1 z2 z3; rfl
 m:=fun n x=>m_l n (x.1) (x.2.1) (x.2.2.1) (x.2.2.2)
 lay:=fun r args H=>((.int .i64 (r)),H)
def K_cl:Co where
 f:=105
 X:=S_a × (Sl Int)
 R:=Bool
 rd:=fun ro H args x=>∃ (b1:Nat) (s1:Nat),args = [(vAgg (S_a.c (x.1))),(.pointer (some ⟨b1,0,none⟩))] ∧ H[b1]? = some (.cells [slV (x.2) s1] 100) ∧ SlH H (cInt .i64) 3 (x.2) s1
 inj:=by
  rintro ro H args ⟨x0,x1⟩ ⟨y0,y1⟩ ⟨b1,s1,h,f0,f1⟩ ⟨db1,ds1,h',g0,g1⟩
  rw [h] at h'; simp only [List.cons.injEq,and_true] at h'
  obtain ⟨e0,e1⟩:=h'
  have z0:x0 = y0:=S_a.enc.inj _ _ (vAgg_inj e0)
  have z1:x1 = y1:=by
   have e:b1 = db1:=by injection e1 with e; injection e with e; injection e
   subst e
   have q:slV x1 s1 = slV y1 ds1:=by have q:=f0.symm.trans g0; simpa using q
   exact slV_inj q enc_int.inj enc_int.len f1 g1
  subst z0 z1; rfl
 m:=fun n x=>m_2 n (x.1) (x.2)
 lay:=fun r args H=>((.bool (r)),H)
def K_bj:Co where
 f:=106
 X:=(Sl S_a) × (Sl Int)
 R:=Bool
 rd:=fun ro H args x=>∃ (b0:Nat) (b1:Nat) (s1:Nat),args = [(slV (x.1) b0),(.func (.func 105) [].toArray [(.pointer (some ⟨b1,0,none⟩))].toArray)] ∧ SlH H S_a.c 72 (x.1) b0 ∧ H[b1]? = some (.cells [slV (x.2) s1] 100) ∧ SlH H (cInt .i64) 3 (x.2) s1
 inj:=by
  rintro ro H args ⟨x0,x1⟩ ⟨y0,y1⟩ ⟨b0,b1,s1,h,f0,f1,f2⟩ ⟨db0,db1,ds1,h',g0,g1,g2⟩
  rw [h] at h'; simp only [List.cons.injEq,and_true] at h'
  obtain ⟨e0,e1⟩:=h'
  have z0:x0 = y0:=slV_inj e0 S_a.enc.inj S_a.enc.len f0 g0
  have z1:x1 = y1:=by
   have e:b1 = db1:=by simpa using e1
   subst e
   have q:slV x1 s1 = slV y1 ds1:=by have q:=f1.symm.trans g1; simpa using q
   exact slV_inj q enc_int.inj enc_int.len f2 g2
  subst z0 z1; rfl
 m:=fun n x=>m_w n (x.1) (x.2)
 lay:=fun r args H=>((.bool (r)),H)
def K_cx:Co where
 f:=124
 X:=S_a
 R:=S_a
 rd:=fun ro H args x=>args = [(vAgg (S_a.c x))]
 inj:=by
  rintro ro H args x0 y0 h h'
  rw [h] at h'; simp only [List.cons.injEq,and_true] at h'
  have e0:=h'
  have z0:x0 = y0:=S_a.enc.inj _ _ (vAgg_inj e0)
  subst z0; rfl
 m:=fun n x=>m_bT n x
 lay:=fun r args H=>((vAgg (S_a.c (r))),H)
def K_bl:Co where
 f:=138
 X:=(Sl S_a) × (Sl Int)
 R:=Int
 rd:=fun ro H args x=>∃ (b0:Nat) (b1:Nat) (s1:Nat),args = [(slV (x.1) b0),(.func (.func 105) [].toArray [(.pointer (some ⟨b1,0,none⟩))].toArray)] ∧ SlH H S_a.c 72 (x.1) b0 ∧ H[b1]? = some (.cells [slV (x.2) s1] 100) ∧ SlH H (cInt .i64) 3 (x.2) s1
 inj:=by
  rintro ro H args ⟨x0,x1⟩ ⟨y0,y1⟩ ⟨b0,b1,s1,h,f0,f1,f2⟩ ⟨db0,db1,ds1,h',g0,g1,g2⟩
  rw [h] at h'; simp only [List.cons.injEq,and_true] at h'
  obtain ⟨e0,e1⟩:=h'
  have z0:x0 = y0:=slV_inj e0 S_a.enc.inj S_a.enc.len f0 g0
  have z1:x1 = y1:=by
   have e:b1 = db1:=by simpa using e1
   subst e
   have q:slV x1 s1 = slV y1 ds1:=by have q:=f1.symm.trans g1; simpa using q
   exact slV_inj q enc_int.inj enc_int.len f2 g2
  subst z0 z1; rfl
 m:=fun n x=>m_0 n (x.1) (x.2)
 lay:=fun r args H=>((.int .i64 (r)),H)
def K_cN:Co where
 f:=25
 X:=Unit
 R:=Bool
 rd:=fun ro H args x=>args = [] ∧ TabH1 H
 inj:=by
  intros; rfl
 m:=fun n x=>m_bN n
 lay:=fun r args H=>((.bool (r)),H)
def K_cy:Co where
 f:=125
 X:=S_a
 R:=S_a
 rd:=fun ro H args x=>args = [(vAgg (S_a.c x))]
 inj:=by
  rintro ro H args x0 y0 h h'
  rw [h] at h'; simp only [List.cons.injEq,and_true] at h'
  have e0:=h'
  have z0:x0 = y0:=S_a.enc.inj _ _ (vAgg_inj e0)
  subst z0; rfl
 m:=fun n x=>m_b4 n x
 lay:=fun r args H=>((vAgg (S_a.c (r))),H)
def T:FuncId → Option Co
 | 10=>some K_bY
 | 18=>some K_ds
 | 20=>some K_da
 | 22=>some K_cL
 | 32=>some K_dP
 | 33=>some K_dR
 | 36=>some K_dl
 | 37=>some K_dV
 | 40=>some K_dw
 | 51=>some K_dt
 | 52=>some K_dy
 | 55=>some K_dj
 | 56=>some K_dU
 | 62=>some K_dv
 | 63=>some K_c7
 | 64=>some K_c9
 | 65=>some K_dK
 | 66=>some K_dM
 | 68=>some K_cK
 | 79=>some K_cJ
 | 84=>some K_dN
 | 97=>some K_co
 | 98=>some K_bI
 | 99=>some K_dS
 | 100=>some K_dC
 | 102=>some K_ck
 | 104=>some K_cj
 | 105=>some K_cl
 | 106=>some K_bj
 | 124=>some K_cx
 | 138=>some K_bl
 | 25=>some K_cN
 | 125=>some K_cy
 | 103=>some K_P
 | _=>none
theorem srt_len {cf:Int → Int → Int} {l:List Int}:(srt cf l).length = l.length:=List.length_mergeSort _
theorem z_cP {n:Nat}:A_bS (tabC T n) (m_h n):=fun ro nb H x0 b0 x1 d1 b1 s1 r hro h0 f1 f2 f3 n1 n2 n3 hm=>by
 have h:=ans_tab (T:=T) (n:=n) (k:=K_P) rfl ro H _ (x0,x1) r ⟨b0,d1,b1,s1,rfl,h0.weak hro,f1,f2,f3,n1,n2,n3⟩ hm
 refine ⟨_,h,?_⟩
 cases x0 with
 | none =>
  obtain rfl:=m103_none hm
  exact ⟨h0,⟨rfl,fun _ _=>rfl⟩,fun _=>rfl,rfl,rfl⟩
 | some l =>
  obtain ⟨k,rfl,_,_,_,_,rfl⟩:=m103_some hm
  obtain ⟨g1,g2⟩:=h0 l rfl
  refine ⟨fun l' hl'=>?_,⟨?_,fun x hx=>?_⟩,fun b=>?_,by simp,?_⟩
  ·injection hl' with hl'; subst hl'; exact ⟨g1,get_set g2⟩
  ·simp [K_P]
  ·exact List.getElem?_set_ne (fun e=>hx (by simp) e.symm)
  ·simp only [slV,srt_len]
  ·simp only [Sl.l,srt_len]
theorem alias18 {n:Nat} {x0 r:Sl S_a} {x1:Int} (h:m_bx n x0 x1 = some r):(r ≠ none → x0 ≠ none) ∧ ∀ (H:Hp) (b:Nat),SlH H S_a.c 72 x0 b → SlH H S_a.c 72 r b:=by
 cases n with
 | zero=>cases h
 | succ n =>
  simp only [m_bx,b_cd,Option.bind_eq_some_iff,Option.some.injEq] at h
  obtain ⟨y,hy,rfl⟩:=h
  exact ⟨Sl.upto_none hy,fun H b hs=>hs.upto hy⟩
theorem z_fs {n:Nat}:A_er (tabC T n) (m_bx n):=fun ro H x0 b0 x1 r f0 hm=>⟨by
 have h:=ans_tab (T:=T) (n:=n) (k:=K_ds) rfl ro H _ ⟨x0,x1⟩ r ⟨b0,rfl,f0⟩ hm
 cases x0 with
 | none =>
  obtain rfl:r = none:=Classical.byContradiction fun hr=>(alias18 hm).1 hr rfl
  exact h
 | some l=>exact h,alias18 hm⟩
theorem z_d1 {n:Nat}:A_de (tabC T n) (m_B n):=fun ro H x0 b0 x1 r f0 hm=>ans_tab (k:=K_da) rfl ro H _ ⟨x0,x1⟩ r ⟨b0,rfl,f0⟩ hm
theorem z_eY {n:Nat}:A_d4 (tabC T n) (m_bL n):=fun ro H x0 b0 x1 r f0 hm=>ans_tab (k:=K_cL) rfl ro H _ ⟨x0,x1⟩ r ⟨b0,rfl,f0⟩ hm
theorem z_fA {n:Nat}:A_eK (tabC T n) (m_b8 n):=fun ro H x0 b0 r f0 hm=>ans_tab (k:=K_dP) rfl ro H _ x0 r ⟨b0,rfl,f0⟩ hm
theorem z_fT {n:Nat}:A_eF (tabC T n) (m_cp n):=fun ro H x0 b0 x1 r f0 hm=>ans_tab (k:=K_dR) rfl ro H _ ⟨x0,x1⟩ r ⟨b0,rfl,f0⟩ hm
theorem z_e9 {n:Nat}:A_ec (tabC T n) (m_b1 n):=fun ro H x0 b0 r f0 hm=>ans_tab (k:=K_dl) rfl ro H _ x0 r ⟨b0,rfl,f0⟩ hm
theorem z_fI {n:Nat}:A_eQ (tabC T n) (m_bH n):=fun ro H x0 b0 x1 b1 x2 r f0 f1 hm=>ans_tab (k:=K_dV) rfl ro H _ ⟨x0,x1,x2⟩ r ⟨b0,b1,rfl,f0,f1⟩ hm
theorem z_fw {n:Nat}:A_em (tabC T n) (m_bw n):=fun ro H x0 b0 r f0 hm=>ans_tab (k:=K_dw) rfl ro H _ x0 r ⟨b0,rfl,f0⟩ hm
theorem z_ef {n:Nat}:A_dz (tabC T n) (m_bd n):=fun ro H x0 r hm=>ans_tab (k:=K_dt) rfl ro H _ x0 r rfl hm
theorem z_fz {n:Nat}:A_eq (tabC T n) (m_cc n):=fun ro H x0 b0 x1 r f0 hm=>ans_tab (k:=K_dy) rfl ro H _ ⟨x0,x1⟩ r ⟨b0,rfl,f0⟩ hm
theorem z_ff {n:Nat}:A_ea (tabC T n) (m_b3 n):=fun ro H x0 x1 r hm=>ans_tab (k:=K_dj) rfl ro H _ ⟨x0,x1⟩ r rfl hm
theorem z_fJ {n:Nat}:A_eM (tabC T n) (m_cZ n):=fun ro H x0 r hm=>ans_tab (k:=K_dU) rfl ro H _ x0 r rfl hm
theorem z_df {n:Nat}:A_cB (tabC T n) (m_M n):=fun ro H x0 b0 r f0 hm=>ans_tab (k:=K_dv) rfl ro H _ x0 r ⟨b0,rfl,f0⟩ hm
theorem z_d0 {n:Nat}:A_c8 (tabC T n) (m_bC n):=fun ro H x0 b0 r f0 hm=>ans_tab (k:=K_c7) rfl ro H _ x0 r ⟨b0,rfl,f0⟩ hm
theorem z_fn {n:Nat}:A_eg (tabC T n) (m_bB n):=fun ro H x0 b0 r f0 hm=>ans_tab (k:=K_c9) rfl ro H _ x0 r ⟨b0,rfl,f0⟩ hm
theorem z_fS {n:Nat}:A_eT (tabC T n) (m_b5 n):=fun ro H x0 b0 r f0 hm=>ans_tab (k:=K_dK) rfl ro H _ x0 r ⟨b0,rfl,f0⟩ hm
theorem z_du {n:Nat}:A_c0 (tabC T n) (m_v n):=fun ro H x0 r hm=>ans_tab (k:=K_dM) rfl ro H _ x0 r rfl hm
theorem z_eW {n:Nat}:A_dY (tabC T n) (m_bo n):=fun ro H x0 b0 r f0 hm=>ans_tab (k:=K_cK) rfl ro H _ x0 r ⟨b0,rfl,f0⟩ hm
theorem z_eU {n:Nat}:A_d3 (tabC T n) (m_X n):=fun ro H x0 x1 r hm=>ans_tab (k:=K_cJ) rfl ro H _ ⟨x0,x1⟩ r rfl hm
theorem z_fC {n:Nat}:A_eS (tabC T n) (m_dX n):=fun ro H x0 r hm=>ans_tab (k:=K_dN) rfl ro H _ x0 r rfl hm
theorem z_ez {n:Nat}:A_dq (tabC T n) (m_V n):=fun ro H x0 r hm=>ans_tab (k:=K_co) rfl ro H _ x0 r rfl hm
theorem z_dF {n:Nat}:A_cr (tabC T n) (m_T n):=fun ro H x0 b0 r f0 hm=>ans_tab (k:=K_bI) rfl ro H _ x0 r ⟨b0,rfl,f0⟩ hm
theorem z_fM {n:Nat}:A_eL (tabC T n) (m_bq n):=fun ro H x0 x1 r hm=>ans_tab (k:=K_dS) rfl ro H _ ⟨x0,x1⟩ r rfl hm
theorem z_fu {n:Nat}:A_ep (tabC T n) (m_bc n):=fun ro H x0 x1 r hm=>ans_tab (k:=K_dC) rfl ro H _ ⟨x0,x1⟩ r rfl hm
theorem z_ei {n:Nat}:A_c6 (tabC T n) (m_bh n):=fun ro H x0 x1 b1 s1 r f0 f1 hm=>ans_tab (k:=K_ck) rfl ro H _ ⟨x0,x1⟩ r ⟨b1,s1,rfl,f0,f1⟩ hm
theorem z_ek {n:Nat}:A_es (tabC T n) (m_l n):=fun ro H x0 x1 x2 d2 b2 s2 x3 b3 s3 r f0 f1 f2 f3 f4 hm=>ans_tab (k:=K_cj) rfl ro H _ ⟨x0,x1,x2,x3⟩ r ⟨d2,b2,s2,b3,s3,rfl,f0,f1,f2,f3,f4⟩ hm
theorem z_eh {n:Nat}:A_c5 (tabC T n) (m_2 n):=fun ro H x0 x1 b1 s1 r f0 f1 hm=>ans_tab (k:=K_cl) rfl ro H _ ⟨x0,x1⟩ r ⟨b1,s1,rfl,f0,f1⟩ hm
theorem z_dh {n:Nat}:A_cb (tabC T n) (m_w n):=fun ro H x0 b0 x1 b1 s1 r f0 f1 f2 hm=>ans_tab (k:=K_bj) rfl ro H _ ⟨x0,x1⟩ r ⟨b0,b1,s1,rfl,f0,f1,f2⟩ hm
theorem z_ew {n:Nat}:A_dp (tabC T n) (m_bT n):=fun ro H x0 r hm=>ans_tab (k:=K_cx) rfl ro H _ x0 r rfl hm
theorem z_dg {n:Nat}:A_ca (tabC T n) (m_0 n):=fun ro H x0 b0 x1 b1 s1 r f0 f1 f2 hm=>ans_tab (k:=K_bl) rfl ro H _ ⟨x0,x1⟩ r ⟨b0,b1,s1,rfl,f0,f1,f2⟩ hm
theorem z_e0 {n:Nat}:A_dZ (tabC T n) (m_bN n):=fun ro H  r f0 hm=>ans_tab (k:=K_cN) rfl ro H _ () r ⟨rfl,f0⟩ hm
theorem z_eR {n:Nat}:A_dE (tabC T n) (m_b4 n):=fun ro H x0 r hm=>ans_tab (k:=K_cy) rfl ro H _ x0 r rfl hm
end
end Go.Proofs.YtaadjlpfdajggaaGreatDoor
