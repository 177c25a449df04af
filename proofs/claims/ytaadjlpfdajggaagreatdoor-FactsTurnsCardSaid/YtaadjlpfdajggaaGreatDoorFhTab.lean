import Derived.Test.YtaadjlpfdajggaaGreatDoorFhV0
import Derived.Test.YtaadjlpfdajggaaGreatDoorFhV1
import Derived.Test.YtaadjlpfdajggaaGreatDoorFhV2
import Derived.Test.YtaadjlpfdajggaaGreatDoorFhAm25
set_option maxRecDepth 100000
set_option linter.unusedVariables false
set_option linter.unusedSimpArgs false
namespace Go.Proofs.YtaadjlpfdajggaaGreatDoor
open Go Go.AM
noncomputable section
def m_cR:Nat → Option (Bool)
 | 0=>none
 | _ + 1=>some true
def m_cH:Nat → S_b → Option (S_b)
 | 0,_=>none
 | _ + 1,x0=>some (ownS x0)
def m_bY:Nat → (Sl S_b) → Int → Option ((Sl S_b))
 | 0,_,_=>none
 | n + 1,x0,x1=>b_cN n x0 x1
def m_bx:Nat → Int → Option (Int)
 | 0,_=>none
 | n + 1,x0=>b_dN n x0
def m_ct:Nat → S_b → Option (S_b)
 | 0,_=>none
 | n + 1,x0=>b_cs n x0
def m_9:Nat → S_b → Option (Bool)
 | 0,_=>none
 | n + 1,x0=>b_cq (m_ct n) (m_cH n) n x0
def m_2:Nat → (Sl S_b) → Option ((Sl Int) × Bool)
 | 0,_=>none
 | n + 1,x0=>b_dl (m_bx n) (m_9 n) n x0
def m_b3:Nat → (Sl S_b) → Option ((Sl Int))
 | 0,_=>none
 | n + 1,x0=>b_c8 (m_bx n) n x0
def m_bb:Nat → (Sl Int) → Option (Int)
 | 0,_=>none
 | n + 1,x0=>b_bv n x0
def m_b1:Nat → (Sl S_b) → Option (Int)
 | 0,_=>none
 | n + 1,x0=>b_c1 (m_2 n) (m_b3 n) (m_bb n) n x0
def m_bP:Nat → Int → Int → Option (Int)
 | 0,_,_=>none
 | n + 1,x0,x1=>b_dJ n x0 x1
def m_by:Nat → Int → Int → Option (Int)
 | 0,_,_=>none
 | n + 1,x0,x1=>b_dm n x0 x1
def m_cC:Nat → (Sl S_b) → Option ((Sl Int) × (Sl Int))
 | 0,_=>none
 | n + 1,x0=>b_dI (m_bP n) (m_by n) n x0
def m_bF:Nat → Int → (Sl Int) → Option (Int)
 | 0,_,_=>none
 | n + 1,x0,x1=>b_cc n x0 x1
def m_w:Nat → Int → Int → (Sl Int) → (Sl Int) → Option (Int)
 | 0,_,_,_,_=>none
 | n + 1,x0,x1,x2,x3=>b_b9 (m_bF n) n x0 x1 x2 x3
def m_o:Nat → Sl Int → Sl Int → Option (Sl Int)
 | 0,_,_=>none
 | _ + 1,none,_=>some none
 | n + 1,some l,x1=>open Classical in
  if l ≠ [] ∧ l.length < 4611686018427387904 ∧ (∀ x ∈ l,∀ y ∈ l,m_w n x y x1 x1 ≠ none) ∧ OrdOn (ltC fun x y=>(m_w n x y x1 x1).getD 0) l then some (some (srt (fun x y=>(m_w n x y x1 x1).getD 0) l)) else none
theorem m103_some {n:Nat} {l:List Int} {x1 r:Sl Int} (h:m_o n (some l) x1 = some r):∃ k,n = k + 1 ∧ l ≠ [] ∧ l.length < 4611686018427387904 ∧ (∀ x ∈ l,∀ y ∈ l,m_w k x y x1 x1 ≠ none) ∧ OrdOn (ltC fun x y=>(m_w k x y x1 x1).getD 0) l ∧ r = some (srt (fun x y=>(m_w k x y x1 x1).getD 0) l):=by
 cases n with
 | zero=>simp [m_o] at h
 | succ n =>
  simp only [m_o] at h
  split at h
  ·rename_i hc; injection h with h; exact ⟨n,rfl,hc.1,hc.2.1,hc.2.2.1,hc.2.2.2,h.symm⟩
  ·cases h
theorem m103_none {n:Nat} {x1 r:Sl Int} (h:m_o n none x1 = some r):r = none:=by
 cases n with
 | zero=>simp [m_o] at h
 | succ n=>simp only [m_o,Option.some.injEq] at h; exact h.symm
def m_bj:Nat → S_b → (Sl Int) → Option (Bool)
 | 0,_,_=>none
 | n + 1,x0,x1=>b_ca n x0 x1
def m_bf:Nat → (Sl S_b) → (Sl Int) → Option (Int)
 | 0,_,_=>none
 | n + 1,x0,x1=>b_bd (m_bj n) n x0 x1
def m_H:Nat → (Sl S_b) → (Sl Int) → Option (Bool)
 | 0,_,_=>none
 | n + 1,x0,x1=>b_bg (m_bf n) n x0 x1
def m_bO:Nat → (Sl S_b) → Option (Bool)
 | 0,_=>none
 | n + 1,x0=>b_cQ (m_2 n) (m_o n) (m_H n) n x0
def m_cO:Nat → (Sl S_b) → Option (Int)
 | 0,_=>none
 | n + 1,x0=>b_do (m_b1 n) (m_cC n) (m_bO n) n x0
def m_bQ:Nat → Int → Option (Int)
 | 0,_=>none
 | n + 1,x0=>b_4 n x0
def m_bU:Nat → S_d → Option (Int)
 | 0,_=>none
 | n + 1,x0=>b_cm (m_bQ n) n x0
def m_Q:Nat → Int → Option (Int)
 | 0,_=>none
 | n + 1,x0=>b_bl n x0
def m_T:Nat → S_d → Option (Int × Bool)
 | 0,_=>none
 | n + 1,x0=>b_Y (m_Q n) n x0
def m_P:Nat → S_d → Option (S_a)
 | 0,_=>none
 | n + 1,x0=>b_ce (m_bU n) (m_T n) n x0
def m_Z:Nat → Option (S_a)
 | 0=>none
 | n + 1=>b_da n
def m_cZ:Nat → S_d → Option (S_d)
 | 0,_=>none
 | n + 1,x0=>b_c3 n x0
def m_bA:Nat → Option (S_d)
 | 0=>none
 | n + 1=>b_em (m_cZ n) n
def m_bC:Nat → S_d → S_d → Option (S_d)
 | 0,_,_=>none
 | n + 1,x0,x1=>b_dd n x0 x1
def m_bt:Nat → S_a → Option (S_a)
 | 0,_=>none
 | n + 1,x0=>b_b0 n x0
def m_bz:Nat → S_a → S_a → Option (S_a)
 | 0,_,_=>none
 | n + 1,x0,x1=>b_dt (m_bC n) (m_bt n) n x0 x1
def m_bB:Nat → S_a → S_a → Option (S_a)
 | 0,_,_=>none
 | n + 1,x0,x1=>b_dk (m_bC n) n x0 x1
def m_6:Nat → S_b → S_a → Option (S_a)
 | 0,_,_=>none
 | n + 1,x0,x1=>b_cI (m_Z n) n x0 x1
def m_cP:Nat → (Sl S_b) → Option ((Sl S_a))
 | 0,_=>none
 | n + 1,x0=>b_dq (m_P n) (m_Z n) (m_bA n) (m_bz n) (m_bB n) (m_6 n) n x0
def m_bV:Nat → (Sl S_b) → Option (S_c × Int)
 | 0,_=>none
 | n + 1,x0=>b_dM (m_cO n) (m_cP n) n x0
def m_cE:Nat → (Sl S_b) → Option (Int)
 | 0,_=>none
 | n + 1,x0=>b_dG (m_2 n) (m_b3 n) n x0
def m_cG:Nat → (Sl S_b) → S_b → Option ((Sl S_b))
 | 0,_,_=>none
 | n + 1,x0,x1=>b_dK n x0 x1
def m_cz:Nat → (Sl S_b) → Int → Option (Bool)
 | 0,_,_=>none
 | n + 1,x0,x1=>b_bT (m_bY n) (m_bV n) (m_cR n) (m_cE n) (m_cG n) n x0 x1
def K_7:Co where
 f:=103
 X:=Sl Int × Sl Int
 R:=Sl Int
 rd:=fun ro H args x=>∃ b0 d1 b1 s1,args = [slV x.1 b0,(.func (.func 104) [].toArray [(.pointer (some ⟨d1,0,none⟩)),(.pointer (some ⟨b1,0,none⟩))].toArray)] ∧ SlO ro H (cInt .i64) 3 x.1 b0 ∧ H[d1]? = some (.cells [.func (.func 102) [].toArray [(.pointer (some ⟨b1,0,none⟩))].toArray] 99) ∧ H[b1]? = some (.cells [slV x.2 s1] 100) ∧ SlH H (cInt .i64) 3 x.2 s1 ∧ (x.1 ≠ none → b0 ≠ d1) ∧ (x.1 ≠ none → b0 ≠ b1) ∧ (x.1 ≠ none → x.2 ≠ none → b0 ≠ s1)
 inj:=by
  rintro ro H args ⟨x0,x1⟩ ⟨y0,y1⟩ ⟨b0,d1,b1,s1,h,f0,f1,f2,f3,_⟩ ⟨c_gX,k1,c_gJ,u1,h',g0,g1,g2,g3,_⟩
  rw [h] at h'; simp only [List.cons.injEq,and_true] at h'
  obtain ⟨e0,e1⟩:=h'
  have z0:x0 = y0:=slV_inj e0 enc_int.inj enc_int.len f0.h g0.h
  have q:d1 = k1 ∧ b1 = c_gJ:=by simpa using e1
  obtain ⟨rfl,rfl⟩:=q
  have q:slV x1 s1 = slV y1 u1:=by have q:=f2.symm.trans g2; simpa using q
  have z1:x1 = y1:=slV_inj q enc_int.inj enc_int.len f3 g3
  subst z0 z1; rfl
 m:=fun n x=>m_o n x.1 x.2
 lay:=fun r args H=>(.tuple [].toArray,match r with | none=>H | some l=>H.set (blkOf (args.getD 0 default)) (.cells (l.flatMap (cInt .i64)) 3))
def K_cv:Co where
 f:=8
 X:=(Sl S_b) × Int
 R:=Bool
 rd:=fun ro H args x=>∃ (b0:Nat),args = [(vAgg [slV (x.1) b0]),(.int .u8 (x.2))] ∧ SlH H S_b.c 72 (x.1) b0 ∧ TabH1 H
 inj:=by
  rintro ro H args ⟨x0,x1⟩ ⟨y0,y1⟩ ⟨b0,h,f0,f1⟩ ⟨db0,h',g0,g1⟩
  rw [h] at h'; simp only [List.cons.injEq,and_true] at h'
  obtain ⟨e0,e1⟩:=h'
  have z0:x0 = y0:=slV_inj (List.cons.inj (vAgg_inj e0)).1 S_b.enc.inj S_b.enc.len f0 g0
  have z1:x1 = y1:=by injection e1
  subst z0 z1; rfl
 m:=fun n x=>m_cz n (x.1) (x.2)
 lay:=fun r args H=>((.bool (r)),H)
def K_ef:Co where
 f:=18
 X:=(Sl S_b) × Int
 R:=(Sl S_b)
 rd:=fun ro H args x=>∃ (b0:Nat),args = [(vAgg [slV (x.1) b0]),(.int .i64 (x.2))] ∧ SlH H S_b.c 72 (x.1) b0
 inj:=by
  rintro ro H args ⟨x0,x1⟩ ⟨y0,y1⟩ ⟨b0,h,f0⟩ ⟨db0,h',g0⟩
  rw [h] at h'; simp only [List.cons.injEq,and_true] at h'
  obtain ⟨e0,e1⟩:=h'
  have z0:x0 = y0:=slV_inj (List.cons.inj (vAgg_inj e0)).1 S_b.enc.inj S_b.enc.len f0 g0
  have z1:x1 = y1:=by injection e1
  subst z0 z1; rfl
 m:=fun n x=>m_bY n (x.1) (x.2)
 lay:=fun r args H=>((vAgg [slV r (blkA (args.getD 0 default))]),H)
def K_eD:Co where
 f:=26
 X:=(Sl S_b)
 R:=S_c × Int
 rd:=fun ro H args x=>∃ (b0:Nat),args = [(vAgg [slV x b0])] ∧ SlH H S_b.c 72 x b0 ∧ TabH1 H
 inj:=by
  rintro ro H args x0 y0 ⟨b0,h,f0,f1⟩ ⟨db0,h',g0,g1⟩
  rw [h] at h'; simp only [List.cons.injEq,and_true] at h'
  have e0:=h'
  have z0:x0 = y0:=slV_inj (List.cons.inj (vAgg_inj e0)).1 S_b.enc.inj S_b.enc.len f0 g0
  subst z0; rfl
 m:=fun n x=>m_bV n x
 lay:=fun r args H=>((.tuple [(vAgg (S_c.c (r.1))),(.int .i64 (r.2))].toArray),H)
def K_eG:Co where
 f:=32
 X:=(Sl S_b)
 R:=Int
 rd:=fun ro H args x=>∃ (b0:Nat),args = [(vAgg [slV x b0])] ∧ SlH H S_b.c 72 x b0
 inj:=by
  rintro ro H args x0 y0 ⟨b0,h,f0⟩ ⟨db0,h',g0⟩
  rw [h] at h'; simp only [List.cons.injEq,and_true] at h'
  have e0:=h'
  have z0:x0 = y0:=slV_inj (List.cons.inj (vAgg_inj e0)).1 S_b.enc.inj S_b.enc.len f0 g0
  subst z0; rfl
 m:=fun n x=>m_cE n x
 lay:=fun r args H=>((.int .i64 (r)),H)
def K_eF:Co where
 f:=33
 X:=(Sl S_b) × S_b
 R:=(Sl S_b)
 rd:=fun ro H args x=>∃ (b0:Nat),args = [(vAgg [slV (x.1) b0]),(vAgg (S_b.c (x.2)))] ∧ SlH H S_b.c 72 (x.1) b0
 inj:=by
  rintro ro H args ⟨x0,x1⟩ ⟨y0,y1⟩ ⟨b0,h,f0⟩ ⟨db0,h',g0⟩
  rw [h] at h'; simp only [List.cons.injEq,and_true] at h'
  obtain ⟨e0,e1⟩:=h'
  have z0:x0 = y0:=slV_inj (List.cons.inj (vAgg_inj e0)).1 S_b.enc.inj S_b.enc.len f0 g0
  have z1:x1 = y1:=S_b.enc.inj _ _ (vAgg_inj e1)
  subst z0 z1; rfl
 m:=fun n x=>m_cG n (x.1) (x.2)
 lay:=fun r args H=>((vAgg [slV r H.length]),(H ++ slB S_b.c 72 r))
def K_di:Co where
 f:=38
 X:=S_d × S_d
 R:=S_d
 rd:=fun ro H args x=>args = [(vAgg (S_d.c (x.1))),(vAgg (S_d.c (x.2)))]
 inj:=by
  rintro ro H args ⟨x0,x1⟩ ⟨y0,y1⟩ h h'
  rw [h] at h'; simp only [List.cons.injEq,and_true] at h'
  obtain ⟨e0,e1⟩:=h'
  have z0:x0 = y0:=S_d.enc.inj _ _ (vAgg_inj e0)
  have z1:x1 = y1:=S_d.enc.inj _ _ (vAgg_inj e1)
  subst z0 z1; rfl
 m:=fun n x=>m_bC n (x.1) (x.2)
 lay:=fun r args H=>((vAgg (S_d.c (r))),H)
def K_ei:Co where
 f:=40
 X:=(Sl S_b)
 R:=Int
 rd:=fun ro H args x=>∃ (b0:Nat),args = [(vAgg [slV x b0])] ∧ SlH H S_b.c 72 x b0
 inj:=by
  rintro ro H args x0 y0 ⟨b0,h,f0⟩ ⟨db0,h',g0⟩
  rw [h] at h'; simp only [List.cons.injEq,and_true] at h'
  have e0:=h'
  have z0:x0 = y0:=slV_inj (List.cons.inj (vAgg_inj e0)).1 S_b.enc.inj S_b.enc.len f0 g0
  subst z0; rfl
 m:=fun n x=>m_cO n x
 lay:=fun r args H=>((.int .i64 (r)),H)
def K_c5:Co where
 f:=44
 X:=S_d
 R:=Int
 rd:=fun ro H args x=>args = [(vAgg (S_d.c x))]
 inj:=by
  rintro ro H args x0 y0 h h'
  rw [h] at h'; simp only [List.cons.injEq,and_true] at h'
  have e0:=h'
  have z0:x0 = y0:=S_d.enc.inj _ _ (vAgg_inj e0)
  subst z0; rfl
 m:=fun n x=>m_bU n x
 lay:=fun r args H=>((.int .i64 (r)),H)
def K_ej:Co where
 f:=57
 X:=(Sl S_b)
 R:=(Sl S_a)
 rd:=fun ro H args x=>∃ (b0:Nat),args = [(vAgg [slV x b0])] ∧ SlH H S_b.c 72 x b0 ∧ TabH1 H
 inj:=by
  rintro ro H args x0 y0 ⟨b0,h,f0,f1⟩ ⟨db0,h',g0,g1⟩
  rw [h] at h'; simp only [List.cons.injEq,and_true] at h'
  have e0:=h'
  have z0:x0 = y0:=slV_inj (List.cons.inj (vAgg_inj e0)).1 S_b.enc.inj S_b.enc.len f0 g0
  subst z0; rfl
 m:=fun n x=>m_cP n x
 lay:=fun r args H=>((slV r H.length),(H ++ slB S_a.c 107 r))
def K_ep:Co where
 f:=62
 X:=(Sl S_b)
 R:=(Sl Int) × Bool
 rd:=fun ro H args x=>∃ (b0:Nat),args = [(vAgg [slV x b0])] ∧ SlH H S_b.c 72 x b0
 inj:=by
  rintro ro H args x0 y0 ⟨b0,h,f0⟩ ⟨db0,h',g0⟩
  rw [h] at h'; simp only [List.cons.injEq,and_true] at h'
  have e0:=h'
  have z0:x0 = y0:=slV_inj (List.cons.inj (vAgg_inj e0)).1 S_b.enc.inj S_b.enc.len f0 g0
  subst z0; rfl
 m:=fun n x=>m_2 n x
 lay:=fun r args H=>((.tuple [(slV r.1 H.length),(.bool (r.2))].toArray),(H ++ slB (cInt .i64) 3 r.1))
def K_dR:Co where
 f:=63
 X:=(Sl S_b)
 R:=(Sl Int)
 rd:=fun ro H args x=>∃ (b0:Nat),args = [(vAgg [slV x b0])] ∧ SlH H S_b.c 72 x b0
 inj:=by
  rintro ro H args x0 y0 ⟨b0,h,f0⟩ ⟨db0,h',g0⟩
  rw [h] at h'; simp only [List.cons.injEq,and_true] at h'
  have e0:=h'
  have z0:x0 = y0:=slV_inj (List.cons.inj (vAgg_inj e0)).1 S_b.enc.inj S_b.enc.len f0 g0
  subst z0; rfl
 m:=fun n x=>m_b3 n x
 lay:=fun r args H=>((slV r H.length),(H ++ slB (cInt .i64) 3 r))
def K_dX:Co where
 f:=64
 X:=(Sl S_b)
 R:=Int
 rd:=fun ro H args x=>∃ (b0:Nat),args = [(vAgg [slV x b0])] ∧ SlH H S_b.c 72 x b0
 inj:=by
  rintro ro H args x0 y0 ⟨b0,h,f0⟩ ⟨db0,h',g0⟩
  rw [h] at h'; simp only [List.cons.injEq,and_true] at h'
  have e0:=h'
  have z0:x0 = y0:=slV_inj (List.cons.inj (vAgg_inj e0)).1 S_b.enc.inj S_b.enc.len f0 g0
  subst z0; rfl
 m:=fun n x=>m_b1 n x
 lay:=fun r args H=>((.int .i64 (r)),H)
def K_eA:Co where
 f:=65
 X:=(Sl S_b)
 R:=(Sl Int) × (Sl Int)
 rd:=fun ro H args x=>∃ (b0:Nat),args = [(vAgg [slV x b0])] ∧ SlH H S_b.c 72 x b0
 inj:=by
  rintro ro H args x0 y0 ⟨b0,h,f0⟩ ⟨db0,h',g0⟩
  rw [h] at h'; simp only [List.cons.injEq,and_true] at h'
  have e0:=h'
  have z0:x0 = y0:=slV_inj (List.cons.inj (vAgg_inj e0)).1 S_b.enc.inj S_b.enc.len f0 g0
  subst z0; rfl
 m:=fun n x=>m_cC n x
 lay:=fun r args H=>((.tuple [(slV r.1 H.length),(slV r.2 (H.length + (slB (cInt .i64) 3 r.1).length))].toArray),(H ++ (slB (cInt .i64) 3 r.1 ++ slB (cInt .i64) 3 r.2)))
def K_ex:Co where
 f:=66
 X:=Int
 R:=Int
 rd:=fun ro H args x=>args = [(.int .i64 x)]
 inj:=by
  rintro ro H args x0 y0 h h'
  rw [h] at h'; simp only [List.cons.injEq,and_true] at h'
  have e0:=h'
  have z0:x0 = y0:=by injection e0
  subst z0; rfl
 m:=fun n x=>m_bx n x
 lay:=fun r args H=>((.int .i64 (r)),H)
def K_dx:Co where
 f:=68
 X:=(Sl S_b)
 R:=Bool
 rd:=fun ro H args x=>∃ (b0:Nat),args = [(vAgg [slV x b0])] ∧ SlH H S_b.c 72 x b0
 inj:=by
  rintro ro H args x0 y0 ⟨b0,h,f0⟩ ⟨db0,h',g0⟩
  rw [h] at h'; simp only [List.cons.injEq,and_true] at h'
  have e0:=h'
  have z0:x0 = y0:=slV_inj (List.cons.inj (vAgg_inj e0)).1 S_b.enc.inj S_b.enc.len f0 g0
  subst z0; rfl
 m:=fun n x=>m_bO n x
 lay:=fun r args H=>((.bool (r)),H)
def K_cw:Co where
 f:=72
 X:=Int
 R:=Int
 rd:=fun ro H args x=>args = [(.int .u64 x)]
 inj:=by
  rintro ro H args x0 y0 h h'
  rw [h] at h'; simp only [List.cons.injEq,and_true] at h'
  have e0:=h'
  have z0:x0 = y0:=by injection e0
  subst z0; rfl
 m:=fun n x=>m_bQ n x
 lay:=fun r args H=>((.int .i64 (r)),H)
def K_dD:Co where
 f:=86
 X:=S_d
 R:=S_a
 rd:=fun ro H args x=>args = [(vAgg (S_d.c x))] ∧ TabH1 H
 inj:=by
  rintro ro H args x0 y0 ⟨h,f0⟩ ⟨h',g0⟩
  rw [h] at h'; simp only [List.cons.injEq,and_true] at h'
  have e0:=h'
  have z0:x0 = y0:=S_d.enc.inj _ _ (vAgg_inj e0)
  subst z0; rfl
 m:=fun n x=>m_P n x
 lay:=fun r args H=>((vAgg (S_a.c (r))),H)
def K_cW:Co where
 f:=87
 X:=Unit
 R:=S_a
 rd:=fun ro H args x=>args = []
 inj:=by
  intros; rfl
 m:=fun n x=>m_Z n
 lay:=fun r args H=>((vAgg (S_a.c (r))),H)
def K_eb:Co where
 f:=88
 X:=Unit
 R:=S_d
 rd:=fun ro H args x=>args = []
 inj:=by
  intros; rfl
 m:=fun n x=>m_bA n
 lay:=fun r args H=>((vAgg (S_d.c (r))),H)
def K_en:Co where
 f:=89
 X:=S_a × S_a
 R:=S_a
 rd:=fun ro H args x=>args = [(vAgg (S_a.c (x.1))),(vAgg (S_a.c (x.2)))]
 inj:=by
  rintro ro H args ⟨x0,x1⟩ ⟨y0,y1⟩ h h'
  rw [h] at h'; simp only [List.cons.injEq,and_true] at h'
  obtain ⟨e0,e1⟩:=h'
  have z0:x0 = y0:=S_a.enc.inj _ _ (vAgg_inj e0)
  have z1:x1 = y1:=S_a.enc.inj _ _ (vAgg_inj e1)
  subst z0 z1; rfl
 m:=fun n x=>m_bz n (x.1) (x.2)
 lay:=fun r args H=>((vAgg (S_a.c (r))),H)
def K_el:Co where
 f:=90
 X:=S_a × S_a
 R:=S_a
 rd:=fun ro H args x=>args = [(vAgg (S_a.c (x.1))),(vAgg (S_a.c (x.2)))]
 inj:=by
  rintro ro H args ⟨x0,x1⟩ ⟨y0,y1⟩ h h'
  rw [h] at h'; simp only [List.cons.injEq,and_true] at h'
  obtain ⟨e0,e1⟩:=h'
  have z0:x0 = y0:=S_a.enc.inj _ _ (vAgg_inj e0)
  have z1:x1 = y1:=S_a.enc.inj _ _ (vAgg_inj e1)
  subst z0 z1; rfl
 m:=fun n x=>m_bB n (x.1) (x.2)
 lay:=fun r args H=>((vAgg (S_a.c (r))),H)
def K_dh:Co where
 f:=91
 X:=S_b × S_a
 R:=S_a
 rd:=fun ro H args x=>args = [(vAgg (S_b.c (x.1))),(vAgg (S_a.c (x.2)))]
 inj:=by
  rintro ro H args ⟨x0,x1⟩ ⟨y0,y1⟩ h h'
  rw [h] at h'; simp only [List.cons.injEq,and_true] at h'
  obtain ⟨e0,e1⟩:=h'
  have z0:x0 = y0:=S_b.enc.inj _ _ (vAgg_inj e0)
  have z1:x1 = y1:=S_a.enc.inj _ _ (vAgg_inj e1)
  subst z0 z1; rfl
 m:=fun n x=>m_6 n (x.1) (x.2)
 lay:=fun r args H=>((vAgg (S_a.c (r))),H)
def K_db:Co where
 f:=97
 X:=S_b
 R:=Bool
 rd:=fun ro H args x=>args = [(vAgg (S_b.c x))]
 inj:=by
  rintro ro H args x0 y0 h h'
  rw [h] at h'; simp only [List.cons.injEq,and_true] at h'
  have e0:=h'
  have z0:x0 = y0:=S_b.enc.inj _ _ (vAgg_inj e0)
  subst z0; rfl
 m:=fun n x=>m_9 n x
 lay:=fun r args H=>((.bool (r)),H)
def K_b8:Co where
 f:=98
 X:=(Sl Int)
 R:=Int
 rd:=fun ro H args x=>∃ (b0:Nat),args = [(slV x b0)] ∧ SlH H (cInt .i64) 3 x b0
 inj:=by
  rintro ro H args x0 y0 ⟨b0,h,f0⟩ ⟨db0,h',g0⟩
  rw [h] at h'; simp only [List.cons.injEq,and_true] at h'
  have e0:=h'
  have z0:x0 = y0:=slV_inj e0 enc_int.inj enc_int.len f0 g0
  subst z0; rfl
 m:=fun n x=>m_bb n x
 lay:=fun r args H=>((.int .i64 (r)),H)
def K_eE:Co where
 f:=99
 X:=Int × Int
 R:=Int
 rd:=fun ro H args x=>args = [(.int .i64 (x.1)),(.int .i64 (x.2))]
 inj:=by
  rintro ro H args ⟨x0,x1⟩ ⟨y0,y1⟩ h h'
  rw [h] at h'; simp only [List.cons.injEq,and_true] at h'
  obtain ⟨e0,e1⟩:=h'
  have z0:x0 = y0:=by injection e0
  have z1:x1 = y1:=by injection e1
  subst z0 z1; rfl
 m:=fun n x=>m_bP n (x.1) (x.2)
 lay:=fun r args H=>((.int .i64 (r)),H)
def K_ek:Co where
 f:=100
 X:=Int × Int
 R:=Int
 rd:=fun ro H args x=>args = [(.int .i64 (x.1)),(.int .i64 (x.2))]
 inj:=by
  rintro ro H args ⟨x0,x1⟩ ⟨y0,y1⟩ h h'
  rw [h] at h'; simp only [List.cons.injEq,and_true] at h'
  obtain ⟨e0,e1⟩:=h'
  have z0:x0 = y0:=by injection e0
  have z1:x1 = y1:=by injection e1
  subst z0 z1; rfl
 m:=fun n x=>m_by n (x.1) (x.2)
 lay:=fun r args H=>((.int .i64 (r)),H)
def K_cU:Co where
 f:=102
 X:=Int × (Sl Int)
 R:=Int
 rd:=fun ro H args x=>∃ (b1:Nat) (s1:Nat),args = [(.int .i64 (x.1)),(.pointer (some ⟨b1,0,none⟩))] ∧ H[b1]? = some (.cells [slV (x.2) s1] 100) ∧ SlH H (cInt .i64) 3 (x.2) s1
 inj:=by
  rintro ro H args ⟨x0,x1⟩ ⟨y0,y1⟩ ⟨b1,s1,h,f0,f1⟩ ⟨db1,ds1,h',g0,g1⟩
  rw [h] at h'; simp only [List.cons.injEq,and_true] at h'
  obtain ⟨e0,e1⟩:=h'
  have z0:x0 = y0:=by injection e0
  have z1:x1 = y1:=by
   have e:b1 = db1:=by injection e1 with e; injection e with e; injection e
   subst e
   have q:slV x1 s1 = slV y1 ds1:=by have q:=f0.symm.trans g0; simpa using q
   exact slV_inj q enc_int.inj enc_int.len f1 g1
  subst z0 z1; rfl
 m:=fun n x=>m_bF n (x.1) (x.2)
 lay:=fun r args H=>((.int .i64 (r)),H)
def K_cV:Co where
 f:=104
 X:=Int × Int × (Sl Int) × (Sl Int)
 R:=Int
 rd:=fun ro H args x=>∃ (d2:Nat) (b2:Nat) (s2:Nat) (b3:Nat) (s3:Nat),args = [(.int .i64 (x.1)),(.int .i64 (x.2.1)),(.pointer (some ⟨d2,0,none⟩)),(.pointer (some ⟨b3,0,none⟩))] ∧ H[d2]? = some (.cells [.func (.func 102) [].toArray [(.pointer (some ⟨b2,0,none⟩))].toArray] 99) ∧ H[b2]? = some (.cells [slV (x.2.2.1) s2] 100) ∧ SlH H (cInt .i64) 3 (x.2.2.1) s2 ∧ H[b3]? = some (.cells [slV (x.2.2.2) s3] 100) ∧ SlH H (cInt .i64) 3 (x.2.2.2) s3
 inj:=by
  rintro ro H args ⟨x0,x1,x2,x3⟩ ⟨y0,y1,y2,y3⟩ ⟨d2,b2,s2,b3,s3,h,f0,f1,f2,f3,f4⟩ ⟨dd2,db2,ds2,db3,ds3,h',g0,g1,g2,g3,g4⟩
  rw [h] at h'; simp only [List.cons.injEq,and_true] at h'
  obtain ⟨e0,e1,e2,e3⟩:=h'
  have z0:x0 = y0:=by injection e0
  have z1:x1 = y1:=by injection e1
  have z2:x2 = y2:=by
   have e:d2 = dd2:=by injection e2 with e; injection e with e; injection e
   subst e
   have e:b2 = db2:=by have q:=f0.symm.trans g0; simpa using q
   subst e
   have q:slV x2 s2 = slV y2 ds2:=by have q:=f1.symm.trans g1; simpa using q
   exact slV_inj q enc_int.inj enc_int.len f2 g2
  have z3:x3 = y3:=by
   have e:b3 = db3:=by injection e3 with e; injection e with e; injection e
   subst e
   have q:slV x3 s3 = slV y3 ds3:=by have q:=f3.symm.trans g3; simpa using q
   exact slV_inj q enc_int.inj enc_int.len f4 g4
  subst z0 z1 z2 z3; rfl
 m:=fun n x=>m_w n (x.1) (x.2.1) (x.2.2.1) (x.2.2.2)
 lay:=fun r args H=>((.int .i64 (r)),H)
def K_cS:Co where
 f:=105
 X:=S_b × (Sl Int)
 R:=Bool
 rd:=fun ro H args x=>∃ (b1:Nat) (s1:Nat),args = [(vAgg (S_b.c (x.1))),(.pointer (some ⟨b1,0,none⟩))] ∧ H[b1]? = some (.cells [slV (x.2) s1] 100) ∧ SlH H (cInt .i64) 3 (x.2) s1
 inj:=by
  rintro ro H args ⟨x0,x1⟩ ⟨y0,y1⟩ ⟨b1,s1,h,f0,f1⟩ ⟨db1,ds1,h',g0,g1⟩
  rw [h] at h'; simp only [List.cons.injEq,and_true] at h'
  obtain ⟨e0,e1⟩:=h'
  have z0:x0 = y0:=S_b.enc.inj _ _ (vAgg_inj e0)
  have z1:x1 = y1:=by
   have e:b1 = db1:=by injection e1 with e; injection e with e; injection e
   subst e
   have q:slV x1 s1 = slV y1 ds1:=by have q:=f0.symm.trans g0; simpa using q
   exact slV_inj q enc_int.inj enc_int.len f1 g1
  subst z0 z1; rfl
 m:=fun n x=>m_bj n (x.1) (x.2)
 lay:=fun r args H=>((.bool (r)),H)
def K_bJ:Co where
 f:=106
 X:=(Sl S_b) × (Sl Int)
 R:=Bool
 rd:=fun ro H args x=>∃ (b0:Nat) (b1:Nat) (s1:Nat),args = [(slV (x.1) b0),(.func (.func 105) [].toArray [(.pointer (some ⟨b1,0,none⟩))].toArray)] ∧ SlH H S_b.c 72 (x.1) b0 ∧ H[b1]? = some (.cells [slV (x.2) s1] 100) ∧ SlH H (cInt .i64) 3 (x.2) s1
 inj:=by
  rintro ro H args ⟨x0,x1⟩ ⟨y0,y1⟩ ⟨b0,b1,s1,h,f0,f1,f2⟩ ⟨db0,db1,ds1,h',g0,g1,g2⟩
  rw [h] at h'; simp only [List.cons.injEq,and_true] at h'
  obtain ⟨e0,e1⟩:=h'
  have z0:x0 = y0:=slV_inj e0 S_b.enc.inj S_b.enc.len f0 g0
  have z1:x1 = y1:=by
   have e:b1 = db1:=by simpa using e1
   subst e
   have q:slV x1 s1 = slV y1 ds1:=by have q:=f1.symm.trans g1; simpa using q
   exact slV_inj q enc_int.inj enc_int.len f2 g2
  subst z0 z1; rfl
 m:=fun n x=>m_H n (x.1) (x.2)
 lay:=fun r args H=>((.bool (r)),H)
def K_c2:Co where
 f:=113
 X:=S_d
 R:=S_d
 rd:=fun ro H args x=>args = [(vAgg (S_d.c x))]
 inj:=by
  rintro ro H args x0 y0 h h'
  rw [h] at h'; simp only [List.cons.injEq,and_true] at h'
  have e0:=h'
  have z0:x0 = y0:=S_d.enc.inj _ _ (vAgg_inj e0)
  subst z0; rfl
 m:=fun n x=>m_cZ n x
 lay:=fun r args H=>((vAgg (S_d.c (r))),H)
def K_cX:Co where
 f:=120
 X:=S_d
 R:=Int × Bool
 rd:=fun ro H args x=>args = [(vAgg (S_d.c x))] ∧ TabH1 H
 inj:=by
  rintro ro H args x0 y0 ⟨h,f0⟩ ⟨h',g0⟩
  rw [h] at h'; simp only [List.cons.injEq,and_true] at h'
  have e0:=h'
  have z0:x0 = y0:=S_d.enc.inj _ _ (vAgg_inj e0)
  subst z0; rfl
 m:=fun n x=>m_T n x
 lay:=fun r args H=>((.tuple [(.int .u8 (r.1)),(.bool (r.2))].toArray),H)
def K_cL:Co where
 f:=121
 X:=S_a
 R:=S_a
 rd:=fun ro H args x=>args = [(vAgg (S_a.c x))]
 inj:=by
  rintro ro H args x0 y0 h h'
  rw [h] at h'; simp only [List.cons.injEq,and_true] at h'
  have e0:=h'
  have z0:x0 = y0:=S_a.enc.inj _ _ (vAgg_inj e0)
  subst z0; rfl
 m:=fun n x=>m_bt n x
 lay:=fun r args H=>((vAgg (S_a.c (r))),H)
def K_cY:Co where
 f:=124
 X:=S_b
 R:=S_b
 rd:=fun ro H args x=>args = [(vAgg (S_b.c x))]
 inj:=by
  rintro ro H args x0 y0 h h'
  rw [h] at h'; simp only [List.cons.injEq,and_true] at h'
  have e0:=h'
  have z0:x0 = y0:=S_b.enc.inj _ _ (vAgg_inj e0)
  subst z0; rfl
 m:=fun n x=>m_ct n x
 lay:=fun r args H=>((vAgg (S_b.c (r))),H)
def K_bK:Co where
 f:=138
 X:=(Sl S_b) × (Sl Int)
 R:=Int
 rd:=fun ro H args x=>∃ (b0:Nat) (b1:Nat) (s1:Nat),args = [(slV (x.1) b0),(.func (.func 105) [].toArray [(.pointer (some ⟨b1,0,none⟩))].toArray)] ∧ SlH H S_b.c 72 (x.1) b0 ∧ H[b1]? = some (.cells [slV (x.2) s1] 100) ∧ SlH H (cInt .i64) 3 (x.2) s1
 inj:=by
  rintro ro H args ⟨x0,x1⟩ ⟨y0,y1⟩ ⟨b0,b1,s1,h,f0,f1,f2⟩ ⟨db0,db1,ds1,h',g0,g1,g2⟩
  rw [h] at h'; simp only [List.cons.injEq,and_true] at h'
  obtain ⟨e0,e1⟩:=h'
  have z0:x0 = y0:=slV_inj e0 S_b.enc.inj S_b.enc.len f0 g0
  have z1:x1 = y1:=by
   have e:b1 = db1:=by simpa using e1
   subst e
   have q:slV x1 s1 = slV y1 ds1:=by have q:=f1.symm.trans g1; simpa using q
   exact slV_inj q enc_int.inj enc_int.len f2 g2
  subst z0 z1; rfl
 m:=fun n x=>m_bf n (x.1) (x.2)
 lay:=fun r args H=>((.int .i64 (r)),H)
def K_bX:Co where
 f:=152
 X:=Int
 R:=Int
 rd:=fun ro H args x=>args = [(.int .u64 x)] ∧ TabH1 H
 inj:=by
  rintro ro H args x0 y0 ⟨h,f0⟩ ⟨h',g0⟩
  rw [h] at h'; simp only [List.cons.injEq,and_true] at h'
  have e0:=h'
  have z0:x0 = y0:=by injection e0
  subst z0; rfl
 m:=fun n x=>m_Q n x
 lay:=fun r args H=>((.int .i64 (r)),H)
def K_dB:Co where
 f:=29
 X:=Unit
 R:=Bool
 rd:=fun ro H args x=>args = [] ∧ TabH1 H
 inj:=by
  intros; rfl
 m:=fun n x=>m_cR n
 lay:=fun r args H=>((.bool (r)),H)
def K_dc:Co where
 f:=125
 X:=S_b
 R:=S_b
 rd:=fun ro H args x=>args = [(vAgg (S_b.c x))]
 inj:=by
  rintro ro H args x0 y0 h h'
  rw [h] at h'; simp only [List.cons.injEq,and_true] at h'
  have e0:=h'
  have z0:x0 = y0:=S_b.enc.inj _ _ (vAgg_inj e0)
  subst z0; rfl
 m:=fun n x=>m_cH n x
 lay:=fun r args H=>((vAgg (S_b.c (r))),H)
def T:FuncId → Option Co
 | 8=>some K_cv
 | 18=>some K_ef
 | 26=>some K_eD
 | 32=>some K_eG
 | 33=>some K_eF
 | 38=>some K_di
 | 40=>some K_ei
 | 44=>some K_c5
 | 57=>some K_ej
 | 62=>some K_ep
 | 63=>some K_dR
 | 64=>some K_dX
 | 65=>some K_eA
 | 66=>some K_ex
 | 68=>some K_dx
 | 72=>some K_cw
 | 86=>some K_dD
 | 87=>some K_cW
 | 88=>some K_eb
 | 89=>some K_en
 | 90=>some K_el
 | 91=>some K_dh
 | 97=>some K_db
 | 98=>some K_b8
 | 99=>some K_eE
 | 100=>some K_ek
 | 102=>some K_cU
 | 104=>some K_cV
 | 105=>some K_cS
 | 106=>some K_bJ
 | 113=>some K_c2
 | 120=>some K_cX
 | 121=>some K_cL
 | 124=>some K_cY
 | 138=>some K_bK
 | 152=>some K_bX
 | 29=>some K_dB
 | 125=>some K_dc
 | 103=>some K_7
 | _=>none
theorem srt_len {cf:Int → Int → Int} {l:List Int}:(srt cf l).length = l.length:=List.length_mergeSort _
theorem z_dA {n:Nat}:A_cn (tabC T n) (m_o n):=fun ro nb H x0 b0 x1 d1 b1 s1 r hro h0 f1 f2 f3 n1 n2 n3 hm=>by
 have h:=ans_tab (T:=T) (n:=n) (k:=K_7) rfl ro H _ (x0,x1) r ⟨b0,d1,b1,s1,rfl,h0.weak hro,f1,f2,f3,n1,n2,n3⟩ hm
 refine ⟨_,h,?_⟩
 cases x0 with
 | none =>
  obtain rfl:=m103_none hm
  exact ⟨h0,⟨rfl,fun _ _=>rfl⟩,fun _=>rfl,rfl,rfl⟩
 | some l =>
  obtain ⟨k,rfl,_,_,_,_,rfl⟩:=m103_some hm
  obtain ⟨g1,g2⟩:=h0 l rfl
  refine ⟨fun l' hl'=>?_,⟨?_,fun x hx=>?_⟩,fun b=>?_,by simp,?_⟩
  ·injection hl' with hl'; subst hl'; exact ⟨g1,get_set g2⟩
  ·simp [K_7]
  ·exact List.getElem?_set_ne (fun e=>hx (by simp) e.symm)
  ·simp only [slV,srt_len]
  ·simp only [Sl.l,srt_len]
theorem alias18 {n:Nat} {x0 r:Sl S_b} {x1:Int} (h:m_bY n x0 x1 = some r):(r ≠ none → x0 ≠ none) ∧ ∀ (H:Hp) (b:Nat),SlH H S_b.c 72 x0 b → SlH H S_b.c 72 r b:=by
 cases n with
 | zero=>cases h
 | succ n =>
  simp only [m_bY,b_cN,Option.bind_eq_some_iff,Option.some.injEq] at h
  obtain ⟨y,hy,rfl⟩:=h
  exact ⟨Sl.upto_none hy,fun H b hs=>hs.upto hy⟩
theorem z_go {n:Nat}:A_fc (tabC T n) (m_bY n):=fun ro H x0 b0 x1 r f0 hm=>⟨by
 have h:=ans_tab (T:=T) (n:=n) (k:=K_ef) rfl ro H _ ⟨x0,x1⟩ r ⟨b0,rfl,f0⟩ hm
 cases x0 with
 | none =>
  obtain rfl:r = none:=Classical.byContradiction fun hr=>(alias18 hm).1 hr rfl
  exact h
 | some l=>exact h,alias18 hm⟩
theorem z_gA {n:Nat}:A_fM (tabC T n) (m_bV n):=fun ro H x0 b0 r f0 f1 hm=>ans_tab (k:=K_eD) rfl ro H _ x0 r ⟨b0,rfl,f0,f1⟩ hm
theorem z_gC {n:Nat}:A_fK (tabC T n) (m_cE n):=fun ro H x0 b0 r f0 hm=>ans_tab (k:=K_eG) rfl ro H _ x0 r ⟨b0,rfl,f0⟩ hm
theorem z_gL {n:Nat}:A_fC (tabC T n) (m_cG n):=fun ro H x0 b0 x1 r f0 hm=>ans_tab (k:=K_eF) rfl ro H _ ⟨x0,x1⟩ r ⟨b0,rfl,f0⟩ hm
theorem z_ea {n:Nat}:A_df (tabC T n) (m_bC n):=fun ro H x0 x1 r hm=>ans_tab (k:=K_di) rfl ro H _ ⟨x0,x1⟩ r rfl hm
theorem z_gs {n:Nat}:A_fg (tabC T n) (m_cO n):=fun ro H x0 b0 r f0 hm=>ans_tab (k:=K_ei) rfl ro H _ x0 r ⟨b0,rfl,f0⟩ hm
theorem z_fB {n:Nat}:A_d7 (tabC T n) (m_bU n):=fun ro H x0 r hm=>ans_tab (k:=K_c5) rfl ro H _ x0 r rfl hm
theorem z_gx {n:Nat}:A_fe (tabC T n) (m_cP n):=fun ro H x0 b0 r f0 f1 hm=>ans_tab (k:=K_ej) rfl ro H _ x0 r ⟨b0,rfl,f0,f1⟩ hm
theorem z_dP {n:Nat}:A_dn (tabC T n) (m_2 n):=fun ro H x0 b0 r f0 hm=>ans_tab (k:=K_ep) rfl ro H _ x0 r ⟨b0,rfl,f0⟩ hm
theorem z_eM {n:Nat}:A_dQ (tabC T n) (m_b3 n):=fun ro H x0 b0 r f0 hm=>ans_tab (k:=K_dR) rfl ro H _ x0 r ⟨b0,rfl,f0⟩ hm
theorem z_gg {n:Nat}:A_e0 (tabC T n) (m_b1 n):=fun ro H x0 b0 r f0 hm=>ans_tab (k:=K_dX) rfl ro H _ x0 r ⟨b0,rfl,f0⟩ hm
theorem z_gD {n:Nat}:A_fE (tabC T n) (m_cC n):=fun ro H x0 b0 r f0 hm=>ans_tab (k:=K_eA) rfl ro H _ x0 r ⟨b0,rfl,f0⟩ hm
theorem z_fh {n:Nat}:A_ez (tabC T n) (m_bx n):=fun ro H x0 r hm=>ans_tab (k:=K_ex) rfl ro H _ x0 r rfl hm
theorem z_f3 {n:Nat}:A_eK (tabC T n) (m_bO n):=fun ro H x0 b0 r f0 hm=>ans_tab (k:=K_dx) rfl ro H _ x0 r ⟨b0,rfl,f0⟩ hm
theorem z_eO {n:Nat}:A_du (tabC T n) (m_bQ n):=fun ro H x0 r hm=>ans_tab (k:=K_cw) rfl ro H _ x0 r rfl hm
theorem z_f6 {n:Nat}:A_eJ (tabC T n) (m_P n):=fun ro H x0 r f0 hm=>ans_tab (k:=K_dD) rfl ro H _ x0 r ⟨rfl,f0⟩ hm
theorem z_dT {n:Nat}:A_c6 (tabC T n) (m_Z n):=fun ro H  r hm=>ans_tab (k:=K_cW) rfl ro H _ () r rfl hm
theorem z_gu {n:Nat}:A_ff (tabC T n) (m_bA n):=fun ro H  r hm=>ans_tab (k:=K_eb) rfl ro H _ () r rfl hm
theorem z_gq {n:Nat}:A_fd (tabC T n) (m_bz n):=fun ro H x0 x1 r hm=>ans_tab (k:=K_en) rfl ro H _ ⟨x0,x1⟩ r rfl hm
theorem z_gz {n:Nat}:A_fk (tabC T n) (m_bB n):=fun ro H x0 x1 r hm=>ans_tab (k:=K_el) rfl ro H _ ⟨x0,x1⟩ r rfl hm
theorem z_fI {n:Nat}:A_ew (tabC T n) (m_6 n):=fun ro H x0 x1 r hm=>ans_tab (k:=K_dh) rfl ro H _ ⟨x0,x1⟩ r rfl hm
theorem z_fv {n:Nat}:A_d9 (tabC T n) (m_9 n):=fun ro H x0 r hm=>ans_tab (k:=K_db) rfl ro H _ x0 r rfl hm
theorem z_eq {n:Nat}:A_c7 (tabC T n) (m_bb n):=fun ro H x0 b0 r f0 hm=>ans_tab (k:=K_b8) rfl ro H _ x0 r ⟨b0,rfl,f0⟩ hm
theorem z_gB {n:Nat}:A_fH (tabC T n) (m_bP n):=fun ro H x0 x1 r hm=>ans_tab (k:=K_eE) rfl ro H _ ⟨x0,x1⟩ r rfl hm
theorem z_gr {n:Nat}:A_fj (tabC T n) (m_by n):=fun ro H x0 x1 r hm=>ans_tab (k:=K_ek) rfl ro H _ ⟨x0,x1⟩ r rfl hm
theorem z_e4 {n:Nat}:A_dW (tabC T n) (m_bF n):=fun ro H x0 x1 b1 s1 r f0 f1 hm=>ans_tab (k:=K_cU) rfl ro H _ ⟨x0,x1⟩ r ⟨b1,s1,rfl,f0,f1⟩ hm
theorem z_e5 {n:Nat}:A_fm (tabC T n) (m_w n):=fun ro H x0 x1 x2 d2 b2 s2 x3 b3 s3 r f0 f1 f2 f3 f4 hm=>ans_tab (k:=K_cV) rfl ro H _ ⟨x0,x1,x2,x3⟩ r ⟨d2,b2,s2,b3,s3,rfl,f0,f1,f2,f3,f4⟩ hm
theorem z_e8 {n:Nat}:A_dS (tabC T n) (m_bj n):=fun ro H x0 x1 b1 s1 r f0 f1 hm=>ans_tab (k:=K_cS) rfl ro H _ ⟨x0,x1⟩ r ⟨b1,s1,rfl,f0,f1⟩ hm
theorem z_dU {n:Nat}:A_cJ (tabC T n) (m_H n):=fun ro H x0 b0 x1 b1 s1 r f0 f1 f2 hm=>ans_tab (k:=K_bJ) rfl ro H _ ⟨x0,x1⟩ r ⟨b0,b1,s1,rfl,f0,f1,f2⟩ hm
theorem z_fx {n:Nat}:A_d8 (tabC T n) (m_cZ n):=fun ro H x0 r hm=>ans_tab (k:=K_c2) rfl ro H _ x0 r rfl hm
theorem z_fz {n:Nat}:A_d5 (tabC T n) (m_T n):=fun ro H x0 r f0 hm=>ans_tab (k:=K_cX) rfl ro H _ x0 r ⟨rfl,f0⟩ hm
theorem z_eX {n:Nat}:A_dE (tabC T n) (m_bt n):=fun ro H x0 r hm=>ans_tab (k:=K_cL) rfl ro H _ x0 r rfl hm
theorem z_fs {n:Nat}:A_d6 (tabC T n) (m_ct n):=fun ro H x0 r hm=>ans_tab (k:=K_cY) rfl ro H _ x0 r rfl hm
theorem z_dZ {n:Nat}:A_cK (tabC T n) (m_bf n):=fun ro H x0 b0 x1 b1 s1 r f0 f1 f2 hm=>ans_tab (k:=K_bK) rfl ro H _ ⟨x0,x1⟩ r ⟨b0,b1,s1,rfl,f0,f1,f2⟩ hm
theorem z_d0 {n:Nat}:A_cM (tabC T n) (m_Q n):=fun ro H x0 r f0 hm=>ans_tab (k:=K_bX) rfl ro H _ x0 r ⟨rfl,f0⟩ hm
theorem z_f0 {n:Nat}:A_eL (tabC T n) (m_cR n):=fun ro H  r f0 hm=>ans_tab (k:=K_dB) rfl ro H _ () r ⟨rfl,f0⟩ hm
theorem z_fF {n:Nat}:A_er (tabC T n) (m_cH n):=fun ro H x0 r hm=>ans_tab (k:=K_dc) rfl ro H _ x0 r rfl hm
end
end Go.Proofs.YtaadjlpfdajggaaGreatDoor
