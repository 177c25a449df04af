import Derived.Test.YtaadjlpfdajggaaGreatDoorBuV0
import Derived.Test.YtaadjlpfdajggaaGreatDoorBuV1
import Derived.Test.YtaadjlpfdajggaaGreatDoorBuV2
import Derived.Test.YtaadjlpfdajggaaGreatDoorBuAm25
set_option maxRecDepth 100000
set_option linter.unusedVariables false
set_option linter.unusedSimpArgs false
namespace Go.Proofs.YtaadjlpfdajggaaGreatDoor
open Go Go.AM
noncomputable section
def m_b4:Nat → Option (Bool)
 | 0=>none
 | _ + 1=>some true
def m_bU:Nat → S_a → Option (S_a)
 | 0,_=>none
 | _ + 1,x0=>some (ownS x0)
def m_bq:Nat → (Sl S_a) → Int → Option ((Sl S_a))
 | 0,_,_=>none
 | n + 1,x0,x1=>b_b3 n x0 x1
def m_I:Nat → Int → Option (Int)
 | 0,_=>none
 | n + 1,x0=>b_cL n x0
def m_bF:Nat → S_a → Option (S_a)
 | 0,_=>none
 | n + 1,x0=>b_bG n x0
def m_T:Nat → S_a → Option (Bool)
 | 0,_=>none
 | n + 1,x0=>b_bH (m_bF n) (m_bU n) n x0
def m_J:Nat → (Sl S_a) → Option ((Sl Int) × Bool)
 | 0,_=>none
 | n + 1,x0=>b_cr (m_I n) (m_T n) n x0
def m_bs:Nat → (Sl S_a) → Option ((Sl Int))
 | 0,_=>none
 | n + 1,x0=>b_ce (m_I n) n x0
def m_S:Nat → (Sl Int) → Option (Int)
 | 0,_=>none
 | n + 1,x0=>b_4 n x0
def m_bu:Nat → (Sl S_a) → Option (Int)
 | 0,_=>none
 | n + 1,x0=>b_cb (m_J n) (m_bs n) (m_S n) n x0
def m_bn:Nat → Int → Int → Option (Int)
 | 0,_,_=>none
 | n + 1,x0,x1=>b_cJ n x0 x1
def m_5:Nat → Int → Int → Option (Int)
 | 0,_,_=>none
 | n + 1,x0,x1=>b_cp n x0 x1
def m_bQ:Nat → (Sl S_a) → Option ((Sl Int) × (Sl Int))
 | 0,_=>none
 | n + 1,x0=>b_cI (m_bn n) (m_5 n) n x0
def m_bc:Nat → Int → (Sl Int) → Option (Int)
 | 0,_,_=>none
 | n + 1,x0,x1=>b_bA n x0 x1
def m_l:Nat → Int → Int → (Sl Int) → (Sl Int) → Option (Int)
 | 0,_,_,_,_=>none
 | n + 1,x0,x1,x2,x3=>b_bw (m_bc n) n x0 x1 x2 x3
def m_h:Nat → Sl Int → Sl Int → Option (Sl Int)
 | 0,_,_=>none
 | _ + 1,none,_=>some none
 | n + 1,some l,x1=>open Classical in
  if l ≠ [] ∧ l.length < 4611686018427387904 ∧ (∀ x ∈ l,∀ y ∈ l,m_l n x y x1 x1 ≠ none) ∧ OrdOn (ltC fun x y=>(m_l n x y x1 x1).getD 0) l then some (some (srt (fun x y=>(m_l n x y x1 x1).getD 0) l)) else none
theorem m103_some {n:Nat} {l:List Int} {x1 r:Sl Int} (h:m_h n (some l) x1 = some r):∃ k,n = k + 1 ∧ l ≠ [] ∧ l.length < 4611686018427387904 ∧ (∀ x ∈ l,∀ y ∈ l,m_l k x y x1 x1 ≠ none) ∧ OrdOn (ltC fun x y=>(m_l k x y x1 x1).getD 0) l ∧ r = some (srt (fun x y=>(m_l k x y x1 x1).getD 0) l):=by
 cases n with
 | zero=>simp [m_h] at h
 | succ n =>
  simp only [m_h] at h
  split at h
  ·rename_i hc; injection h with h; exact ⟨n,rfl,hc.1,hc.2.1,hc.2.2.1,hc.2.2.2,h.symm⟩
  ·cases h
theorem m103_none {n:Nat} {x1 r:Sl Int} (h:m_h n none x1 = some r):r = none:=by
 cases n with
 | zero=>simp [m_h] at h
 | succ n=>simp only [m_h,Option.some.injEq] at h; exact h.symm
def m_Z:Nat → S_a → (Sl Int) → Option (Bool)
 | 0,_,_=>none
 | n + 1,x0,x1=>b_bB n x0 x1
def m_W:Nat → (Sl S_a) → (Sl Int) → Option (Int)
 | 0,_,_=>none
 | n + 1,x0,x1=>b_Y (m_Z n) n x0 x1
def m_t:Nat → (Sl S_a) → (Sl Int) → Option (Bool)
 | 0,_,_=>none
 | n + 1,x0,x1=>b_V (m_W n) n x0 x1
def m_bk:Nat → (Sl S_a) → Option (Bool)
 | 0,_=>none
 | n + 1,x0=>b_b5 (m_J n) (m_h n) (m_t n) n x0
def m_bp:Nat → (Sl S_a) → Option (Int)
 | 0,_=>none
 | n + 1,x0=>b_cu (m_bu n) (m_bQ n) (m_bk n) n x0
def m_6:Nat → Int → Option (Int)
 | 0,_=>none
 | n + 1,x0=>b_dd n x0
def m_U:Nat → S_a → Int → Option (Int)
 | 0,_,_=>none
 | n + 1,x0,x1=>b_b6 n x0 x1
def m_b2:Nat → (Sl S_a) → Int → Option ((Sl Int))
 | 0,_,_=>none
 | n + 1,x0,x1=>b_cs (m_6 n) (m_U n) n x0 x1
def m_E:Nat → (Sl S_a) → Int → Option (Int × Int)
 | 0,_,_=>none
 | n + 1,x0,x1=>b_bN (m_bp n) (m_6 n) (m_b2 n) n x0 x1
def m_bW:Nat → (Sl S_a) → Option (Int)
 | 0,_=>none
 | n + 1,x0=>b_cM (m_J n) (m_bs n) n x0
def m_cc:Nat → (Sl S_a) → S_a → Option ((Sl S_a))
 | 0,_,_=>none
 | n + 1,x0,x1=>b_cK n x0 x1
def m_bP:Nat → (Sl S_a) → Option (Int)
 | 0,_=>none
 | n + 1,x0=>b_ck n x0
def m_bT:Nat → (Sl S_a) → (Sl S_a) → Int → Option ((Sl S_a))
 | 0,_,_,_=>none
 | n + 1,x0,x1,x2=>b_cG (m_I n) n x0 x1 x2
def m_bZ:Nat → (Sl S_a) → (Sl S_a) → Int → Option (Bool)
 | 0,_,_,_=>none
 | n + 1,x0,x1,x2=>b_br (m_bq n) (m_E n) (m_b4 n) (m_bW n) (m_cc n) (m_bP n) (m_bT n) n x0 x1 x2
def K_N:Co where
 f:=103
 X:=Sl Int × Sl Int
 R:=Sl Int
 rd:=fun ro H args x=>∃ b0 d1 b1 s1,args = [slV x.1 b0,(.func (.func 104) [].toArray [(.pointer (some ⟨d1,0,none⟩)),(.pointer (some ⟨b1,0,none⟩))].toArray)] ∧ SlO ro H (cInt .i64) 3 x.1 b0 ∧ H[d1]? = some (.cells [.func (.func 102) [].toArray [(.pointer (some ⟨b1,0,none⟩))].toArray] 99) ∧ H[b1]? = some (.cells [slV x.2 s1] 100) ∧ SlH H (cInt .i64) 3 x.2 s1 ∧ (x.1 ≠ none → b0 ≠ d1) ∧ (x.1 ≠ none → b0 ≠ b1) ∧ (x.1 ≠ none → x.2 ≠ none → b0 ≠ s1)
 inj:=by
  rintro ro H args ⟨x0,x1⟩ ⟨y0,y1⟩ ⟨b0,d1,b1,s1,h,f0,f1,f2,f3,_⟩ ⟨c_fp,k1,c_fd,u1,h',g0,g1,g2,g3,_⟩
  rw [h] at h'; simp only [List.cons.injEq,and_true] at h'
  obtain ⟨e0,e1⟩:=h'
  have z0:x0 = y0:=slV_inj e0 enc_int.inj enc_int.len f0.h g0.h
  have q:d1 = k1 ∧ b1 = c_fd:=by simpa using e1
  obtain ⟨rfl,rfl⟩:=q
  have q:slV x1 s1 = slV y1 u1:=by have q:=f2.symm.trans g2; simpa using q
  have z1:x1 = y1:=slV_inj q enc_int.inj enc_int.len f3 g3
  subst z0 z1; rfl
 m:=fun n x=>m_h n x.1 x.2
 lay:=fun r args H=>(.tuple [].toArray,match r with | none=>H | some l=>H.set (blkOf (args.getD 0 default)) (.cells (l.flatMap (cInt .i64)) 3))
def K_b0:Co where
 f:=11
 X:=(Sl S_a) × (Sl S_a) × Int
 R:=Bool
 rd:=fun ro H args x=>∃ (b0:Nat) (b1:Nat),args = [(vAgg [slV (x.1) b0]),(vAgg [slV (x.2.1) b1]),(.int .u8 (x.2.2))] ∧ SlH H S_a.c 72 (x.1) b0 ∧ SlH H S_a.c 72 (x.2.1) b1 ∧ TabH1 H
 inj:=by
  rintro ro H args ⟨x0,x1,x2⟩ ⟨y0,y1,y2⟩ ⟨b0,b1,h,f0,f1,f2⟩ ⟨db0,db1,h',g0,g1,g2⟩
  rw [h] at h'; simp only [List.cons.injEq,and_true] at h'
  obtain ⟨e0,e1,e2⟩:=h'
  have z0:x0 = y0:=slV_inj (List.cons.inj (vAgg_inj e0)).1 S_a.enc.inj S_a.enc.len f0 g0
  have z1:x1 = y1:=slV_inj (List.cons.inj (vAgg_inj e1)).1 S_a.enc.inj S_a.enc.len f1 g1
  have z2:x2 = y2:=by injection e2
  subst z0 z1 z2; rfl
 m:=fun n x=>m_bZ n (x.1) (x.2.1) (x.2.2)
 lay:=fun r args H=>((.bool (r)),H)
def K_de:Co where
 f:=18
 X:=(Sl S_a) × Int
 R:=(Sl S_a)
 rd:=fun ro H args x=>∃ (b0:Nat),args = [(vAgg [slV (x.1) b0]),(.int .i64 (x.2))] ∧ SlH H S_a.c 72 (x.1) b0
 inj:=by
  rintro ro H args ⟨x0,x1⟩ ⟨y0,y1⟩ ⟨b0,h,f0⟩ ⟨db0,h',g0⟩
  rw [h] at h'; simp only [List.cons.injEq,and_true] at h'
  obtain ⟨e0,e1⟩:=h'
  have z0:x0 = y0:=slV_inj (List.cons.inj (vAgg_inj e0)).1 S_a.enc.inj S_a.enc.len f0 g0
  have z1:x1 = y1:=by injection e1
  subst z0 z1; rfl
 m:=fun n x=>m_bq n (x.1) (x.2)
 lay:=fun r args H=>((vAgg [slV r (blkA (args.getD 0 default))]),H)
def K_cU:Co where
 f:=20
 X:=(Sl S_a) × Int
 R:=Int × Int
 rd:=fun ro H args x=>∃ (b0:Nat),args = [(vAgg [slV (x.1) b0]),(.int .i64 (x.2))] ∧ SlH H S_a.c 72 (x.1) b0
 inj:=by
  rintro ro H args ⟨x0,x1⟩ ⟨y0,y1⟩ ⟨b0,h,f0⟩ ⟨db0,h',g0⟩
  rw [h] at h'; simp only [List.cons.injEq,and_true] at h'
  obtain ⟨e0,e1⟩:=h'
  have z0:x0 = y0:=slV_inj (List.cons.inj (vAgg_inj e0)).1 S_a.enc.inj S_a.enc.len f0 g0
  have z1:x1 = y1:=by injection e1
  subst z0 z1; rfl
 m:=fun n x=>m_E n (x.1) (x.2)
 lay:=fun r args H=>((.tuple [(.int .i64 (r.1)),(.int .i64 (r.2))].toArray),H)
def K_dx:Co where
 f:=32
 X:=(Sl S_a)
 R:=Int
 rd:=fun ro H args x=>∃ (b0:Nat),args = [(vAgg [slV x b0])] ∧ SlH H S_a.c 72 x b0
 inj:=by
  rintro ro H args x0 y0 ⟨b0,h,f0⟩ ⟨db0,h',g0⟩
  rw [h] at h'; simp only [List.cons.injEq,and_true] at h'
  have e0:=h'
  have z0:x0 = y0:=slV_inj (List.cons.inj (vAgg_inj e0)).1 S_a.enc.inj S_a.enc.len f0 g0
  subst z0; rfl
 m:=fun n x=>m_bW n x
 lay:=fun r args H=>((.int .i64 (r)),H)
def K_ds:Co where
 f:=33
 X:=(Sl S_a) × S_a
 R:=(Sl S_a)
 rd:=fun ro H args x=>∃ (b0:Nat),args = [(vAgg [slV (x.1) b0]),(vAgg (S_a.c (x.2)))] ∧ SlH H S_a.c 72 (x.1) b0
 inj:=by
  rintro ro H args ⟨x0,x1⟩ ⟨y0,y1⟩ ⟨b0,h,f0⟩ ⟨db0,h',g0⟩
  rw [h] at h'; simp only [List.cons.injEq,and_true] at h'
  obtain ⟨e0,e1⟩:=h'
  have z0:x0 = y0:=slV_inj (List.cons.inj (vAgg_inj e0)).1 S_a.enc.inj S_a.enc.len f0 g0
  have z1:x1 = y1:=S_a.enc.inj _ _ (vAgg_inj e1)
  subst z0 z1; rfl
 m:=fun n x=>m_cc n (x.1) (x.2)
 lay:=fun r args H=>((vAgg [slV r H.length]),(H ++ slB S_a.c 72 r))
def K_c1:Co where
 f:=36
 X:=(Sl S_a)
 R:=Int
 rd:=fun ro H args x=>∃ (b0:Nat),args = [(vAgg [slV x b0])] ∧ SlH H S_a.c 72 x b0
 inj:=by
  rintro ro H args x0 y0 ⟨b0,h,f0⟩ ⟨db0,h',g0⟩
  rw [h] at h'; simp only [List.cons.injEq,and_true] at h'
  have e0:=h'
  have z0:x0 = y0:=slV_inj (List.cons.inj (vAgg_inj e0)).1 S_a.enc.inj S_a.enc.len f0 g0
  subst z0; rfl
 m:=fun n x=>m_bP n x
 lay:=fun r args H=>((.int .i64 (r)),H)
def K_dq:Co where
 f:=37
 X:=(Sl S_a) × (Sl S_a) × Int
 R:=(Sl S_a)
 rd:=fun ro H args x=>∃ (b0:Nat) (b1:Nat),args = [(vAgg [slV (x.1) b0]),(vAgg [slV (x.2.1) b1]),(.int .i64 (x.2.2))] ∧ SlH H S_a.c 72 (x.1) b0 ∧ SlH H S_a.c 72 (x.2.1) b1
 inj:=by
  rintro ro H args ⟨x0,x1,x2⟩ ⟨y0,y1,y2⟩ ⟨b0,b1,h,f0,f1⟩ ⟨db0,db1,h',g0,g1⟩
  rw [h] at h'; simp only [List.cons.injEq,and_true] at h'
  obtain ⟨e0,e1,e2⟩:=h'
  have z0:x0 = y0:=slV_inj (List.cons.inj (vAgg_inj e0)).1 S_a.enc.inj S_a.enc.len f0 g0
  have z1:x1 = y1:=slV_inj (List.cons.inj (vAgg_inj e1)).1 S_a.enc.inj S_a.enc.len f1 g1
  have z2:x2 = y2:=by injection e2
  subst z0 z1 z2; rfl
 m:=fun n x=>m_bT n (x.1) (x.2.1) (x.2.2)
 lay:=fun r args H=>((vAgg [slV r H.length]),(H ++ slB S_a.c 72 r))
def K_db:Co where
 f:=40
 X:=(Sl S_a)
 R:=Int
 rd:=fun ro H args x=>∃ (b0:Nat),args = [(vAgg [slV x b0])] ∧ SlH H S_a.c 72 x b0
 inj:=by
  rintro ro H args x0 y0 ⟨b0,h,f0⟩ ⟨db0,h',g0⟩
  rw [h] at h'; simp only [List.cons.injEq,and_true] at h'
  have e0:=h'
  have z0:x0 = y0:=slV_inj (List.cons.inj (vAgg_inj e0)).1 S_a.enc.inj S_a.enc.len f0 g0
  subst z0; rfl
 m:=fun n x=>m_bp n x
 lay:=fun r args H=>((.int .i64 (r)),H)
def K_dc:Co where
 f:=51
 X:=Int
 R:=Int
 rd:=fun ro H args x=>args = [(.int .i64 x)]
 inj:=by
  rintro ro H args x0 y0 h h'
  rw [h] at h'; simp only [List.cons.injEq,and_true] at h'
  have e0:=h'
  have z0:x0 = y0:=by injection e0
  subst z0; rfl
 m:=fun n x=>m_6 n x
 lay:=fun r args H=>((.int .i64 (r)),H)
def K_c7:Co where
 f:=52
 X:=(Sl S_a) × Int
 R:=(Sl Int)
 rd:=fun ro H args x=>∃ (b0:Nat),args = [(vAgg [slV (x.1) b0]),(.int .i64 (x.2))] ∧ SlH H S_a.c 72 (x.1) b0
 inj:=by
  rintro ro H args ⟨x0,x1⟩ ⟨y0,y1⟩ ⟨b0,h,f0⟩ ⟨db0,h',g0⟩
  rw [h] at h'; simp only [List.cons.injEq,and_true] at h'
  obtain ⟨e0,e1⟩:=h'
  have z0:x0 = y0:=slV_inj (List.cons.inj (vAgg_inj e0)).1 S_a.enc.inj S_a.enc.len f0 g0
  have z1:x1 = y1:=by injection e1
  subst z0 z1; rfl
 m:=fun n x=>m_b2 n (x.1) (x.2)
 lay:=fun r args H=>((slV r H.length),(H ++ slB (cInt .i64) 3 r))
def K_dg:Co where
 f:=62
 X:=(Sl S_a)
 R:=(Sl Int) × Bool
 rd:=fun ro H args x=>∃ (b0:Nat),args = [(vAgg [slV x b0])] ∧ SlH H S_a.c 72 x b0
 inj:=by
  rintro ro H args x0 y0 ⟨b0,h,f0⟩ ⟨db0,h',g0⟩
  rw [h] at h'; simp only [List.cons.injEq,and_true] at h'
  have e0:=h'
  have z0:x0 = y0:=slV_inj (List.cons.inj (vAgg_inj e0)).1 S_a.enc.inj S_a.enc.len f0 g0
  subst z0; rfl
 m:=fun n x=>m_J n x
 lay:=fun r args H=>((.tuple [(slV r.1 H.length),(.bool (r.2))].toArray),(H ++ slB (cInt .i64) 3 r.1))
def K_cX:Co where
 f:=63
 X:=(Sl S_a)
 R:=(Sl Int)
 rd:=fun ro H args x=>∃ (b0:Nat),args = [(vAgg [slV x b0])] ∧ SlH H S_a.c 72 x b0
 inj:=by
  rintro ro H args x0 y0 ⟨b0,h,f0⟩ ⟨db0,h',g0⟩
  rw [h] at h'; simp only [List.cons.injEq,and_true] at h'
  have e0:=h'
  have z0:x0 = y0:=slV_inj (List.cons.inj (vAgg_inj e0)).1 S_a.enc.inj S_a.enc.len f0 g0
  subst z0; rfl
 m:=fun n x=>m_bs n x
 lay:=fun r args H=>((slV r H.length),(H ++ slB (cInt .i64) 3 r))
def K_cV:Co where
 f:=64
 X:=(Sl S_a)
 R:=Int
 rd:=fun ro H args x=>∃ (b0:Nat),args = [(vAgg [slV x b0])] ∧ SlH H S_a.c 72 x b0
 inj:=by
  rintro ro H args x0 y0 ⟨b0,h,f0⟩ ⟨db0,h',g0⟩
  rw [h] at h'; simp only [List.cons.injEq,and_true] at h'
  have e0:=h'
  have z0:x0 = y0:=slV_inj (List.cons.inj (vAgg_inj e0)).1 S_a.enc.inj S_a.enc.len f0 g0
  subst z0; rfl
 m:=fun n x=>m_bu n x
 lay:=fun r args H=>((.int .i64 (r)),H)
def K_dt:Co where
 f:=65
 X:=(Sl S_a)
 R:=(Sl Int) × (Sl Int)
 rd:=fun ro H args x=>∃ (b0:Nat),args = [(vAgg [slV x b0])] ∧ SlH H S_a.c 72 x b0
 inj:=by
  rintro ro H args x0 y0 ⟨b0,h,f0⟩ ⟨db0,h',g0⟩
  rw [h] at h'; simp only [List.cons.injEq,and_true] at h'
  have e0:=h'
  have z0:x0 = y0:=slV_inj (List.cons.inj (vAgg_inj e0)).1 S_a.enc.inj S_a.enc.len f0 g0
  subst z0; rfl
 m:=fun n x=>m_bQ n x
 lay:=fun r args H=>((.tuple [(slV r.1 H.length),(slV r.2 (H.length + (slB (cInt .i64) 3 r.1).length))].toArray),(H ++ (slB (cInt .i64) 3 r.1 ++ slB (cInt .i64) 3 r.2)))
def K_dv:Co where
 f:=66
 X:=Int
 R:=Int
 rd:=fun ro H args x=>args = [(.int .i64 x)]
 inj:=by
  rintro ro H args x0 y0 h h'
  rw [h] at h'; simp only [List.cons.injEq,and_true] at h'
  have e0:=h'
  have z0:x0 = y0:=by injection e0
  subst z0; rfl
 m:=fun n x=>m_I n x
 lay:=fun r args H=>((.int .i64 (r)),H)
def K_cy:Co where
 f:=68
 X:=(Sl S_a)
 R:=Bool
 rd:=fun ro H args x=>∃ (b0:Nat),args = [(vAgg [slV x b0])] ∧ SlH H S_a.c 72 x b0
 inj:=by
  rintro ro H args x0 y0 ⟨b0,h,f0⟩ ⟨db0,h',g0⟩
  rw [h] at h'; simp only [List.cons.injEq,and_true] at h'
  have e0:=h'
  have z0:x0 = y0:=slV_inj (List.cons.inj (vAgg_inj e0)).1 S_a.enc.inj S_a.enc.len f0 g0
  subst z0; rfl
 m:=fun n x=>m_bk n x
 lay:=fun r args H=>((.bool (r)),H)
def K_cB:Co where
 f:=79
 X:=S_a × Int
 R:=Int
 rd:=fun ro H args x=>args = [(vAgg (S_a.c (x.1))),(.int .i64 (x.2))]
 inj:=by
  rintro ro H args ⟨x0,x1⟩ ⟨y0,y1⟩ h h'
  rw [h] at h'; simp only [List.cons.injEq,and_true] at h'
  obtain ⟨e0,e1⟩:=h'
  have z0:x0 = y0:=S_a.enc.inj _ _ (vAgg_inj e0)
  have z1:x1 = y1:=by injection e1
  subst z0 z1; rfl
 m:=fun n x=>m_U n (x.1) (x.2)
 lay:=fun r args H=>((.int .i64 (r)),H)
def K_ci:Co where
 f:=97
 X:=S_a
 R:=Bool
 rd:=fun ro H args x=>args = [(vAgg (S_a.c x))]
 inj:=by
  rintro ro H args x0 y0 h h'
  rw [h] at h'; simp only [List.cons.injEq,and_true] at h'
  have e0:=h'
  have z0:x0 = y0:=S_a.enc.inj _ _ (vAgg_inj e0)
  subst z0; rfl
 m:=fun n x=>m_T n x
 lay:=fun r args H=>((.bool (r)),H)
def K_bx:Co where
 f:=98
 X:=(Sl Int)
 R:=Int
 rd:=fun ro H args x=>∃ (b0:Nat),args = [(slV x b0)] ∧ SlH H (cInt .i64) 3 x b0
 inj:=by
  rintro ro H args x0 y0 ⟨b0,h,f0⟩ ⟨db0,h',g0⟩
  rw [h] at h'; simp only [List.cons.injEq,and_true] at h'
  have e0:=h'
  have z0:x0 = y0:=slV_inj e0 enc_int.inj enc_int.len f0 g0
  subst z0; rfl
 m:=fun n x=>m_S n x
 lay:=fun r args H=>((.int .i64 (r)),H)
def K_du:Co where
 f:=99
 X:=Int × Int
 R:=Int
 rd:=fun ro H args x=>args = [(.int .i64 (x.1)),(.int .i64 (x.2))]
 inj:=by
  rintro ro H args ⟨x0,x1⟩ ⟨y0,y1⟩ h h'
  rw [h] at h'; simp only [List.cons.injEq,and_true] at h'
  obtain ⟨e0,e1⟩:=h'
  have z0:x0 = y0:=by injection e0
  have z1:x1 = y1:=by injection e1
  subst z0 z1; rfl
 m:=fun n x=>m_bn n (x.1) (x.2)
 lay:=fun r args H=>((.int .i64 (r)),H)
def K_c9:Co where
 f:=100
 X:=Int × Int
 R:=Int
 rd:=fun ro H args x=>args = [(.int .i64 (x.1)),(.int .i64 (x.2))]
 inj:=by
  rintro ro H args ⟨x0,x1⟩ ⟨y0,y1⟩ h h'
  rw [h] at h'; simp only [List.cons.injEq,and_true] at h'
  obtain ⟨e0,e1⟩:=h'
  have z0:x0 = y0:=by injection e0
  have z1:x1 = y1:=by injection e1
  subst z0 z1; rfl
 m:=fun n x=>m_5 n (x.1) (x.2)
 lay:=fun r args H=>((.int .i64 (r)),H)
def K_ca:Co where
 f:=102
 X:=Int × (Sl Int)
 R:=Int
 rd:=fun ro H args x=>∃ (b1:Nat) (s1:Nat),args = [(.int .i64 (x.1)),(.pointer (some ⟨b1,0,none⟩))] ∧ H[b1]? = some (.cells [slV (x.2) s1] 100) ∧ SlH H (cInt .i64) 3 (x.2) s1
 inj:=by
  rintro ro H args ⟨x0,x1⟩ ⟨y0,y1⟩ ⟨b1,s1,h,f0,f1⟩ ⟨db1,ds1,h',g0,g1⟩
  rw [h] at h'; simp only [List.cons.injEq,and_true] at h'
  obtain ⟨e0,e1⟩:=h'
  have z0:x0 = y0:=by injection e0
  have z1:x1 = y1:=by
   have e:b1 = db1:=by injection e1 with e; injection e with e; injection e
   subst e
   have q:slV x1 s1 = slV y1 ds1:=by have q:=f0.symm.trans g0; simpa using q
   exact slV_inj q enc_int.inj enc_int.len f1 g1
  subst z0 z1; rfl
 m:=fun n x=>m_bc n (x.1) (x.2)
 lay:=fun r args H=>((.int .i64 (r)),H)
def K_b7:Co where
 f:=104
 X:=Int × Int × (Sl Int) × (Sl Int)
 R:=Int
 rd:=fun ro H args x=>∃ (d2:Nat) (b2:Nat) (s2:Nat) (b3:Nat) (s3:Nat),args = [(.int .i64 (x.1)),(.int .i64 (x.2.1)),(.pointer (some ⟨d2,0,none⟩)),(.pointer (some ⟨b3,0,none⟩))] ∧ H[d2]? = some (.cells [.func (.func 102) [].toArray [(.pointer (some ⟨b2,0,none⟩))].toArray] 99) ∧ H[b2]? = some (.cells [slV (x.2.2.1) s2] 100) ∧ SlH H (cInt .i64) 3 (x.2.2.1) s2 ∧ H[b3]? = some (.cells [slV (x.2.2.2) s3] 100) ∧ SlH H (cInt .i64) 3 (x.2.2.2) s3
 inj:=by
  rintro ro H args ⟨x0,x1,x2,x3⟩ ⟨y0,y1,y2,y3⟩ ⟨d2,b2,s2,b3,s3,h,f0,f1,f2,f3,f4⟩ ⟨dd2,db2,ds2,db3,ds3,h',g0,g1,g2,g3,g4⟩
  rw [h] at h'; simp only [List.cons.injEq,and_true] at h'
  obtain ⟨e0,e1,e2,e3⟩:=h'
  have z0:x0 = y0:=by injection e0
  have z1:x1 = y1:=by injection e1
  have z2:x2 = y2:=by
   have e:d2 = dd2:=by injection e2 with e; injection e with e; injection e
   subst e
   have e:b2 = db2:=by have q:=f0.symm.trans g0; simpa using q
   subst e
   have q:slV x2 s2 = slV y2 ds2:=by have q:=f1.symm.trans g1; simpa using q
   exact slV_inj q enc_int.inj enc_int.len f2 g2
  have z3:x3 = y3:=by
   have e:b3 = db3:=by injection e3 with e; injection e with e; injection e
   subst e
   have q:slV x3 s3 = slV y3 ds3:=by have q:=f3.symm.trans g3; simpa using q
   exact slV_inj q enc_int.inj enc_int.len f4 g4
  subst z0 z1 z2 z3; rfl
 m:=fun n x=>m_l n (x.1) (x.2.1) (x.2.2.1) (x.2.2.2)
 lay:=fun r args H=>((.int .i64 (r)),H)
def K_b9:Co where
 f:=105
 X:=S_a × (Sl Int)
 R:=Bool
 rd:=fun ro H args x=>∃ (b1:Nat) (s1:Nat),args = [(vAgg (S_a.c (x.1))),(.pointer (some ⟨b1,0,none⟩))] ∧ H[b1]? = some (.cells [slV (x.2) s1] 100) ∧ SlH H (cInt .i64) 3 (x.2) s1
 inj:=by
  rintro ro H args ⟨x0,x1⟩ ⟨y0,y1⟩ ⟨b1,s1,h,f0,f1⟩ ⟨db1,ds1,h',g0,g1⟩
  rw [h] at h'; simp only [List.cons.injEq,and_true] at h'
  obtain ⟨e0,e1⟩:=h'
  have z0:x0 = y0:=S_a.enc.inj _ _ (vAgg_inj e0)
  have z1:x1 = y1:=by
   have e:b1 = db1:=by injection e1 with e; injection e with e; injection e
   subst e
   have q:slV x1 s1 = slV y1 ds1:=by have q:=f0.symm.trans g0; simpa using q
   exact slV_inj q enc_int.inj enc_int.len f1 g1
  subst z0 z1; rfl
 m:=fun n x=>m_Z n (x.1) (x.2)
 lay:=fun r args H=>((.bool (r)),H)
def K_bd:Co where
 f:=106
 X:=(Sl S_a) × (Sl Int)
 R:=Bool
 rd:=fun ro H args x=>∃ (b0:Nat) (b1:Nat) (s1:Nat),args = [(slV (x.1) b0),(.func (.func 105) [].toArray [(.pointer (some ⟨b1,0,none⟩))].toArray)] ∧ SlH H S_a.c 72 (x.1) b0 ∧ H[b1]? = some (.cells [slV (x.2) s1] 100) ∧ SlH H (cInt .i64) 3 (x.2) s1
 inj:=by
  rintro ro H args ⟨x0,x1⟩ ⟨y0,y1⟩ ⟨b0,b1,s1,h,f0,f1,f2⟩ ⟨db0,db1,ds1,h',g0,g1,g2⟩
  rw [h] at h'; simp only [List.cons.injEq,and_true] at h'
  obtain ⟨e0,e1⟩:=h'
  have z0:x0 = y0:=slV_inj e0 S_a.enc.inj S_a.enc.len f0 g0
  have z1:x1 = y1:=by
   have e:b1 = db1:=by simpa using e1
   subst e
   have q:slV x1 s1 = slV y1 ds1:=by have q:=f1.symm.trans g1; simpa using q
   exact slV_inj q enc_int.inj enc_int.len f2 g2
  subst z0 z1; rfl
 m:=fun n x=>m_t n (x.1) (x.2)
 lay:=fun r args H=>((.bool (r)),H)
def K_cd:Co where
 f:=124
 X:=S_a
 R:=S_a
 rd:=fun ro H args x=>args = [(vAgg (S_a.c x))]
 inj:=by
  rintro ro H args x0 y0 h h'
  rw [h] at h'; simp only [List.cons.injEq,and_true] at h'
  have e0:=h'
  have z0:x0 = y0:=S_a.enc.inj _ _ (vAgg_inj e0)
  subst z0; rfl
 m:=fun n x=>m_bF n x
 lay:=fun r args H=>((vAgg (S_a.c (r))),H)
def K_bf:Co where
 f:=138
 X:=(Sl S_a) × (Sl Int)
 R:=Int
 rd:=fun ro H args x=>∃ (b0:Nat) (b1:Nat) (s1:Nat),args = [(slV (x.1) b0),(.func (.func 105) [].toArray [(.pointer (some ⟨b1,0,none⟩))].toArray)] ∧ SlH H S_a.c 72 (x.1) b0 ∧ H[b1]? = some (.cells [slV (x.2) s1] 100) ∧ SlH H (cInt .i64) 3 (x.2) s1
 inj:=by
  rintro ro H args ⟨x0,x1⟩ ⟨y0,y1⟩ ⟨b0,b1,s1,h,f0,f1,f2⟩ ⟨db0,db1,ds1,h',g0,g1,g2⟩
  rw [h] at h'; simp only [List.cons.injEq,and_true] at h'
  obtain ⟨e0,e1⟩:=h'
  have z0:x0 = y0:=slV_inj e0 S_a.enc.inj S_a.enc.len f0 g0
  have z1:x1 = y1:=by
   have e:b1 = db1:=by simpa using e1
   subst e
   have q:slV x1 s1 = slV y1 ds1:=by have q:=f1.symm.trans g1; simpa using q
   exact slV_inj q enc_int.inj enc_int.len f2 g2
  subst z0 z1; rfl
 m:=fun n x=>m_W n (x.1) (x.2)
 lay:=fun r args H=>((.int .i64 (r)),H)
def K_cw:Co where
 f:=25
 X:=Unit
 R:=Bool
 rd:=fun ro H args x=>args = [] ∧ TabH1 H
 inj:=by
  intros; rfl
 m:=fun n x=>m_b4 n
 lay:=fun r args H=>((.bool (r)),H)
def K_cn:Co where
 f:=125
 X:=S_a
 R:=S_a
 rd:=fun ro H args x=>args = [(vAgg (S_a.c x))]
 inj:=by
  rintro ro H args x0 y0 h h'
  rw [h] at h'; simp only [List.cons.injEq,and_true] at h'
  have e0:=h'
  have z0:x0 = y0:=S_a.enc.inj _ _ (vAgg_inj e0)
  subst z0; rfl
 m:=fun n x=>m_bU n x
 lay:=fun r args H=>((vAgg (S_a.c (r))),H)
def T:FuncId → Option Co
 | 11=>some K_b0
 | 18=>some K_de
 | 20=>some K_cU
 | 32=>some K_dx
 | 33=>some K_ds
 | 36=>some K_c1
 | 37=>some K_dq
 | 40=>some K_db
 | 51=>some K_dc
 | 52=>some K_c7
 | 62=>some K_dg
 | 63=>some K_cX
 | 64=>some K_cV
 | 65=>some K_dt
 | 66=>some K_dv
 | 68=>some K_cy
 | 79=>some K_cB
 | 97=>some K_ci
 | 98=>some K_bx
 | 99=>some K_du
 | 100=>some K_c9
 | 102=>some K_ca
 | 104=>some K_b7
 | 105=>some K_b9
 | 106=>some K_bd
 | 124=>some K_cd
 | 138=>some K_bf
 | 25=>some K_cw
 | 125=>some K_cn
 | 103=>some K_N
 | _=>none
theorem srt_len {cf:Int → Int → Int} {l:List Int}:(srt cf l).length = l.length:=List.length_mergeSort _
theorem z_cz {n:Nat}:A_bI (tabC T n) (m_h n):=fun ro nb H x0 b0 x1 d1 b1 s1 r hro h0 f1 f2 f3 n1 n2 n3 hm=>by
 have h:=ans_tab (T:=T) (n:=n) (k:=K_N) rfl ro H _ (x0,x1) r ⟨b0,d1,b1,s1,rfl,h0.weak hro,f1,f2,f3,n1,n2,n3⟩ hm
 refine ⟨_,h,?_⟩
 cases x0 with
 | none =>
  obtain rfl:=m103_none hm
  exact ⟨h0,⟨rfl,fun _ _=>rfl⟩,fun _=>rfl,rfl,rfl⟩
 | some l =>
  obtain ⟨k,rfl,_,_,_,_,rfl⟩:=m103_some hm
  obtain ⟨g1,g2⟩:=h0 l rfl
  refine ⟨fun l' hl'=>?_,⟨?_,fun x hx=>?_⟩,fun b=>?_,by simp,?_⟩
  ·injection hl' with hl'; subst hl'; exact ⟨g1,get_set g2⟩
  ·simp [K_N]
  ·exact List.getElem?_set_ne (fun e=>hx (by simp) e.symm)
  ·simp only [slV,srt_len]
  ·simp only [Sl.l,srt_len]
theorem alias18 {n:Nat} {x0 r:Sl S_a} {x1:Int} (h:m_bq n x0 x1 = some r):(r ≠ none → x0 ≠ none) ∧ ∀ (H:Hp) (b:Nat),SlH H S_a.c 72 x0 b → SlH H S_a.c 72 r b:=by
 cases n with
 | zero=>cases h
 | succ n =>
  simp only [m_bq,b_b3,Option.bind_eq_some_iff,Option.some.injEq] at h
  obtain ⟨y,hy,rfl⟩:=h
  exact ⟨Sl.upto_none hy,fun H b hs=>hs.upto hy⟩
theorem z_eZ {n:Nat}:A_dV (tabC T n) (m_bq n):=fun ro H x0 b0 x1 r f0 hm=>⟨by
 have h:=ans_tab (T:=T) (n:=n) (k:=K_de) rfl ro H _ ⟨x0,x1⟩ r ⟨b0,rfl,f0⟩ hm
 cases x0 with
 | none =>
  obtain rfl:r = none:=Classical.byContradiction fun hr=>(alias18 hm).1 hr rfl
  exact h
 | some l=>exact h,alias18 hm⟩
theorem z_eE {n:Nat}:A_dN (tabC T n) (m_E n):=fun ro H x0 b0 x1 r f0 hm=>ans_tab (k:=K_cU) rfl ro H _ ⟨x0,x1⟩ r ⟨b0,rfl,f0⟩ hm
theorem z_e6 {n:Nat}:A_en (tabC T n) (m_bW n):=fun ro H x0 b0 r f0 hm=>ans_tab (k:=K_dx) rfl ro H _ x0 r ⟨b0,rfl,f0⟩ hm
theorem z_e4 {n:Nat}:A_ep (tabC T n) (m_cc n):=fun ro H x0 b0 x1 r f0 hm=>ans_tab (k:=K_ds) rfl ro H _ ⟨x0,x1⟩ r ⟨b0,rfl,f0⟩ hm
theorem z_eO {n:Nat}:A_dM (tabC T n) (m_bP n):=fun ro H x0 b0 r f0 hm=>ans_tab (k:=K_c1) rfl ro H _ x0 r ⟨b0,rfl,f0⟩ hm
theorem z_e7 {n:Nat}:A_ef (tabC T n) (m_bT n):=fun ro H x0 b0 x1 b1 x2 r f0 f1 hm=>ans_tab (k:=K_dq) rfl ro H _ ⟨x0,x1,x2⟩ r ⟨b0,b1,rfl,f0,f1⟩ hm
theorem z_eU {n:Nat}:A_dY (tabC T n) (m_bp n):=fun ro H x0 b0 r f0 hm=>ans_tab (k:=K_db) rfl ro H _ x0 r ⟨b0,rfl,f0⟩ hm
theorem z_dK {n:Nat}:A_dh (tabC T n) (m_6 n):=fun ro H x0 r hm=>ans_tab (k:=K_dc) rfl ro H _ x0 r rfl hm
theorem z_eQ {n:Nat}:A_d1 (tabC T n) (m_b2 n):=fun ro H x0 b0 x1 r f0 hm=>ans_tab (k:=K_c7) rfl ro H _ ⟨x0,x1⟩ r ⟨b0,rfl,f0⟩ hm
theorem z_cN {n:Nat}:A_cv (tabC T n) (m_J n):=fun ro H x0 b0 r f0 hm=>ans_tab (k:=K_dg) rfl ro H _ x0 r ⟨b0,rfl,f0⟩ hm
theorem z_dy {n:Nat}:A_cR (tabC T n) (m_bs n):=fun ro H x0 b0 r f0 hm=>ans_tab (k:=K_cX) rfl ro H _ x0 r ⟨b0,rfl,f0⟩ hm
theorem z_eH {n:Nat}:A_dL (tabC T n) (m_bu n):=fun ro H x0 b0 r f0 hm=>ans_tab (k:=K_cV) rfl ro H _ x0 r ⟨b0,rfl,f0⟩ hm
theorem z_e3 {n:Nat}:A_eh (tabC T n) (m_bQ n):=fun ro H x0 b0 r f0 hm=>ans_tab (k:=K_dt) rfl ro H _ x0 r ⟨b0,rfl,f0⟩ hm
theorem z_di {n:Nat}:A_cH (tabC T n) (m_I n):=fun ro H x0 r hm=>ans_tab (k:=K_dv) rfl ro H _ x0 r rfl hm
theorem z_eu {n:Nat}:A_dA (tabC T n) (m_bk n):=fun ro H x0 b0 r f0 hm=>ans_tab (k:=K_cy) rfl ro H _ x0 r ⟨b0,rfl,f0⟩ hm
theorem z_ex {n:Nat}:A_dz (tabC T n) (m_U n):=fun ro H x0 x1 r hm=>ans_tab (k:=K_cB) rfl ro H _ ⟨x0,x1⟩ r rfl hm
theorem z_d7 {n:Nat}:A_c5 (tabC T n) (m_T n):=fun ro H x0 r hm=>ans_tab (k:=K_ci) rfl ro H _ x0 r rfl hm
theorem z_dm {n:Nat}:A_cf (tabC T n) (m_S n):=fun ro H x0 b0 r f0 hm=>ans_tab (k:=K_bx) rfl ro H _ x0 r ⟨b0,rfl,f0⟩ hm
theorem z_e0 {n:Nat}:A_ed (tabC T n) (m_bn n):=fun ro H x0 x1 r hm=>ans_tab (k:=K_du) rfl ro H _ ⟨x0,x1⟩ r rfl hm
theorem z_eR {n:Nat}:A_dU (tabC T n) (m_5 n):=fun ro H x0 x1 r hm=>ans_tab (k:=K_c9) rfl ro H _ ⟨x0,x1⟩ r rfl hm
theorem z_dO {n:Nat}:A_cO (tabC T n) (m_bc n):=fun ro H x0 x1 b1 s1 r f0 f1 hm=>ans_tab (k:=K_ca) rfl ro H _ ⟨x0,x1⟩ r ⟨b1,s1,rfl,f0,f1⟩ hm
theorem z_dQ {n:Nat}:A_d6 (tabC T n) (m_l n):=fun ro H x0 x1 x2 d2 b2 s2 x3 b3 s3 r f0 f1 f2 f3 f4 hm=>ans_tab (k:=K_b7) rfl ro H _ ⟨x0,x1,x2,x3⟩ r ⟨d2,b2,s2,b3,s3,rfl,f0,f1,f2,f3,f4⟩ hm
theorem z_dS {n:Nat}:A_cW (tabC T n) (m_Z n):=fun ro H x0 x1 b1 s1 r f0 f1 hm=>ans_tab (k:=K_b9) rfl ro H _ ⟨x0,x1⟩ r ⟨b1,s1,rfl,f0,f1⟩ hm
theorem z_cT {n:Nat}:A_bY (tabC T n) (m_t n):=fun ro H x0 b0 x1 b1 s1 r f0 f1 f2 hm=>ans_tab (k:=K_bd) rfl ro H _ ⟨x0,x1⟩ r ⟨b0,b1,s1,rfl,f0,f1,f2⟩ hm
theorem z_d2 {n:Nat}:A_c6 (tabC T n) (m_bF n):=fun ro H x0 r hm=>ans_tab (k:=K_cd) rfl ro H _ x0 r rfl hm
theorem z_cY {n:Nat}:A_bX (tabC T n) (m_W n):=fun ro H x0 b0 x1 b1 s1 r f0 f1 f2 hm=>ans_tab (k:=K_bf) rfl ro H _ ⟨x0,x1⟩ r ⟨b0,b1,s1,rfl,f0,f1,f2⟩ hm
theorem z_eA {n:Nat}:A_dB (tabC T n) (m_b4 n):=fun ro H  r f0 hm=>ans_tab (k:=K_cw) rfl ro H _ () r ⟨rfl,f0⟩ hm
theorem z_ei {n:Nat}:A_dl (tabC T n) (m_bU n):=fun ro H x0 r hm=>ans_tab (k:=K_cn) rfl ro H _ x0 r rfl hm
end
end Go.Proofs.YtaadjlpfdajggaaGreatDoor
