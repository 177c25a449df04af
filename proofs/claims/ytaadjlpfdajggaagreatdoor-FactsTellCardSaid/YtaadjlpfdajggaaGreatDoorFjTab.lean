import Derived.Test.YtaadjlpfdajggaaGreatDoorFjV0
import Derived.Test.YtaadjlpfdajggaaGreatDoorFjV1
import Derived.Test.YtaadjlpfdajggaaGreatDoorFjV2
import Derived.Test.YtaadjlpfdajggaaGreatDoorFjV3
import Derived.Test.YtaadjlpfdajggaaGreatDoorFjV4
import Derived.Test.YtaadjlpfdajggaaGreatDoorFjAm25
set_option maxRecDepth 100000
set_option linter.unusedVariables false
set_option linter.unusedSimpArgs false
namespace Go.Proofs.YtaadjlpfdajggaaGreatDoor
open Go Go.AM
noncomputable section
def m_ec:Nat -> Option (Bool)
 | 0=>none
 | _ + 1=>some true
def m_dP:Nat -> S_c -> Option (S_c)
 | 0,_=>none
 | _ + 1,x0=>some (ownS x0)
def m_cQ:Nat -> (Sl S_c) -> Int -> Option ((Sl S_c))
 | 0,_,_=>none
 | n + 1,x0,x1=>b_d2 n x0 x1
def m_d3:Nat -> S_c -> Option (S_d)
 | 0,_=>none
 | n + 1,x0=>b_gh n x0
def m_d4:Nat -> (Sl S_c) -> Option ((Sl S_d))
 | 0,_=>none
 | n + 1,x0=>b_fc (m_d3 n) n x0
def m_ch:Nat -> Int -> Option (Int)
 | 0,_=>none
 | n + 1,x0=>b_fB n x0
def m_dx:Nat -> S_c -> Option (S_c)
 | 0,_=>none
 | n + 1,x0=>b_dw n x0
def m_bJ:Nat -> S_c -> Option (Bool)
 | 0,_=>none
 | n + 1,x0=>b_du (m_dx n) (m_dP n) n x0
def m_bG:Nat -> (Sl S_c) -> Option ((Sl Int) × Bool)
 | 0,_=>none
 | n + 1,x0=>b_e2 (m_ch n) (m_bJ n) n x0
def m_dA:Nat -> (Sl S_c) -> Option ((Sl Int))
 | 0,_=>none
 | n + 1,x0=>b_eH (m_ch n) n x0
def m_bI:Nat -> (Sl Int) -> Option (Int)
 | 0,_=>none
 | n + 1,x0=>b_ce n x0
def m_cW:Nat -> (Sl S_c) -> Option (Int)
 | 0,_=>none
 | n + 1,x0=>b_el (m_bG n) (m_dA n) (m_bI n) n x0
def m_cO:Nat -> Int -> Int -> Option (Int)
 | 0,_,_=>none
 | n + 1,x0,x1=>b_fy n x0 x1
def m_cj:Nat -> Int -> Int -> Option (Int)
 | 0,_,_=>none
 | n + 1,x0,x1=>b_fa n x0 x1
def m_dS:Nat -> (Sl S_c) -> Option ((Sl Int) × (Sl Int))
 | 0,_=>none
 | n + 1,x0=>b_fA (m_cO n) (m_cj n) n x0
def m_cw:Nat -> Int -> (Sl Int) -> Option (Int)
 | 0,_,_=>none
 | n + 1,x0,x1=>b_c4 n x0 x1
def m_y:Nat -> Int -> Int -> (Sl Int) -> (Sl Int) -> Option (Int)
 | 0,_,_,_,_=>none
 | n + 1,x0,x1,x2,x3=>b_c5 (m_cw n) n x0 x1 x2 x3
def m_p:Nat -> Sl Int -> Sl Int -> Option (Sl Int)
 | 0,_,_=>none
 | _ + 1,none,_=>some none
 | n + 1,some l,x1=>open Classical in
  if l ≠ [] /\ l.length < 4611686018427387904 /\ (∀ x ∈ l,∀ y ∈ l,m_y n x y x1 x1 ≠ none) /\ OrdOn (ltC fun x y=>(m_y n x y x1 x1).getD 0) l then some (some (srt (fun x y=>(m_y n x y x1 x1).getD 0) l)) else none
theorem m103_some {n:Nat} {l:List Int} {x1 r:Sl Int} (h:m_p n (some l) x1 = some r):∃ k,n = k + 1 /\ l ≠ [] /\ l.length < 4611686018427387904 /\ (∀ x ∈ l,∀ y ∈ l,m_y k x y x1 x1 ≠ none) /\ OrdOn (ltC fun x y=>(m_y k x y x1 x1).getD 0) l /\ r = some (srt (fun x y=>(m_y k x y x1 x1).getD 0) l):=by
 cases n with
 | zero=>simp [m_p] at h
 | succ n =>
  simp only [m_p] at h
  split at h
  ·rename_i hc; injection h with h; exact ⟨n,rfl,hc.1,hc.2.1,hc.2.2.1,hc.2.2.2,h.symm⟩
  ·cases h
theorem m103_none {n:Nat} {x1 r:Sl Int} (h:m_p n none x1 = some r):r = none:=by
 cases n with
 | zero=>simp [m_p] at h
 | succ n=>simp only [m_p,Option.some.injEq] at h; exact h.symm
def m_bU:Nat -> S_c -> (Sl Int) -> Option (Bool)
 | 0,_,_=>none
 | n + 1,x0,x1=>b_da n x0 x1
def m_bO:Nat -> (Sl S_c) -> (Sl Int) -> Option (Int)
 | 0,_,_=>none
 | n + 1,x0,x1=>b_bP (m_bU n) n x0 x1
def m_U:Nat -> (Sl S_c) -> (Sl Int) -> Option (Bool)
 | 0,_,_=>none
 | n + 1,x0,x1=>b_bR (m_bO n) n x0 x1
def m_cI:Nat -> (Sl S_c) -> Option (Bool)
 | 0,_=>none
 | n + 1,x0=>b_ee (m_bG n) (m_p n) (m_U n) n x0
def m_cR:Nat -> (Sl S_c) -> Option (Int)
 | 0,_=>none
 | n + 1,x0=>b_eX (m_cW n) (m_dS n) (m_cI n) n x0
def m_b0:Nat -> Int -> Option (Int)
 | 0,_=>none
 | n + 1,x0=>b_4 n x0
def m_bk:Nat -> S_g -> Option (Int)
 | 0,_=>none
 | n + 1,x0=>b_cL (m_b0 n) n x0
def m_9:Nat -> Int -> Option (Int)
 | 0,_=>none
 | n + 1,x0=>b_bW n x0
def m_bb:Nat -> S_g -> Option (Int × Bool)
 | 0,_=>none
 | n + 1,x0=>b_bo (m_9 n) n x0
def m_V:Nat -> S_g -> Option (S_a)
 | 0,_=>none
 | n + 1,x0=>b_b9 (m_bk n) (m_bb n) n x0
def m_bm:Nat -> Option (S_a)
 | 0=>none
 | n + 1=>b_eu n
def m_ej:Nat -> S_g -> Option (S_g)
 | 0,_=>none
 | n + 1,x0=>b_eJ n x0
def m_cm:Nat -> Option (S_g)
 | 0=>none
 | n + 1=>b_ge (m_ej n) n
def m_co:Nat -> S_g -> S_g -> Option (S_g)
 | 0,_,_=>none
 | n + 1,x0,x1=>b_eP n x0 x1
def m_cc:Nat -> S_a -> Option (S_a)
 | 0,_=>none
 | n + 1,x0=>b_cT n x0
def m_cl:Nat -> S_a -> S_a -> Option (S_a)
 | 0,_,_=>none
 | n + 1,x0,x1=>b_e9 (m_co n) (m_cc n) n x0 x1
def m_cn:Nat -> S_a -> S_a -> Option (S_a)
 | 0,_,_=>none
 | n + 1,x0,x1=>b_eZ (m_co n) n x0 x1
def m_bE:Nat -> S_c -> S_a -> Option (S_a)
 | 0,_,_=>none
 | n + 1,x0,x1=>b_dN (m_bm n) n x0 x1
def m_dj:Nat -> (Sl S_c) -> Option ((Sl S_a))
 | 0,_=>none
 | n + 1,x0=>b_e1 (m_V n) (m_bm n) (m_cm n) (m_cl n) (m_cn n) (m_bE n) n x0
def m_dO:Nat -> (Sl S_c) -> Option (S_e × Int)
 | 0,_=>none
 | n + 1,x0=>b_dR (m_cR n) (m_dj n) n x0
def m_bY:Nat -> Int -> Option (Int)
 | 0,_=>none
 | n + 1,x0=>b_eo n x0
def m_dF:Nat -> S_d -> Option (Bool)
 | 0,_=>none
 | n + 1,x0=>b_em n x0
def m_cs:Nat -> (Sl S_d) -> Int -> Option (Int)
 | 0,_,_=>none
 | n + 1,x0,x1=>b_eG (m_bY n) (m_cs n) (m_dF n) n x0 x1
def m_b1:Nat -> (Sl S_d) -> Int -> Option (Int)
 | 0,_,_=>none
 | n + 1,x0,x1=>b_c0 (m_bY n) (m_b1 n) n x0 x1
def m_dC:Nat -> (Sl S_d) -> Option (Int)
 | 0,_=>none
 | n + 1,x0=>b_ev (m_cs n) (m_b1 n) n x0
def m_bz:Nat -> (Sl S_d) -> Option (Int)
 | 0,_=>none
 | n + 1,x0=>b_dJ (m_dC n) n x0
def m_P:Nat -> (Sl S_d) -> Int -> Option ((Sl Int))
 | 0,_,_=>none
 | n + 1,x0,x1=>b_b2 (m_P n) (m_bY n) n x0 x1
def m_cY:Nat -> Int -> Int -> Option (Int)
 | 0,_,_=>none
 | n + 1,x0,x1=>b_ep n x0 x1
def m_cG:Nat -> Int -> Int -> Option (Int)
 | 0,_,_=>none
 | n + 1,x0,x1=>b_d9 n x0 x1
def m_K:Nat -> (Sl S_d) -> Int -> Option (Int × Int)
 | 0,_,_=>none
 | n + 1,x0,x1=>b_cZ (m_K n) (m_cY n) (m_cG n) n x0 x1
def m_b8:Nat -> (Sl S_d) -> Option (Int)
 | 0,_=>none
 | n + 1,x0=>b_ed (m_bz n) (m_P n) (m_K n) n x0
def m_c2:Nat -> (Arr Int 4) -> Option (S_f)
 | 0,_=>none
 | n + 1,x0=>b_et n x0
def m_d5:Nat -> S_f -> Option (Int × Bool)
 | 0,_=>none
 | n + 1,x0=>b_e7 n x0
def m_dZ:Nat -> S_f -> Option (Int)
 | 0,_=>none
 | n + 1,x0=>b_e6 n x0
def m_dh:Nat -> Int -> Int -> Option (S_f)
 | 0,_,_=>none
 | n + 1,x0,x1=>b_d7 n x0 x1
def m_dH:Nat -> S_f -> S_f -> Option (S_f)
 | 0,_,_=>none
 | n + 1,x0,x1=>b_fC n x0 x1
def m_dp:Nat -> ByteArray -> Bool -> Option (ByteArray × Bool)
 | 0,_,_=>none
 | n + 1,x0,x1=>b_eW n x0 x1
mutual
def m_L:Nat -> (Sl S_d) -> Int -> Option (S_b × Bool)
 | 0,_,_=>none
 | n + 1,x0,x1=>b_c1 (m_L n) (m_c2 n) (m_d5 n) (m_dZ n) (m_dh n) (m_d1 n) n x0 x1
def m_d1:Nat -> (Sl S_d) -> S_d -> Option (S_b × Bool)
 | 0,_,_=>none
 | n + 1,x0,x1=>b_e5 (m_L n) (m_K n) (m_dH n) (m_dp n) n x0 x1
end
def m_dK:Nat -> (Sl S_d) -> Option (S_b × Int)
 | 0,_=>none
 | n + 1,x0=>b_dM (m_b8 n) (m_L n) n x0
def m_dY:Nat -> S_e -> Option (S_b)
 | 0,_=>none
 | n + 1,x0=>b_e0 (m_c2 n) n x0
def m_dX:Nat -> (Sl S_c) -> Option (Bool)
 | 0,_=>none
 | n + 1,x0=>b_cU (m_cQ n) (m_d4 n) (m_dO n) (m_dK n) (m_dY n) (m_ec n) n x0
def K_bF:Co where
 f:=103
 X:=Sl Int × Sl Int
 R:=Sl Int
 rd:=fun ro H args x=>∃ b0 d1 b1 s1,args = [slV x.1 b0,(.func (.func 104) [].toArray [(pT d1),(pT b1)].toArray)] /\ SlO ro H (cInt .i64) 3 x.1 b0 /\ H[d1]? = some (.cells [.func (.func 102) [].toArray [(pT b1)].toArray] 99) /\ H[b1]? = some (.cells [slV x.2 s1] 100) /\ SlH H (cInt .i64) 3 x.2 s1 /\ (x.1 ≠ none -> b0 ≠ d1) /\ (x.1 ≠ none -> b0 ≠ b1) /\ (x.1 ≠ none -> x.2 ≠ none -> b0 ≠ s1)
 inj:=by
  rintro ro H args ⟨x0,x1⟩ ⟨y0,y1⟩ ⟨b0,d1,b1,s1,h,f0,f1,f2,f3,_⟩ ⟨c_kF,k1,c_kr,u1,h',g0,g1,g2,g3,_⟩;rw [h] at h'; simp only [List.cons.injEq,and_true] at h';obtain ⟨e0,e1⟩:=h';have z0:x0 = y0:=slV_inj e0 enc_int.inj enc_int.len f0.h g0.h
  have q:d1 = k1 /\ b1 = c_kr:=by simpa using e1
  obtain ⟨rfl,rfl⟩:=q
  have q:slV x1 s1 = slV y1 u1:=by have q:=f2.symm.trans g2; simpa using q
  have z1:x1 = y1:=slV_inj q enc_int.inj enc_int.len f3 g3;subst z0 z1; rfl
 m:=fun n x=>m_p n x.1 x.2
 lay:=fun r args H=>(.tuple [].toArray,match r with | none=>H | some l=>H.set (blkOf (args.getD 0 default)) (.cells (l.flatMap (cInt .i64)) 3))
def K_dW:Co where
 f:=5
 X:=(Sl S_c)
 R:=Bool
 rd:=fun ro H args x=>∃ (b0:Nat),args = [(vAgg [slV x b0])] /\ SlH H S_c.c 72 x b0 /\ TabH1 H
 inj:=by
  rintro ro H args x0 y0 ⟨b0,h,f0,f1⟩ ⟨db0,h',g0,g1⟩;rw [h] at h'; simp only [List.cons.injEq,and_true] at h';have e0:=h';have z0:x0 = y0:=slV_inj (List.cons.inj (vAgg_inj e0)).1 S_c.enc.inj S_c.enc.len f0 g0;subst z0; rfl
 m:=fun n x=>m_dX n x
 lay:=fun r args H=>((.bool (r)),H)
def K_gx:Co where
 f:=18
 X:=(Sl S_c) × Int
 R:=(Sl S_c)
 rd:=fun ro H args x=>∃ (b0:Nat),args = [(vAgg [slV (x.1) b0]),(.int .i64 (x.2))] /\ SlH H S_c.c 72 (x.1) b0
 inj:=by
  rintro ro H args ⟨x0,x1⟩ ⟨y0,y1⟩ ⟨b0,h,f0⟩ ⟨db0,h',g0⟩;rw [h] at h'; simp only [List.cons.injEq,and_true] at h';obtain ⟨e0,e1⟩:=h';have z0:x0 = y0:=slV_inj (List.cons.inj (vAgg_inj e0)).1 S_c.enc.inj S_c.enc.len f0 g0
  have z1:x1 = y1:=by injection e1
  subst z0 z1; rfl
 m:=fun n x=>m_cQ n (x.1) (x.2)
 lay:=fun r args H=>((vAgg [slV r (blkA (args.getD 0 default))]),H)
def K_gy:Co where
 f:=19
 X:=(Sl S_c)
 R:=(Sl S_d)
 rd:=fun ro H args x=>∃ (b0:Nat),args = [(vAgg [slV x b0])] /\ SlH H S_c.c 72 x b0
 inj:=by
  rintro ro H args x0 y0 ⟨b0,h,f0⟩ ⟨db0,h',g0⟩;rw [h] at h'; simp only [List.cons.injEq,and_true] at h';have e0:=h';have z0:x0 = y0:=slV_inj (List.cons.inj (vAgg_inj e0)).1 S_c.enc.inj S_c.enc.len f0 g0;subst z0; rfl
 m:=fun n x=>m_d4 n x
 lay:=fun r args H=>((slV r H.length),(H ++ slB S_d.c 97 r))
def K_gR:Co where
 f:=26
 X:=(Sl S_c)
 R:=S_e × Int
 rd:=fun ro H args x=>∃ (b0:Nat),args = [(vAgg [slV x b0])] /\ SlH H S_c.c 72 x b0 /\ TabH1 H
 inj:=by
  rintro ro H args x0 y0 ⟨b0,h,f0,f1⟩ ⟨db0,h',g0,g1⟩;rw [h] at h'; simp only [List.cons.injEq,and_true] at h';have e0:=h';have z0:x0 = y0:=slV_inj (List.cons.inj (vAgg_inj e0)).1 S_c.enc.inj S_c.enc.len f0 g0;subst z0; rfl
 m:=fun n x=>m_dO n x
 lay:=fun r args H=>((.tuple [(vAgg (S_e.c (r.1))),(.int .i64 (r.2))].toArray),H)
def K_gK:Co where
 f:=27
 X:=(Sl S_d)
 R:=S_b × Int
 rd:=fun ro H args x=>∃ (b0:Nat),args = [(slV x b0)] /\ SlH H S_d.c 97 x b0
 inj:=by
  rintro ro H args x0 y0 ⟨b0,h,f0⟩ ⟨db0,h',g0⟩;rw [h] at h'; simp only [List.cons.injEq,and_true] at h';have e0:=h';have z0:x0 = y0:=slV_inj e0 S_d.enc.inj S_d.enc.len f0 g0;subst z0; rfl
 m:=fun n x=>m_dK n x
 lay:=fun r args H=>((.tuple [(vAgg (S_b.c (r.1))),(.int .i64 (r.2))].toArray),H)
def K_gw:Co where
 f:=28
 X:=S_e
 R:=S_b
 rd:=fun ro H args x=>args = [(vAgg (S_e.c x))]
 inj:=by
  rintro ro H args x0 y0 h h';rw [h] at h'; simp only [List.cons.injEq,and_true] at h';have e0:=h';have z0:x0 = y0:=S_e.enc.inj _ _ (vAgg_inj e0);subst z0; rfl
 m:=fun n x=>m_dY n x
 lay:=fun r args H=>((vAgg (S_b.c (r))),H)
def K_eV:Co where
 f:=38
 X:=S_g × S_g
 R:=S_g
 rd:=fun ro H args x=>args = [(vAgg (S_g.c (x.1))),(vAgg (S_g.c (x.2)))]
 inj:=by
  rintro ro H args ⟨x0,x1⟩ ⟨y0,y1⟩ h h';rw [h] at h'; simp only [List.cons.injEq,and_true] at h';obtain ⟨e0,e1⟩:=h';have z0:x0 = y0:=S_g.enc.inj _ _ (vAgg_inj e0);have z1:x1 = y1:=S_g.enc.inj _ _ (vAgg_inj e1);subst z0 z1; rfl
 m:=fun n x=>m_co n (x.1) (x.2)
 lay:=fun r args H=>((vAgg (S_g.c (r))),H)
def K_gj:Co where
 f:=40
 X:=(Sl S_c)
 R:=Int
 rd:=fun ro H args x=>∃ (b0:Nat),args = [(vAgg [slV x b0])] /\ SlH H S_c.c 72 x b0
 inj:=by
  rintro ro H args x0 y0 ⟨b0,h,f0⟩ ⟨db0,h',g0⟩;rw [h] at h'; simp only [List.cons.injEq,and_true] at h';have e0:=h';have z0:x0 = y0:=slV_inj (List.cons.inj (vAgg_inj e0)).1 S_c.enc.inj S_c.enc.len f0 g0;subst z0; rfl
 m:=fun n x=>m_cR n x
 lay:=fun r args H=>((.int .i64 (r)),H)
def K_ez:Co where
 f:=44
 X:=S_g
 R:=Int
 rd:=fun ro H args x=>args = [(vAgg (S_g.c x))]
 inj:=by
  rintro ro H args x0 y0 h h';rw [h] at h'; simp only [List.cons.injEq,and_true] at h';have e0:=h';have z0:x0 = y0:=S_g.enc.inj _ _ (vAgg_inj e0);subst z0; rfl
 m:=fun n x=>m_bk n x
 lay:=fun r args H=>((.int .i64 (r)),H)
def K_gC:Co where
 f:=50
 X:=S_c
 R:=S_d
 rd:=fun ro H args x=>args = [(vAgg (S_c.c x))]
 inj:=by
  rintro ro H args x0 y0 h h';rw [h] at h'; simp only [List.cons.injEq,and_true] at h';have e0:=h';have z0:x0 = y0:=S_c.enc.inj _ _ (vAgg_inj e0);subst z0; rfl
 m:=fun n x=>m_d3 n x
 lay:=fun r args H=>((vAgg (S_d.c (r))),H)
def K_fk:Co where
 f:=53
 X:=(Sl S_d)
 R:=Int
 rd:=fun ro H args x=>∃ (b0:Nat),args = [(slV x b0)] /\ SlH H S_d.c 97 x b0
 inj:=by
  rintro ro H args x0 y0 ⟨b0,h,f0⟩ ⟨db0,h',g0⟩;rw [h] at h'; simp only [List.cons.injEq,and_true] at h';have e0:=h';have z0:x0 = y0:=slV_inj e0 S_d.enc.inj S_d.enc.len f0 g0;subst z0; rfl
 m:=fun n x=>m_b8 n x
 lay:=fun r args H=>((.int .i64 (r)),H)
def K_gn:Co where
 f:=57
 X:=(Sl S_c)
 R:=(Sl S_a)
 rd:=fun ro H args x=>∃ (b0:Nat),args = [(vAgg [slV x b0])] /\ SlH H S_c.c 72 x b0 /\ TabH1 H
 inj:=by
  rintro ro H args x0 y0 ⟨b0,h,f0,f1⟩ ⟨db0,h',g0,g1⟩;rw [h] at h'; simp only [List.cons.injEq,and_true] at h';have e0:=h';have z0:x0 = y0:=slV_inj (List.cons.inj (vAgg_inj e0)).1 S_c.enc.inj S_c.enc.len f0 g0;subst z0; rfl
 m:=fun n x=>m_dj n x
 lay:=fun r args H=>((slV r H.length),(H ++ slB S_a.c 107 r))
def K_fK:Co where
 f:=58
 X:=(Sl S_d) × Int
 R:=S_b × Bool
 rd:=fun ro H args x=>∃ (b0:Nat),args = [(slV (x.1) b0),(.int .i64 (x.2))] /\ SlH H S_d.c 97 (x.1) b0
 inj:=by
  rintro ro H args ⟨x0,x1⟩ ⟨y0,y1⟩ ⟨b0,h,f0⟩ ⟨db0,h',g0⟩;rw [h] at h'; simp only [List.cons.injEq,and_true] at h';obtain ⟨e0,e1⟩:=h';have z0:x0 = y0:=slV_inj e0 S_d.enc.inj S_d.enc.len f0 g0
  have z1:x1 = y1:=by injection e1
  subst z0 z1; rfl
 m:=fun n x=>m_L n (x.1) (x.2)
 lay:=fun r args H=>((.tuple [(vAgg (S_b.c (r.1))),(.bool (r.2))].toArray),H)
def K_gT:Co where
 f:=59
 X:=(Arr Int 4)
 R:=S_f
 rd:=fun ro H args x=>args = [(vAgg ((cArr (n:=4) (cInt .u64)) x))]
 inj:=by
  rintro ro H args x0 y0 h h';rw [h] at h'; simp only [List.cons.injEq,and_true] at h';have e0:=h';have z0:x0 = y0:=(enc_arr (n:=4) enc_int).inj _ _ (vAgg_inj e0);subst z0; rfl
 m:=fun n x=>m_c2 n x
 lay:=fun r args H=>((vAgg (S_f.c (r))),H)
def K_go:Co where
 f:=62
 X:=(Sl S_c)
 R:=(Sl Int) × Bool
 rd:=fun ro H args x=>∃ (b0:Nat),args = [(vAgg [slV x b0])] /\ SlH H S_c.c 72 x b0
 inj:=by
  rintro ro H args x0 y0 ⟨b0,h,f0⟩ ⟨db0,h',g0⟩;rw [h] at h'; simp only [List.cons.injEq,and_true] at h';have e0:=h';have z0:x0 = y0:=slV_inj (List.cons.inj (vAgg_inj e0)).1 S_c.enc.inj S_c.enc.len f0 g0;subst z0; rfl
 m:=fun n x=>m_bG n x
 lay:=fun r args H=>((.tuple [(slV r.1 H.length),(.bool (r.2))].toArray),(H ++ slB (cInt .i64) 3 r.1))
def K_fP:Co where
 f:=63
 X:=(Sl S_c)
 R:=(Sl Int)
 rd:=fun ro H args x=>∃ (b0:Nat),args = [(vAgg [slV x b0])] /\ SlH H S_c.c 72 x b0
 inj:=by
  rintro ro H args x0 y0 ⟨b0,h,f0⟩ ⟨db0,h',g0⟩;rw [h] at h'; simp only [List.cons.injEq,and_true] at h';have e0:=h';have z0:x0 = y0:=slV_inj (List.cons.inj (vAgg_inj e0)).1 S_c.enc.inj S_c.enc.len f0 g0;subst z0; rfl
 m:=fun n x=>m_dA n x
 lay:=fun r args H=>((slV r H.length),(H ++ slB (cInt .i64) 3 r))
def K_fZ:Co where
 f:=64
 X:=(Sl S_c)
 R:=Int
 rd:=fun ro H args x=>∃ (b0:Nat),args = [(vAgg [slV x b0])] /\ SlH H S_c.c 72 x b0
 inj:=by
  rintro ro H args x0 y0 ⟨b0,h,f0⟩ ⟨db0,h',g0⟩;rw [h] at h'; simp only [List.cons.injEq,and_true] at h';have e0:=h';have z0:x0 = y0:=slV_inj (List.cons.inj (vAgg_inj e0)).1 S_c.enc.inj S_c.enc.len f0 g0;subst z0; rfl
 m:=fun n x=>m_cW n x
 lay:=fun r args H=>((.int .i64 (r)),H)
def K_gQ:Co where
 f:=65
 X:=(Sl S_c)
 R:=(Sl Int) × (Sl Int)
 rd:=fun ro H args x=>∃ (b0:Nat),args = [(vAgg [slV x b0])] /\ SlH H S_c.c 72 x b0
 inj:=by
  rintro ro H args x0 y0 ⟨b0,h,f0⟩ ⟨db0,h',g0⟩;rw [h] at h'; simp only [List.cons.injEq,and_true] at h';have e0:=h';have z0:x0 = y0:=slV_inj (List.cons.inj (vAgg_inj e0)).1 S_c.enc.inj S_c.enc.len f0 g0;subst z0; rfl
 m:=fun n x=>m_dS n x
 lay:=fun r args H=>((.tuple [(slV r.1 H.length),(slV r.2 (H.length + (slB (cInt .i64) 3 r.1).length))].toArray),(H ++ (slB (cInt .i64) 3 r.1 ++ slB (cInt .i64) 3 r.2)))
def K_gN:Co where
 f:=66
 X:=Int
 R:=Int
 rd:=fun ro H args x=>args = [(.int .i64 x)]
 inj:=by
  rintro ro H args x0 y0 h h';rw [h] at h'; simp only [List.cons.injEq,and_true] at h';have e0:=h'
  have z0:x0 = y0:=by injection e0
  subst z0; rfl
 m:=fun n x=>m_ch n x
 lay:=fun r args H=>((.int .i64 (r)),H)
def K_ft:Co where
 f:=68
 X:=(Sl S_c)
 R:=Bool
 rd:=fun ro H args x=>∃ (b0:Nat),args = [(vAgg [slV x b0])] /\ SlH H S_c.c 72 x b0
 inj:=by
  rintro ro H args x0 y0 ⟨b0,h,f0⟩ ⟨db0,h',g0⟩;rw [h] at h'; simp only [List.cons.injEq,and_true] at h';have e0:=h';have z0:x0 = y0:=slV_inj (List.cons.inj (vAgg_inj e0)).1 S_c.enc.inj S_c.enc.len f0 g0;subst z0; rfl
 m:=fun n x=>m_cI n x
 lay:=fun r args H=>((.bool (r)),H)
def K_dB:Co where
 f:=72
 X:=Int
 R:=Int
 rd:=fun ro H args x=>args = [(.int .u64 x)]
 inj:=by
  rintro ro H args x0 y0 h h';rw [h] at h'; simp only [List.cons.injEq,and_true] at h';have e0:=h'
  have z0:x0 = y0:=by injection e0
  subst z0; rfl
 m:=fun n x=>m_b0 n x
 lay:=fun r args H=>((.int .i64 (r)),H)
def K_eT:Co where
 f:=80
 X:=(Sl S_d)
 R:=Int
 rd:=fun ro H args x=>∃ (b0:Nat),args = [(slV x b0)] /\ SlH H S_d.c 97 x b0
 inj:=by
  rintro ro H args x0 y0 ⟨b0,h,f0⟩ ⟨db0,h',g0⟩;rw [h] at h'; simp only [List.cons.injEq,and_true] at h';have e0:=h';have z0:x0 = y0:=slV_inj e0 S_d.enc.inj S_d.enc.len f0 g0;subst z0; rfl
 m:=fun n x=>m_bz n x
 lay:=fun r args H=>((.int .i64 (r)),H)
def K_eA:Co where
 f:=81
 X:=(Sl S_d) × Int
 R:=(Sl Int)
 rd:=fun ro H args x=>∃ (b0:Nat),args = [(slV (x.1) b0),(.int .i64 (x.2))] /\ SlH H S_d.c 97 (x.1) b0
 inj:=by
  rintro ro H args ⟨x0,x1⟩ ⟨y0,y1⟩ ⟨b0,h,f0⟩ ⟨db0,h',g0⟩;rw [h] at h'; simp only [List.cons.injEq,and_true] at h';obtain ⟨e0,e1⟩:=h';have z0:x0 = y0:=slV_inj e0 S_d.enc.inj S_d.enc.len f0 g0
  have z1:x1 = y1:=by injection e1
  subst z0 z1; rfl
 m:=fun n x=>m_P n (x.1) (x.2)
 lay:=fun r args H=>((slV r H.length),(H ++ slB (cInt .i64) 3 r))
def K_fR:Co where
 f:=82
 X:=(Sl S_d) × Int
 R:=Int × Int
 rd:=fun ro H args x=>∃ (b0:Nat),args = [(slV (x.1) b0),(.int .i64 (x.2))] /\ SlH H S_d.c 97 (x.1) b0
 inj:=by
  rintro ro H args ⟨x0,x1⟩ ⟨y0,y1⟩ ⟨b0,h,f0⟩ ⟨db0,h',g0⟩;rw [h] at h'; simp only [List.cons.injEq,and_true] at h';obtain ⟨e0,e1⟩:=h';have z0:x0 = y0:=slV_inj e0 S_d.enc.inj S_d.enc.len f0 g0
  have z1:x1 = y1:=by injection e1
  subst z0 z1; rfl
 m:=fun n x=>m_K n (x.1) (x.2)
 lay:=fun r args H=>((.tuple [(.int .i64 (r.1)),(.int .i64 (r.2))].toArray),H)
def K_fU:Co where
 f:=83
 X:=Int
 R:=Int
 rd:=fun ro H args x=>args = [(.int .i64 x)]
 inj:=by
  rintro ro H args x0 y0 h h';rw [h] at h'; simp only [List.cons.injEq,and_true] at h';have e0:=h'
  have z0:x0 = y0:=by injection e0
  subst z0; rfl
 m:=fun n x=>m_bY n x
 lay:=fun r args H=>((.int .i64 (r)),H)
def K_fr:Co where
 f:=86
 X:=S_g
 R:=S_a
 rd:=fun ro H args x=>args = [(vAgg (S_g.c x))] /\ TabH1 H
 inj:=by
  rintro ro H args x0 y0 ⟨h,f0⟩ ⟨h',g0⟩;rw [h] at h'; simp only [List.cons.injEq,and_true] at h';have e0:=h';have z0:x0 = y0:=S_g.enc.inj _ _ (vAgg_inj e0);subst z0; rfl
 m:=fun n x=>m_V n x
 lay:=fun r args H=>((vAgg (S_a.c (r))),H)
def K_en:Co where
 f:=87
 X:=Unit
 R:=S_a
 rd:=fun ro H args x=>args = []
 inj:=by
  intros; rfl
 m:=fun n x=>m_bm n
 lay:=fun r args H=>((vAgg (S_a.c (r))),H)
def K_gi:Co where
 f:=88
 X:=Unit
 R:=S_g
 rd:=fun ro H args x=>args = []
 inj:=by
  intros; rfl
 m:=fun n x=>m_cm n
 lay:=fun r args H=>((vAgg (S_g.c (r))),H)
def K_gA:Co where
 f:=89
 X:=S_a × S_a
 R:=S_a
 rd:=fun ro H args x=>args = [(vAgg (S_a.c (x.1))),(vAgg (S_a.c (x.2)))]
 inj:=by
  rintro ro H args ⟨x0,x1⟩ ⟨y0,y1⟩ h h';rw [h] at h'; simp only [List.cons.injEq,and_true] at h';obtain ⟨e0,e1⟩:=h';have z0:x0 = y0:=S_a.enc.inj _ _ (vAgg_inj e0);have z1:x1 = y1:=S_a.enc.inj _ _ (vAgg_inj e1);subst z0 z1; rfl
 m:=fun n x=>m_cl n (x.1) (x.2)
 lay:=fun r args H=>((vAgg (S_a.c (r))),H)
def K_gg:Co where
 f:=90
 X:=S_a × S_a
 R:=S_a
 rd:=fun ro H args x=>args = [(vAgg (S_a.c (x.1))),(vAgg (S_a.c (x.2)))]
 inj:=by
  rintro ro H args ⟨x0,x1⟩ ⟨y0,y1⟩ h h';rw [h] at h'; simp only [List.cons.injEq,and_true] at h';obtain ⟨e0,e1⟩:=h';have z0:x0 = y0:=S_a.enc.inj _ _ (vAgg_inj e0);have z1:x1 = y1:=S_a.enc.inj _ _ (vAgg_inj e1);subst z0 z1; rfl
 m:=fun n x=>m_cn n (x.1) (x.2)
 lay:=fun r args H=>((vAgg (S_a.c (r))),H)
def K_eS:Co where
 f:=91
 X:=S_c × S_a
 R:=S_a
 rd:=fun ro H args x=>args = [(vAgg (S_c.c (x.1))),(vAgg (S_a.c (x.2)))]
 inj:=by
  rintro ro H args ⟨x0,x1⟩ ⟨y0,y1⟩ h h';rw [h] at h'; simp only [List.cons.injEq,and_true] at h';obtain ⟨e0,e1⟩:=h';have z0:x0 = y0:=S_c.enc.inj _ _ (vAgg_inj e0);have z1:x1 = y1:=S_a.enc.inj _ _ (vAgg_inj e1);subst z0 z1; rfl
 m:=fun n x=>m_bE n (x.1) (x.2)
 lay:=fun r args H=>((vAgg (S_a.c (r))),H)
def K_gv:Co where
 f:=92
 X:=S_f
 R:=Int × Bool
 rd:=fun ro H args x=>args = [(vAgg (S_f.c x))]
 inj:=by
  rintro ro H args x0 y0 h h';rw [h] at h'; simp only [List.cons.injEq,and_true] at h';have e0:=h';have z0:x0 = y0:=S_f.enc.inj _ _ (vAgg_inj e0);subst z0; rfl
 m:=fun n x=>m_d5 n x
 lay:=fun r args H=>((.tuple [(.int .u8 (r.1)),(.bool (r.2))].toArray),H)
def K_gd:Co where
 f:=93
 X:=S_f
 R:=Int
 rd:=fun ro H args x=>args = [(vAgg (S_f.c x))]
 inj:=by
  rintro ro H args x0 y0 h h';rw [h] at h'; simp only [List.cons.injEq,and_true] at h';have e0:=h';have z0:x0 = y0:=S_f.enc.inj _ _ (vAgg_inj e0);subst z0; rfl
 m:=fun n x=>m_dZ n x
 lay:=fun r args H=>((.int .i64 (r)),H)
def K_fm:Co where
 f:=94
 X:=Int × Int
 R:=S_f
 rd:=fun ro H args x=>args = [(.int .u8 (x.1)),(.int .u8 (x.2))]
 inj:=by
  rintro ro H args ⟨x0,x1⟩ ⟨y0,y1⟩ h h';rw [h] at h'; simp only [List.cons.injEq,and_true] at h';obtain ⟨e0,e1⟩:=h'
  have z0:x0 = y0:=by injection e0
  have z1:x1 = y1:=by injection e1
  subst z0 z1; rfl
 m:=fun n x=>m_dh n (x.1) (x.2)
 lay:=fun r args H=>((vAgg (S_f.c (r))),H)
def K_gm:Co where
 f:=95
 X:=(Sl S_d) × S_d
 R:=S_b × Bool
 rd:=fun ro H args x=>∃ (b0:Nat),args = [(slV (x.1) b0),(vAgg (S_d.c (x.2)))] /\ SlH H S_d.c 97 (x.1) b0
 inj:=by
  rintro ro H args ⟨x0,x1⟩ ⟨y0,y1⟩ ⟨b0,h,f0⟩ ⟨db0,h',g0⟩;rw [h] at h'; simp only [List.cons.injEq,and_true] at h';obtain ⟨e0,e1⟩:=h';have z0:x0 = y0:=slV_inj e0 S_d.enc.inj S_d.enc.len f0 g0;have z1:x1 = y1:=S_d.enc.inj _ _ (vAgg_inj e1);subst z0 z1; rfl
 m:=fun n x=>m_d1 n (x.1) (x.2)
 lay:=fun r args H=>((.tuple [(vAgg (S_b.c (r.1))),(.bool (r.2))].toArray),H)
def K_eK:Co where
 f:=97
 X:=S_c
 R:=Bool
 rd:=fun ro H args x=>args = [(vAgg (S_c.c x))]
 inj:=by
  rintro ro H args x0 y0 h h';rw [h] at h'; simp only [List.cons.injEq,and_true] at h';have e0:=h';have z0:x0 = y0:=S_c.enc.inj _ _ (vAgg_inj e0);subst z0; rfl
 m:=fun n x=>m_bJ n x
 lay:=fun r args H=>((.bool (r)),H)
def K_c3:Co where
 f:=98
 X:=(Sl Int)
 R:=Int
 rd:=fun ro H args x=>∃ (b0:Nat),args = [(slV x b0)] /\ SlH H (cInt .i64) 3 x b0
 inj:=by
  rintro ro H args x0 y0 ⟨b0,h,f0⟩ ⟨db0,h',g0⟩;rw [h] at h'; simp only [List.cons.injEq,and_true] at h';have e0:=h';have z0:x0 = y0:=slV_inj e0 enc_int.inj enc_int.len f0 g0;subst z0; rfl
 m:=fun n x=>m_bI n x
 lay:=fun r args H=>((.int .i64 (r)),H)
def K_gS:Co where
 f:=99
 X:=Int × Int
 R:=Int
 rd:=fun ro H args x=>args = [(.int .i64 (x.1)),(.int .i64 (x.2))]
 inj:=by
  rintro ro H args ⟨x0,x1⟩ ⟨y0,y1⟩ h h';rw [h] at h'; simp only [List.cons.injEq,and_true] at h';obtain ⟨e0,e1⟩:=h'
  have z0:x0 = y0:=by injection e0
  have z1:x1 = y1:=by injection e1
  subst z0 z1; rfl
 m:=fun n x=>m_cO n (x.1) (x.2)
 lay:=fun r args H=>((.int .i64 (r)),H)
def K_gq:Co where
 f:=100
 X:=Int × Int
 R:=Int
 rd:=fun ro H args x=>args = [(.int .i64 (x.1)),(.int .i64 (x.2))]
 inj:=by
  rintro ro H args ⟨x0,x1⟩ ⟨y0,y1⟩ h h';rw [h] at h'; simp only [List.cons.injEq,and_true] at h';obtain ⟨e0,e1⟩:=h'
  have z0:x0 = y0:=by injection e0
  have z1:x1 = y1:=by injection e1
  subst z0 z1; rfl
 m:=fun n x=>m_cj n (x.1) (x.2)
 lay:=fun r args H=>((.int .i64 (r)),H)
def K_eg:Co where
 f:=102
 X:=Int × (Sl Int)
 R:=Int
 rd:=fun ro H args x=>∃ (b1:Nat) (s1:Nat),args = [(.int .i64 (x.1)),(pT b1)] /\ H[b1]? = some (.cells [slV (x.2) s1] 100) /\ SlH H (cInt .i64) 3 (x.2) s1
 inj:=by
  rintro ro H args ⟨x0,x1⟩ ⟨y0,y1⟩ ⟨b1,s1,h,f0,f1⟩ ⟨db1,ds1,h',g0,g1⟩;rw [h] at h'; simp only [List.cons.injEq,and_true] at h';obtain ⟨e0,e1⟩:=h'
  have z0:x0 = y0:=by injection e0
  have z1:x1 = y1:=by
   have e:b1 = db1:=by injection e1 with e; injection e with e; injection e
   subst e
   have q:slV x1 s1 = slV y1 ds1:=by have q:=f0.symm.trans g0; simpa using q
   exact slV_inj q enc_int.inj enc_int.len f1 g1
  subst z0 z1; rfl
 m:=fun n x=>m_cw n (x.1) (x.2)
 lay:=fun r args H=>((.int .i64 (r)),H)
def K_eh:Co where
 f:=104
 X:=Int × Int × (Sl Int) × (Sl Int)
 R:=Int
 rd:=fun ro H args x=>∃ (d2:Nat) (b2:Nat) (s2:Nat) (b3:Nat) (s3:Nat),args = [(.int .i64 (x.1)),(.int .i64 (x.2.1)),(pT d2),(pT b3)] /\ H[d2]? = some (.cells [.func (.func 102) [].toArray [(pT b2)].toArray] 99) /\ H[b2]? = some (.cells [slV (x.2.2.1) s2] 100) /\ SlH H (cInt .i64) 3 (x.2.2.1) s2 /\ H[b3]? = some (.cells [slV (x.2.2.2) s3] 100) /\ SlH H (cInt .i64) 3 (x.2.2.2) s3
 inj:=by
  rintro ro H args ⟨x0,x1,x2,x3⟩ ⟨y0,y1,y2,y3⟩ ⟨d2,b2,s2,b3,s3,h,f0,f1,f2,f3,f4⟩ ⟨dd2,db2,ds2,db3,ds3,h',g0,g1,g2,g3,g4⟩;rw [h] at h'; simp only [List.cons.injEq,and_true] at h';obtain ⟨e0,e1,e2,e3⟩:=h'
  have z0:x0 = y0:=by injection e0
  have z1:x1 = y1:=by injection e1
  have z2:x2 = y2:=by
   have e:d2 = dd2:=by injection e2 with e; injection e with e; injection e
   subst e
   have e:b2 = db2:=by have q:=f0.symm.trans g0; simpa using q
   subst e
   have q:slV x2 s2 = slV y2 ds2:=by have q:=f1.symm.trans g1; simpa using q
   exact slV_inj q enc_int.inj enc_int.len f2 g2
  have z3:x3 = y3:=by
   have e:b3 = db3:=by injection e3 with e; injection e with e; injection e
   subst e
   have q:slV x3 s3 = slV y3 ds3:=by have q:=f3.symm.trans g3; simpa using q
   exact slV_inj q enc_int.inj enc_int.len f4 g4
  subst z0 z1 z2 z3; rfl
 m:=fun n x=>m_y n (x.1) (x.2.1) (x.2.2.1) (x.2.2.2)
 lay:=fun r args H=>((.int .i64 (r)),H)
def K_ei:Co where
 f:=105
 X:=S_c × (Sl Int)
 R:=Bool
 rd:=fun ro H args x=>∃ (b1:Nat) (s1:Nat),args = [(vAgg (S_c.c (x.1))),(pT b1)] /\ H[b1]? = some (.cells [slV (x.2) s1] 100) /\ SlH H (cInt .i64) 3 (x.2) s1
 inj:=by
  rintro ro H args ⟨x0,x1⟩ ⟨y0,y1⟩ ⟨b1,s1,h,f0,f1⟩ ⟨db1,ds1,h',g0,g1⟩;rw [h] at h'; simp only [List.cons.injEq,and_true] at h';obtain ⟨e0,e1⟩:=h';have z0:x0 = y0:=S_c.enc.inj _ _ (vAgg_inj e0)
  have z1:x1 = y1:=by
   have e:b1 = db1:=by injection e1 with e; injection e with e; injection e
   subst e
   have q:slV x1 s1 = slV y1 ds1:=by have q:=f0.symm.trans g0; simpa using q
   exact slV_inj q enc_int.inj enc_int.len f1 g1
  subst z0 z1; rfl
 m:=fun n x=>m_bU n (x.1) (x.2)
 lay:=fun r args H=>((.bool (r)),H)
def K_cy:Co where
 f:=106
 X:=(Sl S_c) × (Sl Int)
 R:=Bool
 rd:=fun ro H args x=>∃ (b0:Nat) (b1:Nat) (s1:Nat),args = [(slV (x.1) b0),(.func (.func 105) [].toArray [(pT b1)].toArray)] /\ SlH H S_c.c 72 (x.1) b0 /\ H[b1]? = some (.cells [slV (x.2) s1] 100) /\ SlH H (cInt .i64) 3 (x.2) s1
 inj:=by
  rintro ro H args ⟨x0,x1⟩ ⟨y0,y1⟩ ⟨b0,b1,s1,h,f0,f1,f2⟩ ⟨db0,db1,ds1,h',g0,g1,g2⟩;rw [h] at h'; simp only [List.cons.injEq,and_true] at h';obtain ⟨e0,e1⟩:=h';have z0:x0 = y0:=slV_inj e0 S_c.enc.inj S_c.enc.len f0 g0
  have z1:x1 = y1:=by
   have e:b1 = db1:=by simpa using e1
   subst e
   have q:slV x1 s1 = slV y1 ds1:=by have q:=f1.symm.trans g1; simpa using q
   exact slV_inj q enc_int.inj enc_int.len f2 g2
  subst z0 z1; rfl
 m:=fun n x=>m_U n (x.1) (x.2)
 lay:=fun r args H=>((.bool (r)),H)
def K_eL:Co where
 f:=113
 X:=S_g
 R:=S_g
 rd:=fun ro H args x=>args = [(vAgg (S_g.c x))]
 inj:=by
  rintro ro H args x0 y0 h h';rw [h] at h'; simp only [List.cons.injEq,and_true] at h';have e0:=h';have z0:x0 = y0:=S_g.enc.inj _ _ (vAgg_inj e0);subst z0; rfl
 m:=fun n x=>m_ej n x
 lay:=fun r args H=>((vAgg (S_g.c (r))),H)
def K_fQ:Co where
 f:=116
 X:=(Sl S_d)
 R:=Int
 rd:=fun ro H args x=>∃ (b0:Nat),args = [(slV x b0)] /\ SlH H S_d.c 97 x b0
 inj:=by
  rintro ro H args x0 y0 ⟨b0,h,f0⟩ ⟨db0,h',g0⟩;rw [h] at h'; simp only [List.cons.injEq,and_true] at h';have e0:=h';have z0:x0 = y0:=slV_inj e0 S_d.enc.inj S_d.enc.len f0 g0;subst z0; rfl
 m:=fun n x=>m_dC n x
 lay:=fun r args H=>((.int .i64 (r)),H)
def K_fE:Co where
 f:=117
 X:=Int × Int
 R:=Int
 rd:=fun ro H args x=>args = [(.int .i64 (x.1)),(.int .i64 (x.2))]
 inj:=by
  rintro ro H args ⟨x0,x1⟩ ⟨y0,y1⟩ h h';rw [h] at h'; simp only [List.cons.injEq,and_true] at h';obtain ⟨e0,e1⟩:=h'
  have z0:x0 = y0:=by injection e0
  have z1:x1 = y1:=by injection e1
  subst z0 z1; rfl
 m:=fun n x=>m_cY n (x.1) (x.2)
 lay:=fun r args H=>((.int .i64 (r)),H)
def K_fh:Co where
 f:=118
 X:=Int × Int
 R:=Int
 rd:=fun ro H args x=>args = [(.int .i64 (x.1)),(.int .i64 (x.2))]
 inj:=by
  rintro ro H args ⟨x0,x1⟩ ⟨y0,y1⟩ h h';rw [h] at h'; simp only [List.cons.injEq,and_true] at h';obtain ⟨e0,e1⟩:=h'
  have z0:x0 = y0:=by injection e0
  have z1:x1 = y1:=by injection e1
  subst z0 z1; rfl
 m:=fun n x=>m_cG n (x.1) (x.2)
 lay:=fun r args H=>((.int .i64 (r)),H)
def K_eD:Co where
 f:=120
 X:=S_g
 R:=Int × Bool
 rd:=fun ro H args x=>args = [(vAgg (S_g.c x))] /\ TabH1 H
 inj:=by
  rintro ro H args x0 y0 ⟨h,f0⟩ ⟨h',g0⟩;rw [h] at h'; simp only [List.cons.injEq,and_true] at h';have e0:=h';have z0:x0 = y0:=S_g.enc.inj _ _ (vAgg_inj e0);subst z0; rfl
 m:=fun n x=>m_bb n x
 lay:=fun r args H=>((.tuple [(.int .u8 (r.1)),(.bool (r.2))].toArray),H)
def K_dV:Co where
 f:=121
 X:=S_a
 R:=S_a
 rd:=fun ro H args x=>args = [(vAgg (S_a.c x))]
 inj:=by
  rintro ro H args x0 y0 h h';rw [h] at h'; simp only [List.cons.injEq,and_true] at h';have e0:=h';have z0:x0 = y0:=S_a.enc.inj _ _ (vAgg_inj e0);subst z0; rfl
 m:=fun n x=>m_cc n x
 lay:=fun r args H=>((vAgg (S_a.c (r))),H)
def K_gO:Co where
 f:=122
 X:=S_f × S_f
 R:=S_f
 rd:=fun ro H args x=>args = [(vAgg (S_f.c (x.1))),(vAgg (S_f.c (x.2)))]
 inj:=by
  rintro ro H args ⟨x0,x1⟩ ⟨y0,y1⟩ h h';rw [h] at h'; simp only [List.cons.injEq,and_true] at h';obtain ⟨e0,e1⟩:=h';have z0:x0 = y0:=S_f.enc.inj _ _ (vAgg_inj e0);have z1:x1 = y1:=S_f.enc.inj _ _ (vAgg_inj e1);subst z0 z1; rfl
 m:=fun n x=>m_dH n (x.1) (x.2)
 lay:=fun r args H=>((vAgg (S_f.c (r))),H)
def K_gf:Co where
 f:=123
 X:=ByteArray × Bool
 R:=ByteArray × Bool
 rd:=fun ro H args x=>args = [(.string (x.1)),(.bool (x.2))]
 inj:=by
  rintro ro H args ⟨x0,x1⟩ ⟨y0,y1⟩ h h';rw [h] at h'; simp only [List.cons.injEq,and_true] at h';obtain ⟨e0,e1⟩:=h'
  have z0:x0 = y0:=by injection e0
  have z1:x1 = y1:=by injection e1
  subst z0 z1; rfl
 m:=fun n x=>m_dp n (x.1) (x.2)
 lay:=fun r args H=>((.tuple [(.string (r.1)),(.bool (r.2))].toArray),H)
def K_ek:Co where
 f:=124
 X:=S_c
 R:=S_c
 rd:=fun ro H args x=>args = [(vAgg (S_c.c x))]
 inj:=by
  rintro ro H args x0 y0 h h';rw [h] at h'; simp only [List.cons.injEq,and_true] at h';have e0:=h';have z0:x0 = y0:=S_c.enc.inj _ _ (vAgg_inj e0);subst z0; rfl
 m:=fun n x=>m_dx n x
 lay:=fun r args H=>((vAgg (S_c.c (r))),H)
def K_cA:Co where
 f:=138
 X:=(Sl S_c) × (Sl Int)
 R:=Int
 rd:=fun ro H args x=>∃ (b0:Nat) (b1:Nat) (s1:Nat),args = [(slV (x.1) b0),(.func (.func 105) [].toArray [(pT b1)].toArray)] /\ SlH H S_c.c 72 (x.1) b0 /\ H[b1]? = some (.cells [slV (x.2) s1] 100) /\ SlH H (cInt .i64) 3 (x.2) s1
 inj:=by
  rintro ro H args ⟨x0,x1⟩ ⟨y0,y1⟩ ⟨b0,b1,s1,h,f0,f1,f2⟩ ⟨db0,db1,ds1,h',g0,g1,g2⟩;rw [h] at h'; simp only [List.cons.injEq,and_true] at h';obtain ⟨e0,e1⟩:=h';have z0:x0 = y0:=slV_inj e0 S_c.enc.inj S_c.enc.len f0 g0
  have z1:x1 = y1:=by
   have e:b1 = db1:=by simpa using e1
   subst e
   have q:slV x1 s1 = slV y1 ds1:=by have q:=f1.symm.trans g1; simpa using q
   exact slV_inj q enc_int.inj enc_int.len f2 g2
  subst z0 z1; rfl
 m:=fun n x=>m_bO n (x.1) (x.2)
 lay:=fun r args H=>((.int .i64 (r)),H)
def K_fS:Co where
 f:=150
 X:=(Sl S_d) × Int
 R:=Int
 rd:=fun ro H args x=>∃ (b0:Nat),args = [(slV (x.1) b0),(.int .i64 (x.2))] /\ SlH H S_d.c 97 (x.1) b0
 inj:=by
  rintro ro H args ⟨x0,x1⟩ ⟨y0,y1⟩ ⟨b0,h,f0⟩ ⟨db0,h',g0⟩;rw [h] at h'; simp only [List.cons.injEq,and_true] at h';obtain ⟨e0,e1⟩:=h';have z0:x0 = y0:=slV_inj e0 S_d.enc.inj S_d.enc.len f0 g0
  have z1:x1 = y1:=by injection e1
  subst z0 z1; rfl
 m:=fun n x=>m_cs n (x.1) (x.2)
 lay:=fun r args H=>((.int .i64 (r)),H)
def K_fW:Co where
 f:=151
 X:=(Sl S_d) × Int
 R:=Int
 rd:=fun ro H args x=>∃ (b0:Nat),args = [(slV (x.1) b0),(.int .i64 (x.2))] /\ SlH H S_d.c 97 (x.1) b0
 inj:=by
  rintro ro H args ⟨x0,x1⟩ ⟨y0,y1⟩ ⟨b0,h,f0⟩ ⟨db0,h',g0⟩;rw [h] at h'; simp only [List.cons.injEq,and_true] at h';obtain ⟨e0,e1⟩:=h';have z0:x0 = y0:=slV_inj e0 S_d.enc.inj S_d.enc.len f0 g0
  have z1:x1 = y1:=by injection e1
  subst z0 z1; rfl
 m:=fun n x=>m_b1 n (x.1) (x.2)
 lay:=fun r args H=>((.int .i64 (r)),H)
def K_cS:Co where
 f:=152
 X:=Int
 R:=Int
 rd:=fun ro H args x=>args = [(.int .u64 x)] /\ TabH1 H
 inj:=by
  rintro ro H args x0 y0 ⟨h,f0⟩ ⟨h',g0⟩;rw [h] at h'; simp only [List.cons.injEq,and_true] at h';have e0:=h'
  have z0:x0 = y0:=by injection e0
  subst z0; rfl
 m:=fun n x=>m_9 n x
 lay:=fun r args H=>((.int .i64 (r)),H)
def K_fG:Co where
 f:=168
 X:=S_d
 R:=Bool
 rd:=fun ro H args x=>args = [(vAgg (S_d.c x))]
 inj:=by
  rintro ro H args x0 y0 h h';rw [h] at h'; simp only [List.cons.injEq,and_true] at h';have e0:=h';have z0:x0 = y0:=S_d.enc.inj _ _ (vAgg_inj e0);subst z0; rfl
 m:=fun n x=>m_dF n x
 lay:=fun r args H=>((.bool (r)),H)
def K_fi:Co where
 f:=29
 X:=Unit
 R:=Bool
 rd:=fun ro H args x=>args = [] /\ TabH1 H
 inj:=by
  intros; rfl
 m:=fun n x=>m_ec n
 lay:=fun r args H=>((.bool (r)),H)
def K_eQ:Co where
 f:=125
 X:=S_c
 R:=S_c
 rd:=fun ro H args x=>args = [(vAgg (S_c.c x))]
 inj:=by
  rintro ro H args x0 y0 h h';rw [h] at h'; simp only [List.cons.injEq,and_true] at h';have e0:=h';have z0:x0 = y0:=S_c.enc.inj _ _ (vAgg_inj e0);subst z0; rfl
 m:=fun n x=>m_dP n x
 lay:=fun r args H=>((vAgg (S_c.c (r))),H)
def T:FuncId -> Option Co
 | 5=>some K_dW
 | 18=>some K_gx
 | 19=>some K_gy
 | 26=>some K_gR
 | 27=>some K_gK
 | 28=>some K_gw
 | 38=>some K_eV
 | 40=>some K_gj
 | 44=>some K_ez
 | 50=>some K_gC
 | 53=>some K_fk
 | 57=>some K_gn
 | 58=>some K_fK
 | 59=>some K_gT
 | 62=>some K_go
 | 63=>some K_fP
 | 64=>some K_fZ
 | 65=>some K_gQ
 | 66=>some K_gN
 | 68=>some K_ft
 | 72=>some K_dB
 | 80=>some K_eT
 | 81=>some K_eA
 | 82=>some K_fR
 | 83=>some K_fU
 | 86=>some K_fr
 | 87=>some K_en
 | 88=>some K_gi
 | 89=>some K_gA
 | 90=>some K_gg
 | 91=>some K_eS
 | 92=>some K_gv
 | 93=>some K_gd
 | 94=>some K_fm
 | 95=>some K_gm
 | 97=>some K_eK
 | 98=>some K_c3
 | 99=>some K_gS
 | 100=>some K_gq
 | 102=>some K_eg
 | 104=>some K_eh
 | 105=>some K_ei
 | 106=>some K_cy
 | 113=>some K_eL
 | 116=>some K_fQ
 | 117=>some K_fE
 | 118=>some K_fh
 | 120=>some K_eD
 | 121=>some K_dV
 | 122=>some K_gO
 | 123=>some K_gf
 | 124=>some K_ek
 | 138=>some K_cA
 | 150=>some K_fS
 | 151=>some K_fW
 | 152=>some K_cS
 | 168=>some K_fG
 | 29=>some K_fi
 | 125=>some K_eQ
 | 103=>some K_bF
 | _=>none
theorem srt_len {cf:Int -> Int -> Int} {l:List Int}:(srt cf l).length = l.length:=List.length_mergeSort _
theorem z_ff {n:Nat}:A_ds (tabC T n) (m_p n):=fun ro nb H x0 b0 x1 d1 b1 s1 r hro h0 f1 f2 f3 n1 n2 n3 hm=>by
 have h:=ans_tab (T:=T) (n:=n) (k:=K_bF) rfl ro H _ (x0,x1) r ⟨b0,d1,b1,s1,rfl,h0.weak hro,f1,f2,f3,n1,n2,n3⟩ hm;refine ⟨_,h,?_⟩
 cases x0 with
 | none =>
  obtain rfl:=m103_none hm;exact ⟨h0,⟨rfl,fun _ _=>rfl⟩,fun _=>rfl,rfl,rfl⟩
 | some l =>
  obtain ⟨k,rfl,_,_,_,_,rfl⟩:=m103_some hm;obtain ⟨g1,g2⟩:=h0 l rfl;refine ⟨fun l' hl'=>?_,⟨?_,fun x hx=>?_⟩,fun b=>?_,by simp,?_⟩
  ·injection hl' with hl'; subst hl'; exact ⟨g1,get_set g2⟩
  ·simp [K_bF]
  ·exact List.getElem?_set_ne (fun e=>hx (by simp) e.symm)
  ·simp only [slV,srt_len]
  ·simp only [Sl.l,srt_len]
theorem alias18 {n:Nat} {x0 r:Sl S_c} {x1:Int} (h:m_cQ n x0 x1 = some r):(r ≠ none -> x0 ≠ none) /\ ∀ (H:Hp) (b:Nat),SlH H S_c.c 72 x0 b -> SlH H S_c.c 72 r b:=by
 cases n with
 | zero=>cases h
 | succ n =>
  simp only [m_cQ,b_d2,Option.bind_eq_some_iff,Option.some.injEq] at h;obtain ⟨y,hy,rfl⟩:=h;exact ⟨Sl.upto_none hy,fun H b hs=>hs.upto hy⟩
theorem z_jT {n:Nat}:A_hO (tabC T n) (m_cQ n):=fun ro H x0 b0 x1 r f0 hm=>⟨by
 have h:=ans_tab (T:=T) (n:=n) (k:=K_gx) rfl ro H _ ⟨x0,x1⟩ r ⟨b0,rfl,f0⟩ hm
 cases x0 with
 | none =>
  obtain rfl:r = none:=Classical.byContradiction fun hr=>(alias18 hm).1 hr rfl;exact h
 | some l=>exact h,alias18 hm⟩
theorem z_jC {n:Nat}:A_hU (tabC T n) (m_d4 n):=fun ro H x0 b0 r f0 hm=>ans_tab (k:=K_gy) rfl ro H _ x0 r ⟨b0,rfl,f0⟩ hm
theorem z_ki {n:Nat}:A_iE (tabC T n) (m_dO n):=fun ro H x0 b0 r f0 f1 hm=>ans_tab (k:=K_gR) rfl ro H _ x0 r ⟨b0,rfl,f0,f1⟩ hm
theorem z_kv {n:Nat}:A_iF (tabC T n) (m_dK n):=fun ro H x0 b0 r f0 hm=>ans_tab (k:=K_gK) rfl ro H _ x0 r ⟨b0,rfl,f0⟩ hm
theorem z_jy {n:Nat}:A_hT (tabC T n) (m_dY n):=fun ro H x0 r hm=>ans_tab (k:=K_gw) rfl ro H _ x0 r rfl hm
theorem z_f7 {n:Nat}:A_eO (tabC T n) (m_co n):=fun ro H x0 x1 r hm=>ans_tab (k:=K_eV) rfl ro H _ ⟨x0,x1⟩ r rfl hm
theorem z_j3 {n:Nat}:A_hH (tabC T n) (m_cR n):=fun ro H x0 b0 r f0 hm=>ans_tab (k:=K_gj) rfl ro H _ x0 r ⟨b0,rfl,f0⟩ hm
theorem z_h1 {n:Nat}:A_gb (tabC T n) (m_bk n):=fun ro H x0 r hm=>ans_tab (k:=K_ez) rfl ro H _ x0 r rfl hm
theorem z_j1 {n:Nat}:A_hG (tabC T n) (m_d3 n):=fun ro H x0 r hm=>ans_tab (k:=K_gC) rfl ro H _ x0 r rfl hm
theorem z_i8 {n:Nat}:A_g0 (tabC T n) (m_b8 n):=fun ro H x0 b0 r f0 hm=>ans_tab (k:=K_fk) rfl ro H _ x0 r ⟨b0,rfl,f0⟩ hm
theorem z_jx {n:Nat}:A_hF (tabC T n) (m_dj n):=fun ro H x0 b0 r f0 f1 hm=>ans_tab (k:=K_gn) rfl ro H _ x0 r ⟨b0,rfl,f0,f1⟩ hm
theorem z_fp {n:Nat}:A_eq (tabC T n) (m_L n):=fun ro H x0 b0 x1 r f0 hm=>ans_tab (k:=K_fK) rfl ro H _ ⟨x0,x1⟩ r ⟨b0,rfl,f0⟩ hm
theorem z_hR {n:Nat}:A_gP (tabC T n) (m_c2 n):=fun ro H x0 r hm=>ans_tab (k:=K_gT) rfl ro H _ x0 r rfl hm
theorem z_hh {n:Nat}:A_gs (tabC T n) (m_bG n):=fun ro H x0 b0 r f0 hm=>ans_tab (k:=K_go) rfl ro H _ x0 r ⟨b0,rfl,f0⟩ hm
theorem z_jf {n:Nat}:A_hi (tabC T n) (m_dA n):=fun ro H x0 b0 r f0 hm=>ans_tab (k:=K_fP) rfl ro H _ x0 r ⟨b0,rfl,f0⟩ hm
theorem z_ju {n:Nat}:A_hg (tabC T n) (m_cW n):=fun ro H x0 b0 r f0 hm=>ans_tab (k:=K_fZ) rfl ro H _ x0 r ⟨b0,rfl,f0⟩ hm
theorem z_kd {n:Nat}:A_iq (tabC T n) (m_dS n):=fun ro H x0 b0 r f0 hm=>ans_tab (k:=K_gQ) rfl ro H _ x0 r ⟨b0,rfl,f0⟩ hm
theorem z_hP {n:Nat}:A_gL (tabC T n) (m_ch n):=fun ro H x0 r hm=>ans_tab (k:=K_gN) rfl ro H _ x0 r rfl hm
theorem z_iU {n:Nat}:A_g6 (tabC T n) (m_cI n):=fun ro H x0 b0 r f0 hm=>ans_tab (k:=K_ft) rfl ro H _ x0 r ⟨b0,rfl,f0⟩ hm
theorem z_hc {n:Nat}:A_fe (tabC T n) (m_b0 n):=fun ro H x0 r hm=>ans_tab (k:=K_dB) rfl ro H _ x0 r rfl hm
theorem z_is {n:Nat}:A_gD (tabC T n) (m_bz n):=fun ro H x0 b0 r f0 hm=>ans_tab (k:=K_eT) rfl ro H _ x0 r ⟨b0,rfl,f0⟩ hm
theorem z_fN {n:Nat}:A_er (tabC T n) (m_P n):=fun ro H x0 b0 x1 r f0 hm=>ans_tab (k:=K_eA) rfl ro H _ ⟨x0,x1⟩ r ⟨b0,rfl,f0⟩ hm
theorem z_fl {n:Nat}:A_eE (tabC T n) (m_K n):=fun ro H x0 b0 x1 r f0 hm=>ans_tab (k:=K_fR) rfl ro H _ ⟨x0,x1⟩ r ⟨b0,rfl,f0⟩ hm
theorem z_fn {n:Nat}:A_eB (tabC T n) (m_bY n):=fun ro H x0 r hm=>ans_tab (k:=K_fU) rfl ro H _ x0 r rfl hm
theorem z_iT {n:Nat}:A_gY (tabC T n) (m_V n):=fun ro H x0 r f0 hm=>ans_tab (k:=K_fr) rfl ro H _ x0 r ⟨rfl,f0⟩ hm
theorem z_fD {n:Nat}:A_es (tabC T n) (m_bm n):=fun ro H  r hm=>ans_tab (k:=K_en) rfl ro H _ () r rfl hm
theorem z_j0 {n:Nat}:A_hK (tabC T n) (m_cm n):=fun ro H  r hm=>ans_tab (k:=K_gi) rfl ro H _ () r rfl hm
theorem z_jA {n:Nat}:A_hM (tabC T n) (m_cl n):=fun ro H x0 x1 r hm=>ans_tab (k:=K_gA) rfl ro H _ ⟨x0,x1⟩ r rfl hm
theorem z_j7 {n:Nat}:A_hE (tabC T n) (m_cn n):=fun ro H x0 x1 r hm=>ans_tab (k:=K_gg) rfl ro H _ ⟨x0,x1⟩ r rfl hm
theorem z_ip {n:Nat}:A_gE (tabC T n) (m_bE n):=fun ro H x0 x1 r hm=>ans_tab (k:=K_eS) rfl ro H _ ⟨x0,x1⟩ r rfl hm
theorem z_jB {n:Nat}:A_hQ (tabC T n) (m_d5 n):=fun ro H x0 r hm=>ans_tab (k:=K_gv) rfl ro H _ x0 r rfl hm
theorem z_jE {n:Nat}:A_hI (tabC T n) (m_dZ n):=fun ro H x0 r hm=>ans_tab (k:=K_gd) rfl ro H _ x0 r rfl hm
theorem z_iI {n:Nat}:A_g5 (tabC T n) (m_dh n):=fun ro H x0 x1 r hm=>ans_tab (k:=K_fm) rfl ro H _ ⟨x0,x1⟩ r rfl hm
theorem z_jU {n:Nat}:A_hJ (tabC T n) (m_d1 n):=fun ro H x0 b0 x1 r f0 hm=>ans_tab (k:=K_gm) rfl ro H _ ⟨x0,x1⟩ r ⟨b0,rfl,f0⟩ hm
theorem z_hZ {n:Nat}:A_ga (tabC T n) (m_bJ n):=fun ro H x0 r hm=>ans_tab (k:=K_eK) rfl ro H _ x0 r rfl hm
theorem z_gI {n:Nat}:A_eI (tabC T n) (m_bI n):=fun ro H x0 b0 r f0 hm=>ans_tab (k:=K_c3) rfl ro H _ x0 r ⟨b0,rfl,f0⟩ hm
theorem z_kc {n:Nat}:A_iG (tabC T n) (m_cO n):=fun ro H x0 x1 r hm=>ans_tab (k:=K_gS) rfl ro H _ ⟨x0,x1⟩ r rfl hm
theorem z_jM {n:Nat}:A_hN (tabC T n) (m_cj n):=fun ro H x0 x1 r hm=>ans_tab (k:=K_gq) rfl ro H _ ⟨x0,x1⟩ r rfl hm
theorem z_hD {n:Nat}:A_f1 (tabC T n) (m_cw n):=fun ro H x0 x1 b1 s1 r f0 f1 hm=>ans_tab (k:=K_eg) rfl ro H _ ⟨x0,x1⟩ r ⟨b1,s1,rfl,f0,f1⟩ hm
theorem z_hz {n:Nat}:A_h9 (tabC T n) (m_y n):=fun ro H x0 x1 x2 d2 b2 s2 x3 b3 s3 r f0 f1 f2 f3 f4 hm=>ans_tab (k:=K_eh) rfl ro H _ ⟨x0,x1,x2,x3⟩ r ⟨d2,b2,s2,b3,s3,rfl,f0,f1,f2,f3,f4⟩ hm
theorem z_hC {n:Nat}:A_fF (tabC T n) (m_bU n):=fun ro H x0 x1 b1 s1 r f0 f1 hm=>ans_tab (k:=K_ei) rfl ro H _ ⟨x0,x1⟩ r ⟨b1,s1,rfl,f0,f1⟩ hm
theorem z_fY {n:Nat}:A_dU (tabC T n) (m_U n):=fun ro H x0 b0 x1 b1 s1 r f0 f1 f2 hm=>ans_tab (k:=K_cy) rfl ro H _ ⟨x0,x1⟩ r ⟨b0,b1,s1,rfl,f0,f1,f2⟩ hm
theorem z_h3 {n:Nat}:A_f9 (tabC T n) (m_ej n):=fun ro H x0 r hm=>ans_tab (k:=K_eL) rfl ro H _ x0 r rfl hm
theorem z_jm {n:Nat}:A_hd (tabC T n) (m_dC n):=fun ro H x0 b0 r f0 hm=>ans_tab (k:=K_fQ) rfl ro H _ x0 r ⟨b0,rfl,f0⟩ hm
theorem z_js {n:Nat}:A_hj (tabC T n) (m_cY n):=fun ro H x0 x1 r hm=>ans_tab (k:=K_fE) rfl ro H _ ⟨x0,x1⟩ r rfl hm
theorem z_iY {n:Nat}:A_g7 (tabC T n) (m_cG n):=fun ro H x0 x1 r hm=>ans_tab (k:=K_fh) rfl ro H _ ⟨x0,x1⟩ r rfl hm
theorem z_h8 {n:Nat}:A_f8 (tabC T n) (m_bb n):=fun ro H x0 r f0 hm=>ans_tab (k:=K_eD) rfl ro H _ x0 r ⟨rfl,f0⟩ hm
theorem z_ht {n:Nat}:A_fu (tabC T n) (m_cc n):=fun ro H x0 r hm=>ans_tab (k:=K_dV) rfl ro H _ x0 r rfl hm
theorem z_ke {n:Nat}:A_iy (tabC T n) (m_dH n):=fun ro H x0 x1 r hm=>ans_tab (k:=K_gO) rfl ro H _ ⟨x0,x1⟩ r rfl hm
theorem z_jG {n:Nat}:A_hS (tabC T n) (m_dp n):=fun ro H x0 x1 r hm=>ans_tab (k:=K_gf) rfl ro H _ ⟨x0,x1⟩ r rfl hm
theorem z_h4 {n:Nat}:A_gc (tabC T n) (m_dx n):=fun ro H x0 r hm=>ans_tab (k:=K_ek) rfl ro H _ x0 r rfl hm
theorem z_fO {n:Nat}:A_dT (tabC T n) (m_bO n):=fun ro H x0 b0 x1 b1 s1 r f0 f1 f2 hm=>ans_tab (k:=K_cA) rfl ro H _ ⟨x0,x1⟩ r ⟨b0,b1,s1,rfl,f0,f1,f2⟩ hm
theorem z_g2 {n:Nat}:A_f0 (tabC T n) (m_cs n):=fun ro H x0 b0 x1 r f0 hm=>ans_tab (k:=K_fS) rfl ro H _ ⟨x0,x1⟩ r ⟨b0,rfl,f0⟩ hm
theorem z_g1 {n:Nat}:A_fI (tabC T n) (m_b1 n):=fun ro H x0 b0 x1 r f0 hm=>ans_tab (k:=K_fW) rfl ro H _ ⟨x0,x1⟩ r ⟨b0,rfl,f0⟩ hm
theorem z_f5 {n:Nat}:A_d6 (tabC T n) (m_9 n):=fun ro H x0 r f0 hm=>ans_tab (k:=K_cS) rfl ro H _ x0 r ⟨rfl,f0⟩ hm
theorem z_jl {n:Nat}:A_ho (tabC T n) (m_dF n):=fun ro H x0 r hm=>ans_tab (k:=K_fG) rfl ro H _ x0 r rfl hm
theorem z_i4 {n:Nat}:A_g3 (tabC T n) (m_ec n):=fun ro H  r f0 hm=>ans_tab (k:=K_fi) rfl ro H _ () r ⟨rfl,f0⟩ hm
theorem z_it {n:Nat}:A_gJ (tabC T n) (m_dP n):=fun ro H x0 r hm=>ans_tab (k:=K_eQ) rfl ro H _ x0 r rfl hm
end
end Go.Proofs.YtaadjlpfdajggaaGreatDoor
