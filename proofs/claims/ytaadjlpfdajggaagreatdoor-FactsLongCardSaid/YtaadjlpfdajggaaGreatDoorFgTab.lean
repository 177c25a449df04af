import Derived.Test.YtaadjlpfdajggaaGreatDoorFgV0
import Derived.Test.YtaadjlpfdajggaaGreatDoorFgV1
import Derived.Test.YtaadjlpfdajggaaGreatDoorFgV2
import Derived.Test.YtaadjlpfdajggaaGreatDoorFgAm25
set_option maxRecDepth 100000
set_option linter.unusedVariables false
set_option linter.unusedSimpArgs false
namespace Go.Proofs.YtaadjlpfdajggaaGreatDoor
open Go Go.AM
noncomputable section
def m_law09_fixed:Nat → Option (Bool)
 | 0=>none
 | _ + 1=>some true
def m_ast_Node_own:Nat → ast_Node → Option (ast_Node)
 | 0,_=>none
 | _ + 1,x0=>some (ownS x0)
def m_law05_Cut:Nat → (Sl ast_Node) → Int → Option ((Sl ast_Node))
 | 0,_,_=>none
 | n + 1,x0,x1=>b_law05_Cut n x0 x1
def m_ast_kids:Nat → Int → Option (Int)
 | 0,_=>none
 | n + 1,x0=>b_ast_kids n x0
def m_ast_Node_bare:Nat → ast_Node → Option (ast_Node)
 | 0,_=>none
 | n + 1,x0=>b_ast_Node_bare n x0
def m_ast_Node_fits:Nat → ast_Node → Option (Bool)
 | 0,_=>none
 | n + 1,x0=>b_ast_Node_fits (m_ast_Node_bare n) (m_ast_Node_own n) n x0
def m_ast_sizes:Nat → (Sl ast_Node) → Option ((Sl Int) × Bool)
 | 0,_=>none
 | n + 1,x0=>b_ast_sizes (m_ast_kids n) (m_ast_Node_fits n) n x0
def m_ast_depths:Nat → (Sl ast_Node) → Option ((Sl Int))
 | 0,_=>none
 | n + 1,x0=>b_ast_depths (m_ast_kids n) n x0
def m_slices_Max_int_int:Nat → (Sl Int) → Option (Int)
 | 0,_=>none
 | n + 1,x0=>b_slices_Max_int_int n x0
def m_ast_formed:Nat → (Sl ast_Node) → Option (Int)
 | 0,_=>none
 | n + 1,x0=>b_ast_formed (m_ast_sizes n) (m_ast_depths n) (m_slices_Max_int_int n) n x0
def m_ast_plus:Nat → Int → Int → Option (Int)
 | 0,_,_=>none
 | n + 1,x0,x1=>b_ast_plus n x0 x1
def m_ast_times:Nat → Int → Int → Option (Int)
 | 0,_,_=>none
 | n + 1,x0,x1=>b_ast_times n x0 x1
def m_ast_lens:Nat → (Sl ast_Node) → Option ((Sl Int) × (Sl Int))
 | 0,_=>none
 | n + 1,x0=>b_ast_lens (m_ast_plus n) (m_ast_times n) n x0
def m_ast_grouped_c1:Nat → Int → (Sl Int) → Option (Int)
 | 0,_,_=>none
 | n + 1,x0,x1=>b_ast_grouped_c1 n x0 x1
def m_ast_grouped_c2:Nat → Int → Int → (Sl Int) → (Sl Int) → Option (Int)
 | 0,_,_,_,_=>none
 | n + 1,x0,x1,x2,x3=>b_ast_grouped_c2 (m_ast_grouped_c1 n) n x0 x1 x2 x3
def m_slices_SortFunc_int_int:Nat → Sl Int → Sl Int → Option (Sl Int)
 | 0,_,_=>none
 | _ + 1,none,_=>some none
 | n + 1,some l,x1=>open Classical in
  if l ≠ [] ∧ l.length < 4611686018427387904 ∧ (∀ x ∈ l,∀ y ∈ l,m_ast_grouped_c2 n x y x1 x1 ≠ none) ∧ OrdOn (ltC fun x y=>(m_ast_grouped_c2 n x y x1 x1).getD 0) l then some (some (srt (fun x y=>(m_ast_grouped_c2 n x y x1 x1).getD 0) l)) else none
theorem m103_some {n:Nat} {l:List Int} {x1 r:Sl Int} (h:m_slices_SortFunc_int_int n (some l) x1 = some r):∃ k,n = k + 1 ∧ l ≠ [] ∧ l.length < 4611686018427387904 ∧ (∀ x ∈ l,∀ y ∈ l,m_ast_grouped_c2 k x y x1 x1 ≠ none) ∧ OrdOn (ltC fun x y=>(m_ast_grouped_c2 k x y x1 x1).getD 0) l ∧ r = some (srt (fun x y=>(m_ast_grouped_c2 k x y x1 x1).getD 0) l):=by
 cases n with
 | zero=>simp [m_slices_SortFunc_int_int] at h
 | succ n =>
  simp only [m_slices_SortFunc_int_int] at h
  split at h
  ·rename_i hc; injection h with h; exact ⟨n,rfl,hc.1,hc.2.1,hc.2.2.1,hc.2.2.2,h.symm⟩
  ·cases h
theorem m103_none {n:Nat} {x1 r:Sl Int} (h:m_slices_SortFunc_int_int n none x1 = some r):r = none:=by
 cases n with
 | zero=>simp [m_slices_SortFunc_int_int] at h
 | succ n=>simp only [m_slices_SortFunc_int_int,Option.some.injEq] at h; exact h.symm
def m_ast_grouped_c3:Nat → ast_Node → (Sl Int) → Option (Bool)
 | 0,_,_=>none
 | n + 1,x0,x1=>b_ast_grouped_c3 n x0 x1
def m_ast_Node_ast_Node_138:Nat → (Sl ast_Node) → (Sl Int) → Option (Int)
 | 0,_,_=>none
 | n + 1,x0,x1=>b_ast_Node_ast_Node_138 (m_ast_grouped_c3 n) n x0 x1
def m_ast_Node_ast_Node_106:Nat → (Sl ast_Node) → (Sl Int) → Option (Bool)
 | 0,_,_=>none
 | n + 1,x0,x1=>b_ast_Node_ast_Node_106 (m_ast_Node_ast_Node_138 n) n x0 x1
def m_ast_grouped:Nat → (Sl ast_Node) → Option (Bool)
 | 0,_=>none
 | n + 1,x0=>b_ast_grouped (m_ast_sizes n) (m_slices_SortFunc_int_int n) (m_ast_Node_ast_Node_106 n) n x0
def m_ast_Right:Nat → (Sl ast_Node) → Option (Int)
 | 0,_=>none
 | n + 1,x0=>b_ast_Right (m_ast_formed n) (m_ast_lens n) (m_ast_grouped n) n x0
def m_bits_OnesCount64:Nat → Int → Option (Int)
 | 0,_=>none
 | n + 1,x0=>b_bits_OnesCount64 n x0
def m_class_Set_Len:Nat → class_Set → Option (Int)
 | 0,_=>none
 | n + 1,x0=>b_class_Set_Len (m_bits_OnesCount64 n) n x0
def m_bits_TrailingZeros64:Nat → Int → Option (Int)
 | 0,_=>none
 | n + 1,x0=>b_bits_TrailingZeros64 n x0
def m_class_Set_Min:Nat → class_Set → Option (Int × Bool)
 | 0,_=>none
 | n + 1,x0=>b_class_Set_Min (m_bits_TrailingZeros64 n) n x0
def m_facts_bytes:Nat → class_Set → Option (facts_known)
 | 0,_=>none
 | n + 1,x0=>b_facts_bytes (m_class_Set_Len n) (m_class_Set_Min n) n x0
def m_facts_nothing:Nat → Option (facts_known)
 | 0=>none
 | n + 1=>b_facts_nothing n
def m_class_Set_Not:Nat → class_Set → Option (class_Set)
 | 0,_=>none
 | n + 1,x0=>b_class_Set_Not n x0
def m_class_All:Nat → Option (class_Set)
 | 0=>none
 | n + 1=>b_class_All (m_class_Set_Not n) n
def m_class_Set_Or:Nat → class_Set → class_Set → Option (class_Set)
 | 0,_,_=>none
 | n + 1,x0,x1=>b_class_Set_Or n x0 x1
def m_facts_known_cut:Nat → facts_known → Option (facts_known)
 | 0,_=>none
 | n + 1,x0=>b_facts_known_cut n x0
def m_facts_cat:Nat → facts_known → facts_known → Option (facts_known)
 | 0,_,_=>none
 | n + 1,x0,x1=>b_facts_cat (m_class_Set_Or n) (m_facts_known_cut n) n x0 x1
def m_facts_alt:Nat → facts_known → facts_known → Option (facts_known)
 | 0,_,_=>none
 | n + 1,x0,x1=>b_facts_alt (m_class_Set_Or n) n x0 x1
def m_facts_repeat:Nat → ast_Node → facts_known → Option (facts_known)
 | 0,_,_=>none
 | n + 1,x0,x1=>b_facts_repeat (m_facts_nothing n) n x0 x1
def m_facts_all:Nat → (Sl ast_Node) → Option ((Sl facts_known))
 | 0,_=>none
 | n + 1,x0=>b_facts_all (m_facts_bytes n) (m_facts_nothing n) (m_class_All n) (m_facts_cat n) (m_facts_alt n) (m_facts_repeat n) n x0
def m_facts_Of:Nat → (Sl ast_Node) → Option (facts_Facts × Int)
 | 0,_=>none
 | n + 1,x0=>b_facts_Of (m_ast_Right n) (m_facts_all n) n x0
def m_ast_Len:Nat → (Sl ast_Node) → Int → Option (Int × Int × Int)
 | 0,_,_=>none
 | n + 1,x0,x1=>b_ast_Len (m_ast_formed n) (m_ast_lens n) n x0 x1
def m_class_Set_Has:Nat → class_Set → Int → Option (Bool)
 | 0,_,_=>none
 | n + 1,x0,x1=>b_class_Set_Has n x0 x1
def m_law09_FactsLong:Nat → (Sl ast_Node) → Option (Bool)
 | 0,_=>none
 | n + 1,x0=>b_law09_FactsLong (m_law05_Cut n) (m_facts_Of n) (m_law09_fixed n) (m_ast_Len n) (m_class_Set_Has n) n x0
def K_slices_SortFunc_int_int:Co where
 f:=103
 X:=Sl Int × Sl Int
 R:=Sl Int
 rd:=fun ro H args x=>∃ b0 d1 b1 s1,args = [slV x.1 b0,(.func (.func 104) [].toArray [(.pointer (some ⟨d1,0,none⟩)),(.pointer (some ⟨b1,0,none⟩))].toArray)] ∧ SlO ro H (cInt .i64) 3 x.1 b0 ∧ H[d1]? = some (.cells [.func (.func 102) [].toArray [(.pointer (some ⟨b1,0,none⟩))].toArray] 99) ∧ H[b1]? = some (.cells [slV x.2 s1] 100) ∧ SlH H (cInt .i64) 3 x.2 s1 ∧ (x.1 ≠ none → b0 ≠ d1) ∧ (x.1 ≠ none → b0 ≠ b1) ∧ (x.1 ≠ none → x.2 ≠ none → b0 ≠ s1)
 inj:=by
  rintro ro H args ⟨x0,x1⟩ ⟨y0,y1⟩ ⟨b0,d1,b1,s1,h,f0,f1,f2,f3,_⟩ ⟨c_main_main,k1,c_gosem_cut,u1,h',g0,g1,g2,g3,_⟩
  rw [h] at h'; simp only [List.cons.injEq,and_true] at h'
  obtain ⟨e0,e1⟩:=h'
  have z0:x0 = y0:=slV_inj e0 enc_int.inj enc_int.len f0.h g0.h
  have q:d1 = k1 ∧ b1 = c_gosem_cut:=by simpa using e1
  obtain ⟨rfl,rfl⟩:=q
  have q:slV x1 s1 = slV y1 u1:=by have q:=f2.symm.trans g2; simpa using q
  have z1:x1 = y1:=slV_inj q enc_int.inj enc_int.len f3 g3
  subst z0 z1; rfl
 m:=fun n x=>m_slices_SortFunc_int_int n x.1 x.2
 lay:=fun r args H=>(.tuple [].toArray,match r with | none=>H | some l=>H.set (blkOf (args.getD 0 default)) (.cells (l.flatMap (cInt .i64)) 3))
def K_law09_FactsLong:Co where
 f:=9
 X:=(Sl ast_Node)
 R:=Bool
 rd:=fun ro H args x=>∃ (b0:Nat),args = [(vAgg [slV x b0])] ∧ SlH H ast_Node.c 72 x b0 ∧ TabH1 H
 inj:=by
  rintro ro H args x0 y0 ⟨b0,h,f0,f1⟩ ⟨db0,h',g0,g1⟩
  rw [h] at h'; simp only [List.cons.injEq,and_true] at h'
  have e0:=h'
  have z0:x0 = y0:=slV_inj (List.cons.inj (vAgg_inj e0)).1 ast_Node.enc.inj ast_Node.enc.len f0 g0
  subst z0; rfl
 m:=fun n x=>m_law09_FactsLong n x
 lay:=fun r args H=>((.bool (r)),H)
def K_law05_Cut:Co where
 f:=18
 X:=(Sl ast_Node) × Int
 R:=(Sl ast_Node)
 rd:=fun ro H args x=>∃ (b0:Nat),args = [(vAgg [slV (x.1) b0]),(.int .i64 (x.2))] ∧ SlH H ast_Node.c 72 (x.1) b0
 inj:=by
  rintro ro H args ⟨x0,x1⟩ ⟨y0,y1⟩ ⟨b0,h,f0⟩ ⟨db0,h',g0⟩
  rw [h] at h'; simp only [List.cons.injEq,and_true] at h'
  obtain ⟨e0,e1⟩:=h'
  have z0:x0 = y0:=slV_inj (List.cons.inj (vAgg_inj e0)).1 ast_Node.enc.inj ast_Node.enc.len f0 g0
  have z1:x1 = y1:=by injection e1
  subst z0 z1; rfl
 m:=fun n x=>m_law05_Cut n (x.1) (x.2)
 lay:=fun r args H=>((vAgg [slV r (blkA (args.getD 0 default))]),H)
def K_facts_Of:Co where
 f:=26
 X:=(Sl ast_Node)
 R:=facts_Facts × Int
 rd:=fun ro H args x=>∃ (b0:Nat),args = [(vAgg [slV x b0])] ∧ SlH H ast_Node.c 72 x b0 ∧ TabH1 H
 inj:=by
  rintro ro H args x0 y0 ⟨b0,h,f0,f1⟩ ⟨db0,h',g0,g1⟩
  rw [h] at h'; simp only [List.cons.injEq,and_true] at h'
  have e0:=h'
  have z0:x0 = y0:=slV_inj (List.cons.inj (vAgg_inj e0)).1 ast_Node.enc.inj ast_Node.enc.len f0 g0
  subst z0; rfl
 m:=fun n x=>m_facts_Of n x
 lay:=fun r args H=>((.tuple [(vAgg (facts_Facts.c (r.1))),(.int .i64 (r.2))].toArray),H)
def K_ast_Len:Co where
 f:=34
 X:=(Sl ast_Node) × Int
 R:=Int × Int × Int
 rd:=fun ro H args x=>∃ (b0:Nat),args = [(vAgg [slV (x.1) b0]),(.int .i64 (x.2))] ∧ SlH H ast_Node.c 72 (x.1) b0
 inj:=by
  rintro ro H args ⟨x0,x1⟩ ⟨y0,y1⟩ ⟨b0,h,f0⟩ ⟨db0,h',g0⟩
  rw [h] at h'; simp only [List.cons.injEq,and_true] at h'
  obtain ⟨e0,e1⟩:=h'
  have z0:x0 = y0:=slV_inj (List.cons.inj (vAgg_inj e0)).1 ast_Node.enc.inj ast_Node.enc.len f0 g0
  have z1:x1 = y1:=by injection e1
  subst z0 z1; rfl
 m:=fun n x=>m_ast_Len n (x.1) (x.2)
 lay:=fun r args H=>((.tuple [(.int .i64 (r.1)),(.int .i64 (r.2.1)),(.int .i64 (r.2.2))].toArray),H)
def K_class_Set_Has:Co where
 f:=35
 X:=class_Set × Int
 R:=Bool
 rd:=fun ro H args x=>args = [(vAgg (class_Set.c (x.1))),(.int .u8 (x.2))]
 inj:=by
  rintro ro H args ⟨x0,x1⟩ ⟨y0,y1⟩ h h'
  rw [h] at h'; simp only [List.cons.injEq,and_true] at h'
  obtain ⟨e0,e1⟩:=h'
  have z0:x0 = y0:=class_Set.enc.inj _ _ (vAgg_inj e0)
  have z1:x1 = y1:=by injection e1
  subst z0 z1; rfl
 m:=fun n x=>m_class_Set_Has n (x.1) (x.2)
 lay:=fun r args H=>((.bool (r)),H)
def K_class_Set_Or:Co where
 f:=38
 X:=class_Set × class_Set
 R:=class_Set
 rd:=fun ro H args x=>args = [(vAgg (class_Set.c (x.1))),(vAgg (class_Set.c (x.2)))]
 inj:=by
  rintro ro H args ⟨x0,x1⟩ ⟨y0,y1⟩ h h'
  rw [h] at h'; simp only [List.cons.injEq,and_true] at h'
  obtain ⟨e0,e1⟩:=h'
  have z0:x0 = y0:=class_Set.enc.inj _ _ (vAgg_inj e0)
  have z1:x1 = y1:=class_Set.enc.inj _ _ (vAgg_inj e1)
  subst z0 z1; rfl
 m:=fun n x=>m_class_Set_Or n (x.1) (x.2)
 lay:=fun r args H=>((vAgg (class_Set.c (r))),H)
def K_ast_Right:Co where
 f:=40
 X:=(Sl ast_Node)
 R:=Int
 rd:=fun ro H args x=>∃ (b0:Nat),args = [(vAgg [slV x b0])] ∧ SlH H ast_Node.c 72 x b0
 inj:=by
  rintro ro H args x0 y0 ⟨b0,h,f0⟩ ⟨db0,h',g0⟩
  rw [h] at h'; simp only [List.cons.injEq,and_true] at h'
  have e0:=h'
  have z0:x0 = y0:=slV_inj (List.cons.inj (vAgg_inj e0)).1 ast_Node.enc.inj ast_Node.enc.len f0 g0
  subst z0; rfl
 m:=fun n x=>m_ast_Right n x
 lay:=fun r args H=>((.int .i64 (r)),H)
def K_class_Set_Len:Co where
 f:=44
 X:=class_Set
 R:=Int
 rd:=fun ro H args x=>args = [(vAgg (class_Set.c x))]
 inj:=by
  rintro ro H args x0 y0 h h'
  rw [h] at h'; simp only [List.cons.injEq,and_true] at h'
  have e0:=h'
  have z0:x0 = y0:=class_Set.enc.inj _ _ (vAgg_inj e0)
  subst z0; rfl
 m:=fun n x=>m_class_Set_Len n x
 lay:=fun r args H=>((.int .i64 (r)),H)
def K_facts_all:Co where
 f:=57
 X:=(Sl ast_Node)
 R:=(Sl facts_known)
 rd:=fun ro H args x=>∃ (b0:Nat),args = [(vAgg [slV x b0])] ∧ SlH H ast_Node.c 72 x b0 ∧ TabH1 H
 inj:=by
  rintro ro H args x0 y0 ⟨b0,h,f0,f1⟩ ⟨db0,h',g0,g1⟩
  rw [h] at h'; simp only [List.cons.injEq,and_true] at h'
  have e0:=h'
  have z0:x0 = y0:=slV_inj (List.cons.inj (vAgg_inj e0)).1 ast_Node.enc.inj ast_Node.enc.len f0 g0
  subst z0; rfl
 m:=fun n x=>m_facts_all n x
 lay:=fun r args H=>((slV r H.length),(H ++ slB facts_known.c 107 r))
def K_ast_sizes:Co where
 f:=62
 X:=(Sl ast_Node)
 R:=(Sl Int) × Bool
 rd:=fun ro H args x=>∃ (b0:Nat),args = [(vAgg [slV x b0])] ∧ SlH H ast_Node.c 72 x b0
 inj:=by
  rintro ro H args x0 y0 ⟨b0,h,f0⟩ ⟨db0,h',g0⟩
  rw [h] at h'; simp only [List.cons.injEq,and_true] at h'
  have e0:=h'
  have z0:x0 = y0:=slV_inj (List.cons.inj (vAgg_inj e0)).1 ast_Node.enc.inj ast_Node.enc.len f0 g0
  subst z0; rfl
 m:=fun n x=>m_ast_sizes n x
 lay:=fun r args H=>((.tuple [(slV r.1 H.length),(.bool (r.2))].toArray),(H ++ slB (cInt .i64) 3 r.1))
def K_ast_depths:Co where
 f:=63
 X:=(Sl ast_Node)
 R:=(Sl Int)
 rd:=fun ro H args x=>∃ (b0:Nat),args = [(vAgg [slV x b0])] ∧ SlH H ast_Node.c 72 x b0
 inj:=by
  rintro ro H args x0 y0 ⟨b0,h,f0⟩ ⟨db0,h',g0⟩
  rw [h] at h'; simp only [List.cons.injEq,and_true] at h'
  have e0:=h'
  have z0:x0 = y0:=slV_inj (List.cons.inj (vAgg_inj e0)).1 ast_Node.enc.inj ast_Node.enc.len f0 g0
  subst z0; rfl
 m:=fun n x=>m_ast_depths n x
 lay:=fun r args H=>((slV r H.length),(H ++ slB (cInt .i64) 3 r))
def K_ast_formed:Co where
 f:=64
 X:=(Sl ast_Node)
 R:=Int
 rd:=fun ro H args x=>∃ (b0:Nat),args = [(vAgg [slV x b0])] ∧ SlH H ast_Node.c 72 x b0
 inj:=by
  rintro ro H args x0 y0 ⟨b0,h,f0⟩ ⟨db0,h',g0⟩
  rw [h] at h'; simp only [List.cons.injEq,and_true] at h'
  have e0:=h'
  have z0:x0 = y0:=slV_inj (List.cons.inj (vAgg_inj e0)).1 ast_Node.enc.inj ast_Node.enc.len f0 g0
  subst z0; rfl
 m:=fun n x=>m_ast_formed n x
 lay:=fun r args H=>((.int .i64 (r)),H)
def K_ast_lens:Co where
 f:=65
 X:=(Sl ast_Node)
 R:=(Sl Int) × (Sl Int)
 rd:=fun ro H args x=>∃ (b0:Nat),args = [(vAgg [slV x b0])] ∧ SlH H ast_Node.c 72 x b0
 inj:=by
  rintro ro H args x0 y0 ⟨b0,h,f0⟩ ⟨db0,h',g0⟩
  rw [h] at h'; simp only [List.cons.injEq,and_true] at h'
  have e0:=h'
  have z0:x0 = y0:=slV_inj (List.cons.inj (vAgg_inj e0)).1 ast_Node.enc.inj ast_Node.enc.len f0 g0
  subst z0; rfl
 m:=fun n x=>m_ast_lens n x
 lay:=fun r args H=>((.tuple [(slV r.1 H.length),(slV r.2 (H.length + (slB (cInt .i64) 3 r.1).length))].toArray),(H ++ (slB (cInt .i64) 3 r.1 ++ slB (cInt .i64) 3 r.2)))
def K_ast_kids:Co where
 f:=66
 X:=Int
 R:=Int
 rd:=fun ro H args x=>args = [(.int .i64 x)]
 inj:=by
  rintro ro H args x0 y0 h h'
  rw [h] at h'; simp only [List.cons.injEq,and_true] at h'
  have e0:=h'
  have z0:x0 = y0:=by injection e0
  subst z0; rfl
 m:=fun n x=>m_ast_kids n x
 lay:=fun r args H=>((.int .i64 (r)),H)
def K_ast_grouped:Co where
 f:=68
 X:=(Sl ast_Node)
 R:=Bool
 rd:=fun ro H args x=>∃ (b0:Nat),args = [(vAgg [slV x b0])] ∧ SlH H ast_Node.c 72 x b0
 inj:=by
  rintro ro H args x0 y0 ⟨b0,h,f0⟩ ⟨db0,h',g0⟩
  rw [h] at h'; simp only [List.cons.injEq,and_true] at h'
  have e0:=h'
  have z0:x0 = y0:=slV_inj (List.cons.inj (vAgg_inj e0)).1 ast_Node.enc.inj ast_Node.enc.len f0 g0
  subst z0; rfl
 m:=fun n x=>m_ast_grouped n x
 lay:=fun r args H=>((.bool (r)),H)
def K_bits_OnesCount64:Co where
 f:=72
 X:=Int
 R:=Int
 rd:=fun ro H args x=>args = [(.int .u64 x)]
 inj:=by
  rintro ro H args x0 y0 h h'
  rw [h] at h'; simp only [List.cons.injEq,and_true] at h'
  have e0:=h'
  have z0:x0 = y0:=by injection e0
  subst z0; rfl
 m:=fun n x=>m_bits_OnesCount64 n x
 lay:=fun r args H=>((.int .i64 (r)),H)
def K_facts_bytes:Co where
 f:=86
 X:=class_Set
 R:=facts_known
 rd:=fun ro H args x=>args = [(vAgg (class_Set.c x))] ∧ TabH1 H
 inj:=by
  rintro ro H args x0 y0 ⟨h,f0⟩ ⟨h',g0⟩
  rw [h] at h'; simp only [List.cons.injEq,and_true] at h'
  have e0:=h'
  have z0:x0 = y0:=class_Set.enc.inj _ _ (vAgg_inj e0)
  subst z0; rfl
 m:=fun n x=>m_facts_bytes n x
 lay:=fun r args H=>((vAgg (facts_known.c (r))),H)
def K_facts_nothing:Co where
 f:=87
 X:=Unit
 R:=facts_known
 rd:=fun ro H args x=>args = []
 inj:=by
  intros; rfl
 m:=fun n x=>m_facts_nothing n
 lay:=fun r args H=>((vAgg (facts_known.c (r))),H)
def K_class_All:Co where
 f:=88
 X:=Unit
 R:=class_Set
 rd:=fun ro H args x=>args = []
 inj:=by
  intros; rfl
 m:=fun n x=>m_class_All n
 lay:=fun r args H=>((vAgg (class_Set.c (r))),H)
def K_facts_cat:Co where
 f:=89
 X:=facts_known × facts_known
 R:=facts_known
 rd:=fun ro H args x=>args = [(vAgg (facts_known.c (x.1))),(vAgg (facts_known.c (x.2)))]
 inj:=by
  rintro ro H args ⟨x0,x1⟩ ⟨y0,y1⟩ h h'
  rw [h] at h'; simp only [List.cons.injEq,and_true] at h'
  obtain ⟨e0,e1⟩:=h'
  have z0:x0 = y0:=facts_known.enc.inj _ _ (vAgg_inj e0)
  have z1:x1 = y1:=facts_known.enc.inj _ _ (vAgg_inj e1)
  subst z0 z1; rfl
 m:=fun n x=>m_facts_cat n (x.1) (x.2)
 lay:=fun r args H=>((vAgg (facts_known.c (r))),H)
def K_facts_alt:Co where
 f:=90
 X:=facts_known × facts_known
 R:=facts_known
 rd:=fun ro H args x=>args = [(vAgg (facts_known.c (x.1))),(vAgg (facts_known.c (x.2)))]
 inj:=by
  rintro ro H args ⟨x0,x1⟩ ⟨y0,y1⟩ h h'
  rw [h] at h'; simp only [List.cons.injEq,and_true] at h'
  obtain ⟨e0,e1⟩:=h'
  have z0:x0 = y0:=facts_known.enc.inj _ _ (vAgg_inj e0)
  have z1:x1 = y1:=facts_known.enc.inj _ _ (vAgg_inj e1)
  subst z0 z1; rfl
 m:=fun n x=>m_facts_alt n (x.1) (x.2)
 lay:=fun r args H=>((vAgg (facts_known.c (r))),H)
def K_facts_repeat:Co where
 f:=91
 X:=ast_Node × facts_known
 R:=facts_known
 rd:=fun ro H args x=>args = [(vAgg (ast_Node.c (x.1))),(vAgg (facts_known.c (x.2)))]
 inj:=by
  rintro ro H args ⟨x0,x1⟩ ⟨y0,y1⟩ h h'
  rw [h] at h'; simp only [List.cons.injEq,and_true] at h'
  obtain ⟨e0,e1⟩:=h'
  have z0:x0 = y0:=ast_Node.enc.inj _ _ (vAgg_inj e0)
  have z1:x1 = y1:=facts_known.enc.inj _ _ (vAgg_inj e1)
  subst z0 z1; rfl
 m:=fun n x=>m_facts_repeat n (x.1) (x.2)
 lay:=fun r args H=>((vAgg (facts_known.c (r))),H)
def K_ast_Node_fits:Co where
 f:=97
 X:=ast_Node
 R:=Bool
 rd:=fun ro H args x=>args = [(vAgg (ast_Node.c x))]
 inj:=by
  rintro ro H args x0 y0 h h'
  rw [h] at h'; simp only [List.cons.injEq,and_true] at h'
  have e0:=h'
  have z0:x0 = y0:=ast_Node.enc.inj _ _ (vAgg_inj e0)
  subst z0; rfl
 m:=fun n x=>m_ast_Node_fits n x
 lay:=fun r args H=>((.bool (r)),H)
def K_slices_Max_int_int:Co where
 f:=98
 X:=(Sl Int)
 R:=Int
 rd:=fun ro H args x=>∃ (b0:Nat),args = [(slV x b0)] ∧ SlH H (cInt .i64) 3 x b0
 inj:=by
  rintro ro H args x0 y0 ⟨b0,h,f0⟩ ⟨db0,h',g0⟩
  rw [h] at h'; simp only [List.cons.injEq,and_true] at h'
  have e0:=h'
  have z0:x0 = y0:=slV_inj e0 enc_int.inj enc_int.len f0 g0
  subst z0; rfl
 m:=fun n x=>m_slices_Max_int_int n x
 lay:=fun r args H=>((.int .i64 (r)),H)
def K_ast_plus:Co where
 f:=99
 X:=Int × Int
 R:=Int
 rd:=fun ro H args x=>args = [(.int .i64 (x.1)),(.int .i64 (x.2))]
 inj:=by
  rintro ro H args ⟨x0,x1⟩ ⟨y0,y1⟩ h h'
  rw [h] at h'; simp only [List.cons.injEq,and_true] at h'
  obtain ⟨e0,e1⟩:=h'
  have z0:x0 = y0:=by injection e0
  have z1:x1 = y1:=by injection e1
  subst z0 z1; rfl
 m:=fun n x=>m_ast_plus n (x.1) (x.2)
 lay:=fun r args H=>((.int .i64 (r)),H)
def K_ast_times:Co where
 f:=100
 X:=Int × Int
 R:=Int
 rd:=fun ro H args x=>args = [(.int .i64 (x.1)),(.int .i64 (x.2))]
 inj:=by
  rintro ro H args ⟨x0,x1⟩ ⟨y0,y1⟩ h h'
  rw [h] at h'; simp only [List.cons.injEq,and_true] at h'
  obtain ⟨e0,e1⟩:=h'
  have z0:x0 = y0:=by injection e0
  have z1:x1 = y1:=by injection e1
  subst z0 z1; rfl
 m:=fun n x=>m_ast_times n (x.1) (x.2)
 lay:=fun r args H=>((.int .i64 (r)),H)
def K_ast_grouped_c1:Co where
 f:=102
 X:=Int × (Sl Int)
 R:=Int
 rd:=fun ro H args x=>∃ (b1:Nat) (s1:Nat),args = [(.int .i64 (x.1)),(.pointer (some ⟨b1,0,none⟩))] ∧ H[b1]? = some (.cells [slV (x.2) s1] 100) ∧ SlH H (cInt .i64) 3 (x.2) s1
 inj:=by
  rintro ro H args ⟨x0,x1⟩ ⟨y0,y1⟩ ⟨b1,s1,h,f0,f1⟩ ⟨db1,ds1,h',g0,g1⟩
  rw [h] at h'; simp only [List.cons.injEq,and_true] at h'
  obtain ⟨e0,e1⟩:=h'
  have z0:x0 = y0:=by injection e0
  have z1:x1 = y1:=by
   have e:b1 = db1:=by injection e1 with e; injection e with e; injection e
   subst e
   have q:slV x1 s1 = slV y1 ds1:=by have q:=f0.symm.trans g0; simpa using q
   exact slV_inj q enc_int.inj enc_int.len f1 g1
  subst z0 z1; rfl
 m:=fun n x=>m_ast_grouped_c1 n (x.1) (x.2)
 lay:=fun r args H=>((.int .i64 (r)),H)
def K_ast_grouped_c2:Co where
 f:=104
 X:=Int × Int × (Sl Int) × (Sl Int)
 R:=Int
 rd:=fun ro H args x=>∃ (d2:Nat) (b2:Nat) (s2:Nat) (b3:Nat) (s3:Nat),args = [(.int .i64 (x.1)),(.int .i64 (x.2.1)),(.pointer (some ⟨d2,0,none⟩)),(.pointer (some ⟨b3,0,none⟩))] ∧ H[d2]? = some (.cells [.func (.func 102) [].toArray [(.pointer (some ⟨b2,0,none⟩))].toArray] 99) ∧ H[b2]? = some (.cells [slV (x.2.2.1) s2] 100) ∧ SlH H (cInt .i64) 3 (x.2.2.1) s2 ∧ H[b3]? = some (.cells [slV (x.2.2.2) s3] 100) ∧ SlH H (cInt .i64) 3 (x.2.2.2) s3
 inj:=by
  rintro ro H args ⟨x0,x1,x2,x3⟩ ⟨y0,y1,y2,y3⟩ ⟨d2,b2,s2,b3,s3,h,f0,f1,f2,f3,f4⟩ ⟨dd2,db2,ds2,db3,ds3,h',g0,g1,g2,g3,g4⟩
  rw [h] at h'; simp only [List.cons.injEq,and_true] at h'
  obtain ⟨e0,e1,e2,e3⟩:=h'
  have z0:x0 = y0:=by injection e0
  have z1:x1 = y1:=by injection e1
  have z2:x2 = y2:=by
   have e:d2 = dd2:=by injection e2 with e; injection e with e; injection e
   subst e
   have e:b2 = db2:=by have q:=f0.symm.trans g0; simpa using q
   subst e
   have q:slV x2 s2 = slV y2 ds2:=by have q:=f1.symm.trans g1; simpa using q
   exact slV_inj q enc_int.inj enc_int.len f2 g2
  have z3:x3 = y3:=by
   have e:b3 = db3:=by injection e3 with e; injection e with e; injection e
   subst e
   have q:slV x3 s3 = slV y3 ds3:=by have q:=f3.symm.trans g3; simpa using q
   exact slV_inj q enc_int.inj enc_int.len f4 g4
  subst z0 z1 z2 z3; rfl
 m:=fun n x=>m_ast_grouped_c2 n (x.1) (x.2.1) (x.2.2.1) (x.2.2.2)
 lay:=fun r args H=>((.int .i64 (r)),H)
def K_ast_grouped_c3:Co where
 f:=105
 X:=ast_Node × (Sl Int)
 R:=Bool
 rd:=fun ro H args x=>∃ (b1:Nat) (s1:Nat),args = [(vAgg (ast_Node.c (x.1))),(.pointer (some ⟨b1,0,none⟩))] ∧ H[b1]? = some (.cells [slV (x.2) s1] 100) ∧ SlH H (cInt .i64) 3 (x.2) s1
 inj:=by
  rintro ro H args ⟨x0,x1⟩ ⟨y0,y1⟩ ⟨b1,s1,h,f0,f1⟩ ⟨db1,ds1,h',g0,g1⟩
  rw [h] at h'; simp only [List.cons.injEq,and_true] at h'
  obtain ⟨e0,e1⟩:=h'
  have z0:x0 = y0:=ast_Node.enc.inj _ _ (vAgg_inj e0)
  have z1:x1 = y1:=by
   have e:b1 = db1:=by injection e1 with e; injection e with e; injection e
   subst e
   have q:slV x1 s1 = slV y1 ds1:=by have q:=f0.symm.trans g0; simpa using q
   exact slV_inj q enc_int.inj enc_int.len f1 g1
  subst z0 z1; rfl
 m:=fun n x=>m_ast_grouped_c3 n (x.1) (x.2)
 lay:=fun r args H=>((.bool (r)),H)
def K_ast_Node_ast_Node_106:Co where
 f:=106
 X:=(Sl ast_Node) × (Sl Int)
 R:=Bool
 rd:=fun ro H args x=>∃ (b0:Nat) (b1:Nat) (s1:Nat),args = [(slV (x.1) b0),(.func (.func 105) [].toArray [(.pointer (some ⟨b1,0,none⟩))].toArray)] ∧ SlH H ast_Node.c 72 (x.1) b0 ∧ H[b1]? = some (.cells [slV (x.2) s1] 100) ∧ SlH H (cInt .i64) 3 (x.2) s1
 inj:=by
  rintro ro H args ⟨x0,x1⟩ ⟨y0,y1⟩ ⟨b0,b1,s1,h,f0,f1,f2⟩ ⟨db0,db1,ds1,h',g0,g1,g2⟩
  rw [h] at h'; simp only [List.cons.injEq,and_true] at h'
  obtain ⟨e0,e1⟩:=h'
  have z0:x0 = y0:=slV_inj e0 ast_Node.enc.inj ast_Node.enc.len f0 g0
  have z1:x1 = y1:=by
   have e:b1 = db1:=by simpa using e1
   subst e
   have q:slV x1 s1 = slV y1 ds1:=by have q:=f1.symm.trans g1; simpa using q
   exact slV_inj q enc_int.inj enc_int.len f2 g2
  subst z0 z1; rfl
 m:=fun n x=>m_ast_Node_ast_Node_106 n (x.1) (x.2)
 lay:=fun r args H=>((.bool (r)),H)
def K_class_Set_Not:Co where
 f:=113
 X:=class_Set
 R:=class_Set
 rd:=fun ro H args x=>args = [(vAgg (class_Set.c x))]
 inj:=by
  rintro ro H args x0 y0 h h'
  rw [h] at h'; simp only [List.cons.injEq,and_true] at h'
  have e0:=h'
  have z0:x0 = y0:=class_Set.enc.inj _ _ (vAgg_inj e0)
  subst z0; rfl
 m:=fun n x=>m_class_Set_Not n x
 lay:=fun r args H=>((vAgg (class_Set.c (r))),H)
def K_class_Set_Min:Co where
 f:=120
 X:=class_Set
 R:=Int × Bool
 rd:=fun ro H args x=>args = [(vAgg (class_Set.c x))] ∧ TabH1 H
 inj:=by
  rintro ro H args x0 y0 ⟨h,f0⟩ ⟨h',g0⟩
  rw [h] at h'; simp only [List.cons.injEq,and_true] at h'
  have e0:=h'
  have z0:x0 = y0:=class_Set.enc.inj _ _ (vAgg_inj e0)
  subst z0; rfl
 m:=fun n x=>m_class_Set_Min n x
 lay:=fun r args H=>((.tuple [(.int .u8 (r.1)),(.bool (r.2))].toArray),H)
def K_facts_known_cut:Co where
 f:=121
 X:=facts_known
 R:=facts_known
 rd:=fun ro H args x=>args = [(vAgg (facts_known.c x))]
 inj:=by
  rintro ro H args x0 y0 h h'
  rw [h] at h'; simp only [List.cons.injEq,and_true] at h'
  have e0:=h'
  have z0:x0 = y0:=facts_known.enc.inj _ _ (vAgg_inj e0)
  subst z0; rfl
 m:=fun n x=>m_facts_known_cut n x
 lay:=fun r args H=>((vAgg (facts_known.c (r))),H)
def K_ast_Node_bare:Co where
 f:=124
 X:=ast_Node
 R:=ast_Node
 rd:=fun ro H args x=>args = [(vAgg (ast_Node.c x))]
 inj:=by
  rintro ro H args x0 y0 h h'
  rw [h] at h'; simp only [List.cons.injEq,and_true] at h'
  have e0:=h'
  have z0:x0 = y0:=ast_Node.enc.inj _ _ (vAgg_inj e0)
  subst z0; rfl
 m:=fun n x=>m_ast_Node_bare n x
 lay:=fun r args H=>((vAgg (ast_Node.c (r))),H)
def K_ast_Node_ast_Node_138:Co where
 f:=138
 X:=(Sl ast_Node) × (Sl Int)
 R:=Int
 rd:=fun ro H args x=>∃ (b0:Nat) (b1:Nat) (s1:Nat),args = [(slV (x.1) b0),(.func (.func 105) [].toArray [(.pointer (some ⟨b1,0,none⟩))].toArray)] ∧ SlH H ast_Node.c 72 (x.1) b0 ∧ H[b1]? = some (.cells [slV (x.2) s1] 100) ∧ SlH H (cInt .i64) 3 (x.2) s1
 inj:=by
  rintro ro H args ⟨x0,x1⟩ ⟨y0,y1⟩ ⟨b0,b1,s1,h,f0,f1,f2⟩ ⟨db0,db1,ds1,h',g0,g1,g2⟩
  rw [h] at h'; simp only [List.cons.injEq,and_true] at h'
  obtain ⟨e0,e1⟩:=h'
  have z0:x0 = y0:=slV_inj e0 ast_Node.enc.inj ast_Node.enc.len f0 g0
  have z1:x1 = y1:=by
   have e:b1 = db1:=by simpa using e1
   subst e
   have q:slV x1 s1 = slV y1 ds1:=by have q:=f1.symm.trans g1; simpa using q
   exact slV_inj q enc_int.inj enc_int.len f2 g2
  subst z0 z1; rfl
 m:=fun n x=>m_ast_Node_ast_Node_138 n (x.1) (x.2)
 lay:=fun r args H=>((.int .i64 (r)),H)
def K_bits_TrailingZeros64:Co where
 f:=152
 X:=Int
 R:=Int
 rd:=fun ro H args x=>args = [(.int .u64 x)] ∧ TabH1 H
 inj:=by
  rintro ro H args x0 y0 ⟨h,f0⟩ ⟨h',g0⟩
  rw [h] at h'; simp only [List.cons.injEq,and_true] at h'
  have e0:=h'
  have z0:x0 = y0:=by injection e0
  subst z0; rfl
 m:=fun n x=>m_bits_TrailingZeros64 n x
 lay:=fun r args H=>((.int .i64 (r)),H)
def K_law09_fixed:Co where
 f:=29
 X:=Unit
 R:=Bool
 rd:=fun ro H args x=>args = [] ∧ TabH1 H
 inj:=by
  intros; rfl
 m:=fun n x=>m_law09_fixed n
 lay:=fun r args H=>((.bool (r)),H)
def K_ast_Node_own:Co where
 f:=125
 X:=ast_Node
 R:=ast_Node
 rd:=fun ro H args x=>args = [(vAgg (ast_Node.c x))]
 inj:=by
  rintro ro H args x0 y0 h h'
  rw [h] at h'; simp only [List.cons.injEq,and_true] at h'
  have e0:=h'
  have z0:x0 = y0:=ast_Node.enc.inj _ _ (vAgg_inj e0)
  subst z0; rfl
 m:=fun n x=>m_ast_Node_own n x
 lay:=fun r args H=>((vAgg (ast_Node.c (r))),H)
def T:FuncId → Option Co
 | 9=>some K_law09_FactsLong
 | 18=>some K_law05_Cut
 | 26=>some K_facts_Of
 | 34=>some K_ast_Len
 | 35=>some K_class_Set_Has
 | 38=>some K_class_Set_Or
 | 40=>some K_ast_Right
 | 44=>some K_class_Set_Len
 | 57=>some K_facts_all
 | 62=>some K_ast_sizes
 | 63=>some K_ast_depths
 | 64=>some K_ast_formed
 | 65=>some K_ast_lens
 | 66=>some K_ast_kids
 | 68=>some K_ast_grouped
 | 72=>some K_bits_OnesCount64
 | 86=>some K_facts_bytes
 | 87=>some K_facts_nothing
 | 88=>some K_class_All
 | 89=>some K_facts_cat
 | 90=>some K_facts_alt
 | 91=>some K_facts_repeat
 | 97=>some K_ast_Node_fits
 | 98=>some K_slices_Max_int_int
 | 99=>some K_ast_plus
 | 100=>some K_ast_times
 | 102=>some K_ast_grouped_c1
 | 104=>some K_ast_grouped_c2
 | 105=>some K_ast_grouped_c3
 | 106=>some K_ast_Node_ast_Node_106
 | 113=>some K_class_Set_Not
 | 120=>some K_class_Set_Min
 | 121=>some K_facts_known_cut
 | 124=>some K_ast_Node_bare
 | 138=>some K_ast_Node_ast_Node_138
 | 152=>some K_bits_TrailingZeros64
 | 29=>some K_law09_fixed
 | 125=>some K_ast_Node_own
 | 103=>some K_slices_SortFunc_int_int
 | _=>none
theorem srt_len {cf:Int → Int → Int} {l:List Int}:(srt cf l).length = l.length:=List.length_mergeSort _
theorem an_slices_SortFunc_int_int {n:Nat}:A_slices_SortFunc_int_int (tabC T n) (m_slices_SortFunc_int_int n):=fun ro nb H x0 b0 x1 d1 b1 s1 r hro h0 f1 f2 f3 n1 n2 n3 hm=>by
 have h:=ans_tab (T:=T) (n:=n) (k:=K_slices_SortFunc_int_int) rfl ro H _ (x0,x1) r ⟨b0,d1,b1,s1,rfl,h0.weak hro,f1,f2,f3,n1,n2,n3⟩ hm
 refine ⟨_,h,?_⟩
 cases x0 with
 | none =>
  obtain rfl:=m103_none hm
  exact ⟨h0,⟨rfl,fun _ _=>rfl⟩,fun _=>rfl,rfl,rfl⟩
 | some l =>
  obtain ⟨k,rfl,_,_,_,_,rfl⟩:=m103_some hm
  obtain ⟨g1,g2⟩:=h0 l rfl
  refine ⟨fun l' hl'=>?_,⟨?_,fun x hx=>?_⟩,fun b=>?_,by simp,?_⟩
  ·injection hl' with hl'; subst hl'; exact ⟨g1,get_set g2⟩
  ·simp [K_slices_SortFunc_int_int]
  ·exact List.getElem?_set_ne (fun e=>hx (by simp) e.symm)
  ·simp only [slV,srt_len]
  ·simp only [Sl.l,srt_len]
theorem alias18 {n:Nat} {x0 r:Sl ast_Node} {x1:Int} (h:m_law05_Cut n x0 x1 = some r):(r ≠ none → x0 ≠ none) ∧ ∀ (H:Hp) (b:Nat),SlH H ast_Node.c 72 x0 b → SlH H ast_Node.c 72 r b:=by
 cases n with
 | zero=>cases h
 | succ n =>
  simp only [m_law05_Cut,b_law05_Cut,Option.bind_eq_some_iff,Option.some.injEq] at h
  obtain ⟨y,hy,rfl⟩:=h
  exact ⟨Sl.upto_none hy,fun H b hs=>hs.upto hy⟩
theorem an_law05_Cut {n:Nat}:A_law05_Cut (tabC T n) (m_law05_Cut n):=fun ro H x0 b0 x1 r f0 hm=>⟨by
 have h:=ans_tab (T:=T) (n:=n) (k:=K_law05_Cut) rfl ro H _ ⟨x0,x1⟩ r ⟨b0,rfl,f0⟩ hm
 cases x0 with
 | none =>
  obtain rfl:r = none:=Classical.byContradiction fun hr=>(alias18 hm).1 hr rfl
  exact h
 | some l=>exact h,alias18 hm⟩
theorem an_facts_Of {n:Nat}:A_facts_Of (tabC T n) (m_facts_Of n):=fun ro H x0 b0 r f0 f1 hm=>ans_tab (k:=K_facts_Of) rfl ro H _ x0 r ⟨b0,rfl,f0,f1⟩ hm
theorem an_ast_Len {n:Nat}:A_ast_Len (tabC T n) (m_ast_Len n):=fun ro H x0 b0 x1 r f0 hm=>ans_tab (k:=K_ast_Len) rfl ro H _ ⟨x0,x1⟩ r ⟨b0,rfl,f0⟩ hm
theorem an_class_Set_Has {n:Nat}:A_class_Set_Has (tabC T n) (m_class_Set_Has n):=fun ro H x0 x1 r hm=>ans_tab (k:=K_class_Set_Has) rfl ro H _ ⟨x0,x1⟩ r rfl hm
theorem an_class_Set_Or {n:Nat}:A_class_Set_Or (tabC T n) (m_class_Set_Or n):=fun ro H x0 x1 r hm=>ans_tab (k:=K_class_Set_Or) rfl ro H _ ⟨x0,x1⟩ r rfl hm
theorem an_ast_Right {n:Nat}:A_ast_Right (tabC T n) (m_ast_Right n):=fun ro H x0 b0 r f0 hm=>ans_tab (k:=K_ast_Right) rfl ro H _ x0 r ⟨b0,rfl,f0⟩ hm
theorem an_class_Set_Len {n:Nat}:A_class_Set_Len (tabC T n) (m_class_Set_Len n):=fun ro H x0 r hm=>ans_tab (k:=K_class_Set_Len) rfl ro H _ x0 r rfl hm
theorem an_facts_all {n:Nat}:A_facts_all (tabC T n) (m_facts_all n):=fun ro H x0 b0 r f0 f1 hm=>ans_tab (k:=K_facts_all) rfl ro H _ x0 r ⟨b0,rfl,f0,f1⟩ hm
theorem an_ast_sizes {n:Nat}:A_ast_sizes (tabC T n) (m_ast_sizes n):=fun ro H x0 b0 r f0 hm=>ans_tab (k:=K_ast_sizes) rfl ro H _ x0 r ⟨b0,rfl,f0⟩ hm
theorem an_ast_depths {n:Nat}:A_ast_depths (tabC T n) (m_ast_depths n):=fun ro H x0 b0 r f0 hm=>ans_tab (k:=K_ast_depths) rfl ro H _ x0 r ⟨b0,rfl,f0⟩ hm
theorem an_ast_formed {n:Nat}:A_ast_formed (tabC T n) (m_ast_formed n):=fun ro H x0 b0 r f0 hm=>ans_tab (k:=K_ast_formed) rfl ro H _ x0 r ⟨b0,rfl,f0⟩ hm
theorem an_ast_lens {n:Nat}:A_ast_lens (tabC T n) (m_ast_lens n):=fun ro H x0 b0 r f0 hm=>ans_tab (k:=K_ast_lens) rfl ro H _ x0 r ⟨b0,rfl,f0⟩ hm
theorem an_ast_kids {n:Nat}:A_ast_kids (tabC T n) (m_ast_kids n):=fun ro H x0 r hm=>ans_tab (k:=K_ast_kids) rfl ro H _ x0 r rfl hm
theorem an_ast_grouped {n:Nat}:A_ast_grouped (tabC T n) (m_ast_grouped n):=fun ro H x0 b0 r f0 hm=>ans_tab (k:=K_ast_grouped) rfl ro H _ x0 r ⟨b0,rfl,f0⟩ hm
theorem an_bits_OnesCount64 {n:Nat}:A_bits_OnesCount64 (tabC T n) (m_bits_OnesCount64 n):=fun ro H x0 r hm=>ans_tab (k:=K_bits_OnesCount64) rfl ro H _ x0 r rfl hm
theorem an_facts_bytes {n:Nat}:A_facts_bytes (tabC T n) (m_facts_bytes n):=fun ro H x0 r f0 hm=>ans_tab (k:=K_facts_bytes) rfl ro H _ x0 r ⟨rfl,f0⟩ hm
theorem an_facts_nothing {n:Nat}:A_facts_nothing (tabC T n) (m_facts_nothing n):=fun ro H  r hm=>ans_tab (k:=K_facts_nothing) rfl ro H _ () r rfl hm
theorem an_class_All {n:Nat}:A_class_All (tabC T n) (m_class_All n):=fun ro H  r hm=>ans_tab (k:=K_class_All) rfl ro H _ () r rfl hm
theorem an_facts_cat {n:Nat}:A_facts_cat (tabC T n) (m_facts_cat n):=fun ro H x0 x1 r hm=>ans_tab (k:=K_facts_cat) rfl ro H _ ⟨x0,x1⟩ r rfl hm
theorem an_facts_alt {n:Nat}:A_facts_alt (tabC T n) (m_facts_alt n):=fun ro H x0 x1 r hm=>ans_tab (k:=K_facts_alt) rfl ro H _ ⟨x0,x1⟩ r rfl hm
theorem an_facts_repeat {n:Nat}:A_facts_repeat (tabC T n) (m_facts_repeat n):=fun ro H x0 x1 r hm=>ans_tab (k:=K_facts_repeat) rfl ro H _ ⟨x0,x1⟩ r rfl hm
theorem an_ast_Node_fits {n:Nat}:A_ast_Node_fits (tabC T n) (m_ast_Node_fits n):=fun ro H x0 r hm=>ans_tab (k:=K_ast_Node_fits) rfl ro H _ x0 r rfl hm
theorem an_slices_Max_int_int {n:Nat}:A_slices_Max_int_int (tabC T n) (m_slices_Max_int_int n):=fun ro H x0 b0 r f0 hm=>ans_tab (k:=K_slices_Max_int_int) rfl ro H _ x0 r ⟨b0,rfl,f0⟩ hm
theorem an_ast_plus {n:Nat}:A_ast_plus (tabC T n) (m_ast_plus n):=fun ro H x0 x1 r hm=>ans_tab (k:=K_ast_plus) rfl ro H _ ⟨x0,x1⟩ r rfl hm
theorem an_ast_times {n:Nat}:A_ast_times (tabC T n) (m_ast_times n):=fun ro H x0 x1 r hm=>ans_tab (k:=K_ast_times) rfl ro H _ ⟨x0,x1⟩ r rfl hm
theorem an_ast_grouped_c1 {n:Nat}:A_ast_grouped_c1 (tabC T n) (m_ast_grouped_c1 n):=fun ro H x0 x1 b1 s1 r f0 f1 hm=>ans_tab (k:=K_ast_grouped_c1) rfl ro H _ ⟨x0,x1⟩ r ⟨b1,s1,rfl,f0,f1⟩ hm
theorem an_ast_grouped_c2 {n:Nat}:A_ast_grouped_c2 (tabC T n) (m_ast_grouped_c2 n):=fun ro H x0 x1 x2 d2 b2 s2 x3 b3 s3 r f0 f1 f2 f3 f4 hm=>ans_tab (k:=K_ast_grouped_c2) rfl ro H _ ⟨x0,x1,x2,x3⟩ r ⟨d2,b2,s2,b3,s3,rfl,f0,f1,f2,f3,f4⟩ hm
theorem an_ast_grouped_c3 {n:Nat}:A_ast_grouped_c3 (tabC T n) (m_ast_grouped_c3 n):=fun ro H x0 x1 b1 s1 r f0 f1 hm=>ans_tab (k:=K_ast_grouped_c3) rfl ro H _ ⟨x0,x1⟩ r ⟨b1,s1,rfl,f0,f1⟩ hm
theorem an_ast_Node_ast_Node_106 {n:Nat}:A_ast_Node_ast_Node_106 (tabC T n) (m_ast_Node_ast_Node_106 n):=fun ro H x0 b0 x1 b1 s1 r f0 f1 f2 hm=>ans_tab (k:=K_ast_Node_ast_Node_106) rfl ro H _ ⟨x0,x1⟩ r ⟨b0,b1,s1,rfl,f0,f1,f2⟩ hm
theorem an_class_Set_Not {n:Nat}:A_class_Set_Not (tabC T n) (m_class_Set_Not n):=fun ro H x0 r hm=>ans_tab (k:=K_class_Set_Not) rfl ro H _ x0 r rfl hm
theorem an_class_Set_Min {n:Nat}:A_class_Set_Min (tabC T n) (m_class_Set_Min n):=fun ro H x0 r f0 hm=>ans_tab (k:=K_class_Set_Min) rfl ro H _ x0 r ⟨rfl,f0⟩ hm
theorem an_facts_known_cut {n:Nat}:A_facts_known_cut (tabC T n) (m_facts_known_cut n):=fun ro H x0 r hm=>ans_tab (k:=K_facts_known_cut) rfl ro H _ x0 r rfl hm
theorem an_ast_Node_bare {n:Nat}:A_ast_Node_bare (tabC T n) (m_ast_Node_bare n):=fun ro H x0 r hm=>ans_tab (k:=K_ast_Node_bare) rfl ro H _ x0 r rfl hm
theorem an_ast_Node_ast_Node_138 {n:Nat}:A_ast_Node_ast_Node_138 (tabC T n) (m_ast_Node_ast_Node_138 n):=fun ro H x0 b0 x1 b1 s1 r f0 f1 f2 hm=>ans_tab (k:=K_ast_Node_ast_Node_138) rfl ro H _ ⟨x0,x1⟩ r ⟨b0,b1,s1,rfl,f0,f1,f2⟩ hm
theorem an_bits_TrailingZeros64 {n:Nat}:A_bits_TrailingZeros64 (tabC T n) (m_bits_TrailingZeros64 n):=fun ro H x0 r f0 hm=>ans_tab (k:=K_bits_TrailingZeros64) rfl ro H _ x0 r ⟨rfl,f0⟩ hm
theorem an_law09_fixed {n:Nat}:A_law09_fixed (tabC T n) (m_law09_fixed n):=fun ro H  r f0 hm=>ans_tab (k:=K_law09_fixed) rfl ro H _ () r ⟨rfl,f0⟩ hm
theorem an_ast_Node_own {n:Nat}:A_ast_Node_own (tabC T n) (m_ast_Node_own n):=fun ro H x0 r hm=>ans_tab (k:=K_ast_Node_own) rfl ro H _ x0 r rfl hm
end
end Go.Proofs.YtaadjlpfdajggaaGreatDoor
