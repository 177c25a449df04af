import Derived.Test.YtaadjlpfdajggaaGreatDoorFgTab
import Derived.Test.YtaadjlpfdajggaaGreatDoorFgShelf
import Derived.Test.YtaadjlpfdajggaaGreatDoorFgHand9
import Derived.Test.YtaadjlpfdajggaaGreatDoorFgFixed9
set_option maxRecDepth 100000
set_option linter.unusedVariables false
set_option linter.unusedSimpArgs false
namespace Go.Proofs.YtaadjlpfdajggaaGreatDoor
open Go Go.AM
theorem fm_int {k:IntKind} {l:List Int}:l.flatMap (cInt k) = l.map (Value.int k):=by
 induction l with
 | nil=>rfl
 | cons x l ih=>simp [cInt,ih]
theorem hold_slices_SortFunc_int_int {n:Nat} (hok:CallOk Mt (tabC T n)):Holds1 Mt K_slices_SortFunc_int_int (n + 1):=by
 rintro ro H args ⟨x0,x1⟩ r ⟨b0,d1,b1,s1,rfl,h0,f1,f2,f3,n1,n2,n3⟩ hm hro
 cases x0 with
 | none =>
  obtain rfl:=m103_none (n:=n + 1) (x1:=x1) (r:=r) hm
  exact sort_nil (M:=Mt) srtLays (pb rfl) rfl
 | some l =>
  obtain ⟨k,hk,q1,q2,q3,q4,rfl⟩:=m103_some (n:=n + 1) (l:=l) (x1:=x1) (r:=r) hm
  obtain rfl:k = n:=by omega
  obtain ⟨g1,g2⟩:=h0 l rfl
  have e1:b0 ≠ d1:=n1 (by simp)
  have e2:b0 ≠ b1:=n2 (by simp)
  have hcmp:CmpIs (tabC T k) 104 [.pointer (some ⟨d1,0,none⟩),.pointer (some ⟨b1,0,none⟩)] (H.set b0 .dead) l fun x y=>(m_ast_grouped_c2 k x y x1 x1).getD 0:=fun x hx y hy=>by
   obtain ⟨v,hv⟩:=Option.ne_none_iff_exists'.1 (q3 x hx y hy)
   have k1:=(List.getElem?_set_ne (l:=H) (a:=Blk.dead) e1).trans f1
   have k2:=(List.getElem?_set_ne (l:=H) (a:=Blk.dead) e2).trans f2
   have k3:SlH (H.set b0 .dead) (cInt .i64) 3 x1 s1:=fun l' hl'=>by
    obtain ⟨more,hr⟩:=f3 l' hl'
    exact ⟨more,hr.to (List.getElem?_set_ne (n3 (by simp) (by simp [hl'])))⟩
   refine ⟨H.set b0 .dead,?_⟩
   show tabC T k _ _ _ _ = some (.int .i64 ((m_ast_grouped_c2 k x y x1 x1).getD 0),_,[])
   rw [hv,Option.getD_some]
   exact an_ast_grouped_c2 (H.set b0 .dead).length (H.set b0 .dead) x y x1 d1 b1 s1 x1 b1 s1 v k1 k2 k3 k2 k3 hv
  have h:=sort_sound (M:=Mt) (ro:=ro) (q:=0) (off:=0) hok srtLays (pb rfl) (pb rfl) rfl (Go.Proofs.enters_of Tryz.func104 (by kernel_rfl) rfl) g2 (by rw [fm_int,List.drop_zero,List.take_of_length_le (by simp)]) (by rw [fm_int]; simp) q1 q2 g1 hcmp q4
  have e:wrs (l.flatMap (cInt .i64)) 0 ((srt (fun x y=>(m_ast_grouped_c2 k x y x1 x1).getD 0) l).map (Value.int .i64)) = (srt (fun x y=>(m_ast_grouped_c2 k x y x1 x1).getD 0) l).flatMap (cInt .i64):=by
   rw [fm_int,fm_int,wrs_all (by simp [srt_len])]
  rw [e] at h
  exact h
theorem hold_law09_FactsLong {n:Nat} (hok:CallOk Mt (tabC T n)):Holds1 Mt K_law09_FactsLong (n + 1):=by
 rintro ro H args x0 r ⟨b0,rfl,f0,f1⟩ hm hro
 exact (w_law09_FactsLong hok (n:=n) an_law05_Cut an_facts_Of an_law09_fixed an_ast_Len an_class_Set_Has hro f0 hm f1).e (pb rfl)
theorem hold_law05_Cut {n:Nat} (hok:CallOk Mt (tabC T n)):Holds1 Mt K_law05_Cut (n + 1):=by
 rintro ro H args ⟨x0,x1⟩ r ⟨b0,rfl,f0⟩ hm hro
 have h:=(w_law05_Cut hok (n:=n) hro f0 hm).e (pb rfl)
 cases x0 with
 | none =>
  obtain rfl:r = none:=Classical.byContradiction fun hr=>(alias18 (n:=n + 1) hm).1 hr rfl
  exact h
 | some l=>exact h
theorem hold_facts_Of {n:Nat} (hok:CallOk Mt (tabC T n)):Holds1 Mt K_facts_Of (n + 1):=by
 rintro ro H args x0 r ⟨b0,rfl,f0,f1⟩ hm hro
 exact (w_facts_Of hok (n:=n) an_ast_Right an_facts_all hro f0 hm f1).e (pb rfl)
theorem hold_ast_Len {n:Nat} (hok:CallOk Mt (tabC T n)):Holds1 Mt K_ast_Len (n + 1):=by
 rintro ro H args ⟨x0,x1⟩ r ⟨b0,rfl,f0⟩ hm hro
 exact (w_ast_Len hok (n:=n) an_ast_formed an_ast_lens hro f0 hm).e (pb rfl)
theorem hold_class_Set_Has {n:Nat} (hok:CallOk Mt (tabC T n)):Holds1 Mt K_class_Set_Has (n + 1):=by
 rintro ro H args ⟨x0,x1⟩ r rfl hm hro
 exact (w_class_Set_Has hok (n:=n) hro  hm).e (pb rfl)
theorem hold_class_Set_Or {n:Nat} (hok:CallOk Mt (tabC T n)):Holds1 Mt K_class_Set_Or (n + 1):=by
 rintro ro H args ⟨x0,x1⟩ r rfl hm hro
 exact (w_class_Set_Or hok (n:=n) hro  hm).e (pb rfl)
theorem hold_ast_Right {n:Nat} (hok:CallOk Mt (tabC T n)):Holds1 Mt K_ast_Right (n + 1):=by
 rintro ro H args x0 r ⟨b0,rfl,f0⟩ hm hro
 exact (w_ast_Right hok (n:=n) an_ast_formed an_ast_lens an_ast_grouped hro f0 hm).e (pb rfl)
theorem hold_class_Set_Len {n:Nat} (hok:CallOk Mt (tabC T n)):Holds1 Mt K_class_Set_Len (n + 1):=by
 rintro ro H args x0 r rfl hm hro
 exact (w_class_Set_Len hok (n:=n) an_bits_OnesCount64 hro  hm).e (pb rfl)
theorem hold_facts_all {n:Nat} (hok:CallOk Mt (tabC T n)):Holds1 Mt K_facts_all (n + 1):=by
 rintro ro H args x0 r ⟨b0,rfl,f0,f1⟩ hm hro
 exact (w_facts_all hok (n:=n) an_facts_bytes an_facts_nothing an_class_All an_facts_cat an_facts_alt an_facts_repeat hro f0 hm f1).e (pb rfl)
theorem hold_ast_sizes {n:Nat} (hok:CallOk Mt (tabC T n)):Holds1 Mt K_ast_sizes (n + 1):=by
 rintro ro H args x0 r ⟨b0,rfl,f0⟩ hm hro
 exact (w_ast_sizes hok (n:=n) an_ast_kids an_ast_Node_fits hro f0 hm).e (pb rfl)
theorem hold_ast_depths {n:Nat} (hok:CallOk Mt (tabC T n)):Holds1 Mt K_ast_depths (n + 1):=by
 rintro ro H args x0 r ⟨b0,rfl,f0⟩ hm hro
 exact (w_ast_depths hok (n:=n) an_ast_kids hro f0 hm).e (pb rfl)
theorem hold_ast_formed {n:Nat} (hok:CallOk Mt (tabC T n)):Holds1 Mt K_ast_formed (n + 1):=by
 rintro ro H args x0 r ⟨b0,rfl,f0⟩ hm hro
 exact (w_ast_formed hok (n:=n) an_ast_sizes an_ast_depths an_slices_Max_int_int hro f0 hm).e (pb rfl)
theorem hold_ast_lens {n:Nat} (hok:CallOk Mt (tabC T n)):Holds1 Mt K_ast_lens (n + 1):=by
 rintro ro H args x0 r ⟨b0,rfl,f0⟩ hm hro
 exact (w_ast_lens hok (n:=n) an_ast_plus an_ast_times hro f0 hm).e (pb rfl)
theorem hold_ast_kids {n:Nat} (hok:CallOk Mt (tabC T n)):Holds1 Mt K_ast_kids (n + 1):=by
 rintro ro H args x0 r rfl hm hro
 exact (w_ast_kids hok (n:=n) hro  hm).e (pb rfl)
theorem hold_ast_grouped {n:Nat} (hok:CallOk Mt (tabC T n)):Holds1 Mt K_ast_grouped (n + 1):=by
 rintro ro H args x0 r ⟨b0,rfl,f0⟩ hm hro
 exact (w_ast_grouped hok (n:=n) an_ast_sizes an_slices_SortFunc_int_int an_ast_Node_ast_Node_106 hro f0 hm).e (pb rfl)
theorem hold_bits_OnesCount64 {n:Nat} (hok:CallOk Mt (tabC T n)):Holds1 Mt K_bits_OnesCount64 (n + 1):=by
 rintro ro H args x0 r rfl hm hro
 exact (w_bits_OnesCount64 hok (n:=n) hro  hm).e (pb rfl)
theorem hold_facts_bytes {n:Nat} (hok:CallOk Mt (tabC T n)):Holds1 Mt K_facts_bytes (n + 1):=by
 rintro ro H args x0 r ⟨rfl,f0⟩ hm hro
 exact (w_facts_bytes hok (n:=n) an_class_Set_Len an_class_Set_Min hro  hm f0).e (pb rfl)
theorem hold_facts_nothing {n:Nat} (hok:CallOk Mt (tabC T n)):Holds1 Mt K_facts_nothing (n + 1):=by
 rintro ro H args ⟨⟩ r rfl hm hro
 exact (w_facts_nothing hok (n:=n) hro  hm).e (pb rfl)
theorem hold_class_All {n:Nat} (hok:CallOk Mt (tabC T n)):Holds1 Mt K_class_All (n + 1):=by
 rintro ro H args ⟨⟩ r rfl hm hro
 exact (w_class_All hok (n:=n) an_class_Set_Not hro  hm).e (pb rfl)
theorem hold_facts_cat {n:Nat} (hok:CallOk Mt (tabC T n)):Holds1 Mt K_facts_cat (n + 1):=by
 rintro ro H args ⟨x0,x1⟩ r rfl hm hro
 exact (w_facts_cat hok (n:=n) an_class_Set_Or an_facts_known_cut hro  hm).e (pb rfl)
theorem hold_facts_alt {n:Nat} (hok:CallOk Mt (tabC T n)):Holds1 Mt K_facts_alt (n + 1):=by
 rintro ro H args ⟨x0,x1⟩ r rfl hm hro
 exact (w_facts_alt hok (n:=n) an_class_Set_Or hro  hm).e (pb rfl)
theorem hold_facts_repeat {n:Nat} (hok:CallOk Mt (tabC T n)):Holds1 Mt K_facts_repeat (n + 1):=by
 rintro ro H args ⟨x0,x1⟩ r rfl hm hro
 exact (w_facts_repeat hok (n:=n) an_facts_nothing hro  hm).e (pb rfl)
theorem hold_ast_Node_fits {n:Nat} (hok:CallOk Mt (tabC T n)):Holds1 Mt K_ast_Node_fits (n + 1):=by
 rintro ro H args x0 r rfl hm hro
 exact (w_ast_Node_fits hok (n:=n) an_ast_Node_bare an_ast_Node_own hro  hm).e (pb rfl)
theorem hold_slices_Max_int_int {n:Nat} (hok:CallOk Mt (tabC T n)):Holds1 Mt K_slices_Max_int_int (n + 1):=by
 rintro ro H args x0 r ⟨b0,rfl,f0⟩ hm hro
 exact (w_slices_Max_int_int hok (n:=n) hro f0 hm).e (pb rfl)
theorem hold_ast_plus {n:Nat} (hok:CallOk Mt (tabC T n)):Holds1 Mt K_ast_plus (n + 1):=by
 rintro ro H args ⟨x0,x1⟩ r rfl hm hro
 exact (w_ast_plus hok (n:=n) hro  hm).e (pb rfl)
theorem hold_ast_times {n:Nat} (hok:CallOk Mt (tabC T n)):Holds1 Mt K_ast_times (n + 1):=by
 rintro ro H args ⟨x0,x1⟩ r rfl hm hro
 exact (w_ast_times hok (n:=n) hro  hm).e (pb rfl)
theorem hold_ast_grouped_c1 {n:Nat} (hok:CallOk Mt (tabC T n)):Holds1 Mt K_ast_grouped_c1 (n + 1):=by
 rintro ro H args ⟨x0,x1⟩ r ⟨b1,s1,rfl,f0,f1⟩ hm hro
 exact (w_ast_grouped_c1 hok (n:=n) hro f0 f1 hm).e (pb rfl)
theorem hold_ast_grouped_c2 {n:Nat} (hok:CallOk Mt (tabC T n)):Holds1 Mt K_ast_grouped_c2 (n + 1):=by
 rintro ro H args ⟨x0,x1,x2,x3⟩ r ⟨d2,b2,s2,b3,s3,rfl,f0,f1,f2,f3,f4⟩ hm hro
 exact (w_ast_grouped_c2 hok (n:=n) an_ast_grouped_c1 hro f0 f1 f2 f3 f4 hm).e (pb rfl)
theorem hold_ast_grouped_c3 {n:Nat} (hok:CallOk Mt (tabC T n)):Holds1 Mt K_ast_grouped_c3 (n + 1):=by
 rintro ro H args ⟨x0,x1⟩ r ⟨b1,s1,rfl,f0,f1⟩ hm hro
 exact (w_ast_grouped_c3 hok (n:=n) hro f0 f1 hm).e (pb rfl)
theorem hold_ast_Node_ast_Node_106 {n:Nat} (hok:CallOk Mt (tabC T n)):Holds1 Mt K_ast_Node_ast_Node_106 (n + 1):=by
 rintro ro H args ⟨x0,x1⟩ r ⟨b0,b1,s1,rfl,f0,f1,f2⟩ hm hro
 exact (w_ast_Node_ast_Node_106 hok (n:=n) an_ast_Node_ast_Node_138 hro f0 f1 f2 hm).e (pb rfl)
theorem hold_class_Set_Not {n:Nat} (hok:CallOk Mt (tabC T n)):Holds1 Mt K_class_Set_Not (n + 1):=by
 rintro ro H args x0 r rfl hm hro
 exact (w_class_Set_Not hok (n:=n) hro  hm).e (pb rfl)
theorem hold_class_Set_Min {n:Nat} (hok:CallOk Mt (tabC T n)):Holds1 Mt K_class_Set_Min (n + 1):=by
 rintro ro H args x0 r ⟨rfl,f0⟩ hm hro
 exact (w_class_Set_Min hok (n:=n) an_bits_TrailingZeros64 hro  hm f0).e (pb rfl)
theorem hold_facts_known_cut {n:Nat} (hok:CallOk Mt (tabC T n)):Holds1 Mt K_facts_known_cut (n + 1):=by
 rintro ro H args x0 r rfl hm hro
 exact (w_facts_known_cut hok (n:=n) hro  hm).e (pb rfl)
theorem hold_ast_Node_bare {n:Nat} (hok:CallOk Mt (tabC T n)):Holds1 Mt K_ast_Node_bare (n + 1):=by
 rintro ro H args x0 r rfl hm hro
 exact (w_ast_Node_bare hok (n:=n) hro  hm).e (pb rfl)
theorem hold_ast_Node_ast_Node_138 {n:Nat} (hok:CallOk Mt (tabC T n)):Holds1 Mt K_ast_Node_ast_Node_138 (n + 1):=by
 rintro ro H args ⟨x0,x1⟩ r ⟨b0,b1,s1,rfl,f0,f1,f2⟩ hm hro
 exact (w_ast_Node_ast_Node_138 hok (n:=n) an_ast_grouped_c3 hro f0 f1 f2 hm).e (pb rfl)
theorem hold_bits_TrailingZeros64 {n:Nat} (hok:CallOk Mt (tabC T n)):Holds1 Mt K_bits_TrailingZeros64 (n + 1):=by
 rintro ro H args x0 r ⟨rfl,f0⟩ hm hro
 exact (w_bits_TrailingZeros64 hok (n:=n) hro  hm f0).e (pb rfl)
theorem hold_law09_fixed {n:Nat} (hok:CallOk Mt (tabC T n)):Holds1 Mt K_law09_fixed (n + 1):=by
 rintro ro H args ⟨⟩ r ⟨rfl,f0⟩ hm hro
 obtain rfl:=Option.some.inj hm
 exact closed29 ro H f0 hro
theorem hold_ast_Node_own {n:Nat} (hok:CallOk Mt (tabC T n)):Holds1 Mt K_ast_Node_own (n + 1):=by
 rintro ro H args x0 r rfl hm hro
 obtain rfl:=Option.some.inj hm
 exact hand125 ro H x0 hro
theorem allOk:∀ n,CallOk Mt (tabC T n):=by
 refine all_ok (fun f k h=>?_) (fun f k h=>?_) fun n hok f k h=>?_
 ·unfold T at h; split at h <;> first | (injection h with h; subst h; rfl) | cases h
 ·unfold T at h; split at h <;> first | (injection h with h; subst h; intro x; rfl) | cases h
 ·unfold T at h; split at h
  ·injection h with h; subst h; exact hold_law09_FactsLong hok
  ·injection h with h; subst h; exact hold_law05_Cut hok
  ·injection h with h; subst h; exact hold_facts_Of hok
  ·injection h with h; subst h; exact hold_ast_Len hok
  ·injection h with h; subst h; exact hold_class_Set_Has hok
  ·injection h with h; subst h; exact hold_class_Set_Or hok
  ·injection h with h; subst h; exact hold_ast_Right hok
  ·injection h with h; subst h; exact hold_class_Set_Len hok
  ·injection h with h; subst h; exact hold_facts_all hok
  ·injection h with h; subst h; exact hold_ast_sizes hok
  ·injection h with h; subst h; exact hold_ast_depths hok
  ·injection h with h; subst h; exact hold_ast_formed hok
  ·injection h with h; subst h; exact hold_ast_lens hok
  ·injection h with h; subst h; exact hold_ast_kids hok
  ·injection h with h; subst h; exact hold_ast_grouped hok
  ·injection h with h; subst h; exact hold_bits_OnesCount64 hok
  ·injection h with h; subst h; exact hold_facts_bytes hok
  ·injection h with h; subst h; exact hold_facts_nothing hok
  ·injection h with h; subst h; exact hold_class_All hok
  ·injection h with h; subst h; exact hold_facts_cat hok
  ·injection h with h; subst h; exact hold_facts_alt hok
  ·injection h with h; subst h; exact hold_facts_repeat hok
  ·injection h with h; subst h; exact hold_ast_Node_fits hok
  ·injection h with h; subst h; exact hold_slices_Max_int_int hok
  ·injection h with h; subst h; exact hold_ast_plus hok
  ·injection h with h; subst h; exact hold_ast_times hok
  ·injection h with h; subst h; exact hold_ast_grouped_c1 hok
  ·injection h with h; subst h; exact hold_ast_grouped_c2 hok
  ·injection h with h; subst h; exact hold_ast_grouped_c3 hok
  ·injection h with h; subst h; exact hold_ast_Node_ast_Node_106 hok
  ·injection h with h; subst h; exact hold_class_Set_Not hok
  ·injection h with h; subst h; exact hold_class_Set_Min hok
  ·injection h with h; subst h; exact hold_facts_known_cut hok
  ·injection h with h; subst h; exact hold_ast_Node_bare hok
  ·injection h with h; subst h; exact hold_ast_Node_ast_Node_138 hok
  ·injection h with h; subst h; exact hold_bits_TrailingZeros64 hok
  ·injection h with h; subst h; exact hold_law09_fixed hok
  ·injection h with h; subst h; exact hold_ast_Node_own hok
  ·injection h with h; subst h; exact hold_slices_SortFunc_int_int hok
  cases h
end Go.Proofs.YtaadjlpfdajggaaGreatDoor
