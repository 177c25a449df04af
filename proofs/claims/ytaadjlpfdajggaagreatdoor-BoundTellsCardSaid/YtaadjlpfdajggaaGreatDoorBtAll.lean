import Derived.Test.YtaadjlpfdajggaaGreatDoorBtTab
import Derived.Test.YtaadjlpfdajggaaGreatDoorBtShelf
import Derived.Test.YtaadjlpfdajggaaGreatDoorBtHand9
import Derived.Test.YtaadjlpfdajggaaGreatDoorBtFixed14
set_option maxRecDepth 100000
set_option linter.unusedVariables false
set_option linter.unusedSimpArgs false
namespace Go.Proofs.YtaadjlpfdajggaaGreatDoor
open Go Go.AM
theorem fm_int {k:IntKind} {l:List Int}:l.flatMap (cInt k) = l.map (Value.int k):=by
 induction l with
 | nil=>rfl
 | cons x l ih=>simp [cInt,ih]
theorem z_dM {n:Nat} (hok:CallOk Mt (tabC T n)):Holds1 Mt K_bk (n + 1):=by
 rintro ro H args ⟨x0,x1⟩ r ⟨b0,d1,b1,s1,rfl,h0,f1,f2,f3,n1,n2,n3⟩ hm hro
 cases x0 with
 | none =>
  obtain rfl:=m103_none (n:=n + 1) (x1:=x1) (r:=r) hm
  exact sort_nil (M:=Mt) srtLays (pb rfl) rfl
 | some l =>
  obtain ⟨k,hk,q1,q2,q3,q4,rfl⟩:=m103_some (n:=n + 1) (l:=l) (x1:=x1) (r:=r) hm
  obtain rfl:k = n:=by omega
  obtain ⟨g1,g2⟩:=h0 l rfl
  have e1:b0 ≠ d1:=n1 (by simp)
  have e2:b0 ≠ b1:=n2 (by simp)
  have hcmp:CmpIs (tabC T k) 104 [.pointer (some ⟨d1,0,none⟩),.pointer (some ⟨b1,0,none⟩)] (H.set b0 .dead) l fun x y=>(m_v k x y x1 x1).getD 0:=fun x hx y hy=>by
   obtain ⟨v,hv⟩:=Option.ne_none_iff_exists'.1 (q3 x hx y hy)
   have k1:=(List.getElem?_set_ne (l:=H) (a:=Blk.dead) e1).trans f1
   have k2:=(List.getElem?_set_ne (l:=H) (a:=Blk.dead) e2).trans f2
   have k3:SlH (H.set b0 .dead) (cInt .i64) 3 x1 s1:=fun l' hl'=>by
    obtain ⟨more,hr⟩:=f3 l' hl'
    exact ⟨more,hr.to (List.getElem?_set_ne (n3 (by simp) (by simp [hl'])))⟩
   refine ⟨H.set b0 .dead,?_⟩
   show tabC T k _ _ _ _ = some (.int .i64 ((m_v k x y x1 x1).getD 0),_,[])
   rw [hv,Option.getD_some]
   exact z_f1 (H.set b0 .dead).length (H.set b0 .dead) x y x1 d1 b1 s1 x1 b1 s1 v k1 k2 k3 k2 k3 hv
  have h:=sort_sound (M:=Mt) (ro:=ro) (q:=0) (off:=0) hok srtLays (pb rfl) (pb rfl) rfl (Go.Proofs.enters_of Tryz.func104 (by kernel_rfl) rfl) g2 (by rw [fm_int,List.drop_zero,List.take_of_length_le (by simp)]) (by rw [fm_int]; simp) q1 q2 g1 hcmp q4
  have e:wrs (l.flatMap (cInt .i64)) 0 ((srt (fun x y=>(m_v k x y x1 x1).getD 0) l).map (Value.int .i64)) = (srt (fun x y=>(m_v k x y x1 x1).getD 0) l).flatMap (cInt .i64):=by
   rw [fm_int,fm_int,wrs_all (by simp [srt_len])]
  rw [e] at h
  exact h
theorem z_fi {n:Nat} (hok:CallOk Mt (tabC T n)):Holds1 Mt K_cR (n + 1):=by
 rintro ro H args ⟨x0,x1⟩ r ⟨b0,rfl,f0,f1⟩ hm hro
 exact (w_fX hok (n:=n) z_hD z_hS z_fK z_fC z_fj z_g2 z_gy z_g9 hro f0 hm f1).e (pb rfl)
theorem z_gZ {n:Nat} (hok:CallOk Mt (tabC T n)):Holds1 Mt K_e9 (n + 1):=by
 rintro ro H args ⟨x0,x1⟩ r ⟨b0,rfl,f0⟩ hm hro
 have h:=(w_ic hok (n:=n) hro f0 hm).e (pb rfl)
 cases x0 with
 | none =>
  obtain rfl:r = none:=Classical.byContradiction fun hr=>(alias18 (n:=n + 1) hm).1 hr rfl
  exact h
 | some l=>exact h
theorem z_g1 {n:Nat} (hok:CallOk Mt (tabC T n)):Holds1 Mt K_fb (n + 1):=by
 rintro ro H args x0 r ⟨b0,rfl,f0⟩ hm hro
 exact (w_id hok (n:=n) z_h0 hro f0 hm).e (pb rfl)
theorem z_gT {n:Nat} (hok:CallOk Mt (tabC T n)):Holds1 Mt K_es (n + 1):=by
 rintro ro H args ⟨x0,x1⟩ r ⟨b0,rfl,f0⟩ hm hro
 exact (w_hH hok (n:=n) z_hG z_f0 z_hJ hro f0 hm).e (pb rfl)
theorem z_gC {n:Nat} (hok:CallOk Mt (tabC T n)):Holds1 Mt K_eP (n + 1):=by
 rintro ro H args ⟨x0,x1⟩ r ⟨b0,rfl,f0⟩ hm hro
 exact (w_hV hok (n:=n) z_g8 z_fF hro f0 hm).e (pb rfl)
theorem z_gi {n:Nat} (hok:CallOk Mt (tabC T n)):Holds1 Mt K_d4 (n + 1):=by
 rintro ro H args ⟨x0,x1⟩ r ⟨b0,rfl,f0⟩ hm hro
 exact (w_hy hok (n:=n) z_fK z_ht z_f8 hro f0 hm).e (pb rfl)
theorem z_gj {n:Nat} (hok:CallOk Mt (tabC T n)):Holds1 Mt K_ee (n + 1):=by
 rintro ro H args ⟨x0,x1⟩ r ⟨b0,rfl,f0⟩ hm hro
 exact (w_hA hok (n:=n) z_fC z_f8 hro f0 hm).e (pb rfl)
theorem z_f2 {n:Nat} (hok:CallOk Mt (tabC T n)):Holds1 Mt K_dJ (n + 1):=by
 rintro ro H args ⟨x0,x1⟩ r ⟨b0,rfl,f0⟩ hm hro
 exact (w_hf hok (n:=n) z_fj hro f0 hm).e (pb rfl)
theorem z_hb {n:Nat} (hok:CallOk Mt (tabC T n)):Holds1 Mt K_fc (n + 1):=by
 rintro ro H args x0 r ⟨b0,rfl,f0⟩ hm hro
 exact (w_h4 hok (n:=n) z_hq z_ib z_g3 hro f0 hm).e (pb rfl)
theorem z_g5 {n:Nat} (hok:CallOk Mt (tabC T n)):Holds1 Mt K_e6 (n + 1):=by
 rintro ro H args x0 r rfl hm hro
 exact (w_ia hok (n:=n) hro  hm).e (pb rfl)
theorem z_gV {n:Nat} (hok:CallOk Mt (tabC T n)):Holds1 Mt K_e0 (n + 1):=by
 rintro ro H args x0 r rfl hm hro
 exact (w_if hok (n:=n) hro  hm).e (pb rfl)
theorem z_gW {n:Nat} (hok:CallOk Mt (tabC T n)):Holds1 Mt K_e1 (n + 1):=by
 rintro ro H args ⟨x0,x1⟩ r ⟨b0,rfl,f0⟩ hm hro
 exact (w_ie hok (n:=n) z_f0 z_g6 hro f0 hm).e (pb rfl)
theorem z_gp {n:Nat} (hok:CallOk Mt (tabC T n)):Holds1 Mt K_dZ (n + 1):=by
 rintro ro H args x0 r ⟨b0,rfl,f0⟩ hm hro
 exact (w_hp hok (n:=n) z_gR z_eE z_fB hro f0 hm).e (pb rfl)
theorem z_gO {n:Nat} (hok:CallOk Mt (tabC T n)):Holds1 Mt K_eQ (n + 1):=by
 rintro ro H args ⟨x0,x1,x2⟩ r ⟨b0,rfl,f0⟩ hm hro
 exact (w_hF hok (n:=n) z_fF z_dl hro f0 hm).e (pb rfl)
theorem z_gU {n:Nat} (hok:CallOk Mt (tabC T n)):Holds1 Mt K_ex (n + 1):=by
 rintro ro H args ⟨x0,x1⟩ r rfl hm hro
 exact (w_hK hok (n:=n) z_h6 hro  hm).e (pb rfl)
theorem z_hs {n:Nat} (hok:CallOk Mt (tabC T n)):Holds1 Mt K_fm (n + 1):=by
 rintro ro H args x0 r rfl hm hro
 exact (w_ig hok (n:=n) hro  hm).e (pb rfl)
theorem z_g7 {n:Nat} (hok:CallOk Mt (tabC T n)):Holds1 Mt K_e7 (n + 1):=by
 rintro ro H args x0 r ⟨b0,rfl,f0⟩ hm hro
 exact (w_h9 hok (n:=n) z_gc z_gr hro f0 hm).e (pb rfl)
theorem z_gJ {n:Nat} (hok:CallOk Mt (tabC T n)):Holds1 Mt K_eN (n + 1):=by
 rintro ro H args x0 r ⟨b0,rfl,f0⟩ hm hro
 exact (w_hX hok (n:=n) z_gc hro f0 hm).e (pb rfl)
theorem z_gM {n:Nat} (hok:CallOk Mt (tabC T n)):Holds1 Mt K_el (n + 1):=by
 rintro ro H args x0 r ⟨b0,rfl,f0⟩ hm hro
 exact (w_hL hok (n:=n) z_fT z_hi z_fe hro f0 hm).e (pb rfl)
theorem z_hC {n:Nat} (hok:CallOk Mt (tabC T n)):Holds1 Mt K_fs (n + 1):=by
 rintro ro H args x0 r ⟨b0,rfl,f0⟩ hm hro
 exact (w_ih hok (n:=n) z_h2 z_hT hro f0 hm).e (pb rfl)
theorem z_hm {n:Nat} (hok:CallOk Mt (tabC T n)):Holds1 Mt K_fn (n + 1):=by
 rintro ro H args x0 r rfl hm hro
 exact (w_ii hok (n:=n) hro  hm).e (pb rfl)
theorem z_gu {n:Nat} (hok:CallOk Mt (tabC T n)):Holds1 Mt K_d6 (n + 1):=by
 rintro ro H args x0 r ⟨b0,rfl,f0⟩ hm hro
 exact (w_hx hok (n:=n) z_fT z_ed z_ev hro f0 hm).e (pb rfl)
theorem z_gh {n:Nat} (hok:CallOk Mt (tabC T n)):Holds1 Mt K_d0 (n + 1):=by
 rintro ro H args ⟨x0,x1⟩ r rfl hm hro
 exact (w_ho hok (n:=n) hro  hm).e (pb rfl)
theorem z_f3 {n:Nat} (hok:CallOk Mt (tabC T n)):Holds1 Mt K_dN (n + 1):=by
 rintro ro H args x0 r ⟨b0,rfl,f0⟩ hm hro
 exact (w_hd hok (n:=n) z_hr hro f0 hm).e (pb rfl)
theorem z_fQ {n:Nat} (hok:CallOk Mt (tabC T n)):Holds1 Mt K_dA (n + 1):=by
 rintro ro H args ⟨x0,x1⟩ r ⟨b0,rfl,f0⟩ hm hro
 exact (w_gS hok (n:=n) z_eE z_dl hro f0 hm).e (pb rfl)
theorem z_gA {n:Nat} (hok:CallOk Mt (tabC T n)):Holds1 Mt K_eL (n + 1):=by
 rintro ro H args ⟨x0,x1⟩ r ⟨b0,rfl,f0⟩ hm hro
 exact (w_hR hok (n:=n) z_fB z_hw z_gY hro f0 hm).e (pb rfl)
theorem z_gK {n:Nat} (hok:CallOk Mt (tabC T n)):Holds1 Mt K_eK (n + 1):=by
 rintro ro H args x0 r rfl hm hro
 exact (w_hP hok (n:=n) hro  hm).e (pb rfl)
theorem z_hj {n:Nat} (hok:CallOk Mt (tabC T n)):Holds1 Mt K_fv (n + 1):=by
 rintro ro H args x0 r rfl hm hro
 exact (w_ik hok (n:=n) hro  hm).e (pb rfl)
theorem z_fW {n:Nat} (hok:CallOk Mt (tabC T n)):Holds1 Mt K_dt (n + 1):=by
 rintro ro H args x0 r rfl hm hro
 exact (w_gw hok (n:=n) z_gq z_gE hro  hm).e (pb rfl)
theorem z_eR {n:Nat} (hok:CallOk Mt (tabC T n)):Holds1 Mt K_cA (n + 1):=by
 rintro ro H args x0 r ⟨b0,rfl,f0⟩ hm hro
 exact (w_fr hok (n:=n) hro f0 hm).e (pb rfl)
theorem z_hu {n:Nat} (hok:CallOk Mt (tabC T n)):Holds1 Mt K_fu (n + 1):=by
 rintro ro H args ⟨x0,x1⟩ r rfl hm hro
 exact (w_ij hok (n:=n) hro  hm).e (pb rfl)
theorem z_gX {n:Nat} (hok:CallOk Mt (tabC T n)):Holds1 Mt K_eZ (n + 1):=by
 rintro ro H args ⟨x0,x1⟩ r rfl hm hro
 exact (w_h8 hok (n:=n) hro  hm).e (pb rfl)
theorem z_fL {n:Nat} (hok:CallOk Mt (tabC T n)):Holds1 Mt K_dp (n + 1):=by
 rintro ro H args ⟨x0,x1⟩ r ⟨b1,s1,rfl,f0,f1⟩ hm hro
 exact (w_gv hok (n:=n) hro f0 f1 hm).e (pb rfl)
theorem z_fM {n:Nat} (hok:CallOk Mt (tabC T n)):Holds1 Mt K_dm (n + 1):=by
 rintro ro H args ⟨x0,x1,x2,x3⟩ r ⟨d2,b2,s2,b3,s3,rfl,f0,f1,f2,f3,f4⟩ hm hro
 exact (w_gk hok (n:=n) z_f7 hro f0 f1 f2 f3 f4 hm).e (pb rfl)
theorem z_fN {n:Nat} (hok:CallOk Mt (tabC T n)):Holds1 Mt K_do (n + 1):=by
 rintro ro H args ⟨x0,x1⟩ r ⟨b1,s1,rfl,f0,f1⟩ hm hro
 exact (w_gl hok (n:=n) hro f0 f1 hm).e (pb rfl)
theorem z_eb {n:Nat} (hok:CallOk Mt (tabC T n)):Holds1 Mt K_b1 (n + 1):=by
 rintro ro H args ⟨x0,x1⟩ r ⟨b0,b1,s1,rfl,f0,f1,f2⟩ hm hro
 exact (w_eT hok (n:=n) z_eu hro f0 f1 f2 hm).e (pb rfl)
theorem z_gz {n:Nat} (hok:CallOk Mt (tabC T n)):Holds1 Mt K_eo (n + 1):=by
 rintro ro H args x0 r ⟨b0,rfl,f0⟩ hm hro
 exact (w_hI hok (n:=n) z_fG z_fJ hro f0 hm).e (pb rfl)
theorem z_gB {n:Nat} (hok:CallOk Mt (tabC T n)):Holds1 Mt K_eD (n + 1):=by
 rintro ro H args ⟨x0,x1⟩ r rfl hm hro
 exact (w_hW hok (n:=n) hro  hm).e (pb rfl)
theorem z_gn {n:Nat} (hok:CallOk Mt (tabC T n)):Holds1 Mt K_d9 (n + 1):=by
 rintro ro H args ⟨x0,x1⟩ r rfl hm hro
 exact (w_hl hok (n:=n) hro  hm).e (pb rfl)
theorem z_fS {n:Nat} (hok:CallOk Mt (tabC T n)):Holds1 Mt K_dG (n + 1):=by
 rintro ro H args x0 r rfl hm hro
 exact (w_gF hok (n:=n) hro  hm).e (pb rfl)
theorem z_d5 {n:Nat} (hok:CallOk Mt (tabC T n)):Holds1 Mt K_b2 (n + 1):=by
 rintro ro H args ⟨x0,x1⟩ r ⟨b0,b1,s1,rfl,f0,f1,f2⟩ hm hro
 exact (w_eS hok (n:=n) z_f4 hro f0 f1 f2 hm).e (pb rfl)
theorem z_gH {n:Nat} (hok:CallOk Mt (tabC T n)):Holds1 Mt K_eH (n + 1):=by
 rintro ro H args ⟨x0,x1⟩ r ⟨b0,rfl,f0⟩ hm hro
 exact (w_hY hok (n:=n) z_dl z_fG z_hv hro f0 hm).e (pb rfl)
theorem z_gL {n:Nat} (hok:CallOk Mt (tabC T n)):Holds1 Mt K_eq (n + 1):=by
 rintro ro H args ⟨x0,x1⟩ r ⟨b0,rfl,f0⟩ hm hro
 exact (w_hQ hok (n:=n) z_dl z_fJ hro f0 hm).e (pb rfl)
theorem z_gD {n:Nat} (hok:CallOk Mt (tabC T n)):Holds1 Mt K_en (n + 1):=by
 rintro ro H args x0 r rfl hm hro
 exact (w_hU hok (n:=n) hro  hm).e (pb rfl)
theorem z_gs {n:Nat} (hok:CallOk Mt (tabC T n)):Holds1 Mt K_d3 (n + 1):=by
 rintro ro H args ⟨⟩ r ⟨rfl,f0⟩ hm hro
 obtain rfl:=Option.some.inj hm
 exact closed25 ro H f0 hro
theorem z_f5 {n:Nat} (hok:CallOk Mt (tabC T n)):Holds1 Mt K_dI (n + 1):=by
 rintro ro H args x0 r rfl hm hro
 obtain rfl:=Option.some.inj hm
 exact hand125 ro H x0 hro
theorem allOk:∀ n,CallOk Mt (tabC T n):=by
 refine all_ok (fun f k h=>?_) (fun f k h=>?_) fun n hok f k h=>?_
 ·unfold T at h; split at h <;> first | (injection h with h; subst h; rfl) | cases h
 ·unfold T at h; split at h <;> first | (injection h with h; subst h; intro x; rfl) | cases h
 ·unfold T at h; split at h
  ·injection h with h; subst h; exact z_fi hok
  ·injection h with h; subst h; exact z_gZ hok
  ·injection h with h; subst h; exact z_g1 hok
  ·injection h with h; subst h; exact z_gT hok
  ·injection h with h; subst h; exact z_gC hok
  ·injection h with h; subst h; exact z_gi hok
  ·injection h with h; subst h; exact z_gj hok
  ·injection h with h; subst h; exact z_f2 hok
  ·injection h with h; subst h; exact z_hb hok
  ·injection h with h; subst h; exact z_g5 hok
  ·injection h with h; subst h; exact z_gV hok
  ·injection h with h; subst h; exact z_gW hok
  ·injection h with h; subst h; exact z_gp hok
  ·injection h with h; subst h; exact z_gO hok
  ·injection h with h; subst h; exact z_gU hok
  ·injection h with h; subst h; exact z_hs hok
  ·injection h with h; subst h; exact z_g7 hok
  ·injection h with h; subst h; exact z_gJ hok
  ·injection h with h; subst h; exact z_gM hok
  ·injection h with h; subst h; exact z_hC hok
  ·injection h with h; subst h; exact z_hm hok
  ·injection h with h; subst h; exact z_gu hok
  ·injection h with h; subst h; exact z_gh hok
  ·injection h with h; subst h; exact z_f3 hok
  ·injection h with h; subst h; exact z_fQ hok
  ·injection h with h; subst h; exact z_gA hok
  ·injection h with h; subst h; exact z_gK hok
  ·injection h with h; subst h; exact z_hj hok
  ·injection h with h; subst h; exact z_fW hok
  ·injection h with h; subst h; exact z_eR hok
  ·injection h with h; subst h; exact z_hu hok
  ·injection h with h; subst h; exact z_gX hok
  ·injection h with h; subst h; exact z_fL hok
  ·injection h with h; subst h; exact z_fM hok
  ·injection h with h; subst h; exact z_fN hok
  ·injection h with h; subst h; exact z_eb hok
  ·injection h with h; subst h; exact z_gz hok
  ·injection h with h; subst h; exact z_gB hok
  ·injection h with h; subst h; exact z_gn hok
  ·injection h with h; subst h; exact z_fS hok
  ·injection h with h; subst h; exact z_d5 hok
  ·injection h with h; subst h; exact z_gH hok
  ·injection h with h; subst h; exact z_gL hok
  ·injection h with h; subst h; exact z_gD hok
  ·injection h with h; subst h; exact z_gs hok
  ·injection h with h; subst h; exact z_f5 hok
  ·injection h with h; subst h; exact z_dM hok
  cases h
end Go.Proofs.YtaadjlpfdajggaaGreatDoor
