import Derived.Test.YtaadjlpfdajggaaGreatDoorFiTab
import Derived.Test.YtaadjlpfdajggaaGreatDoorFiShelf
import Derived.Test.YtaadjlpfdajggaaGreatDoorFiHand9
import Derived.Test.YtaadjlpfdajggaaGreatDoorFiFixed9
set_option maxRecDepth 100000
set_option linter.unusedVariables false
set_option linter.unusedSimpArgs false
namespace Go.Proofs.YtaadjlpfdajggaaGreatDoor
open Go Go.AM
theorem fm_int {k:IntKind} {l:List Int}:l.flatMap (cInt k) = l.map (Value.int k):=by
 induction l with
 | nil=>rfl
 | cons x l ih=>simp [cInt,ih]
theorem z_dv {n:Nat} (hok:CallOk Mt (tabC T n)):Holds1 Mt K_bd (n + 1):=by
 rintro ro H args ⟨x0,x1⟩ r ⟨b0,d1,b1,s1,rfl,h0,f1,f2,f3,n1,n2,n3⟩ hm hro
 cases x0 with
 | none =>
  obtain rfl:=m103_none (n:=n + 1) (x1:=x1) (r:=r) hm
  exact sort_nil (M:=Mt) srtLays (pb rfl) rfl
 | some l =>
  obtain ⟨k,hk,q1,q2,q3,q4,rfl⟩:=m103_some (n:=n + 1) (l:=l) (x1:=x1) (r:=r) hm
  obtain rfl:k = n:=by omega
  obtain ⟨g1,g2⟩:=h0 l rfl
  have e1:b0 ≠ d1:=n1 (by simp)
  have e2:b0 ≠ b1:=n2 (by simp)
  have hcmp:CmpIs (tabC T k) 104 [.pointer (some ⟨d1,0,none⟩),.pointer (some ⟨b1,0,none⟩)] (H.set b0 .dead) l fun x y=>(m_x k x y x1 x1).getD 0:=fun x hx y hy=>by
   obtain ⟨v,hv⟩:=Option.ne_none_iff_exists'.1 (q3 x hx y hy)
   have k1:=(List.getElem?_set_ne (l:=H) (a:=Blk.dead) e1).trans f1
   have k2:=(List.getElem?_set_ne (l:=H) (a:=Blk.dead) e2).trans f2
   have k3:SlH (H.set b0 .dead) (cInt .i64) 3 x1 s1:=fun l' hl'=>by
    obtain ⟨more,hr⟩:=f3 l' hl'
    exact ⟨more,hr.to (List.getElem?_set_ne (n3 (by simp) (by simp [hl'])))⟩
   refine ⟨H.set b0 .dead,?_⟩
   show tabC T k _ _ _ _ = some (.int .i64 ((m_x k x y x1 x1).getD 0),_,[])
   rw [hv,Option.getD_some]
   exact z_fh (H.set b0 .dead).length (H.set b0 .dead) x y x1 d1 b1 s1 x1 b1 s1 v k1 k2 k3 k2 k3 hv
  have h:=sort_sound (M:=Mt) (ro:=ro) (q:=0) (off:=0) hok srtLays (pb rfl) (pb rfl) rfl (Go.Proofs.enters_of Tryz.func104 (by kernel_rfl) rfl) g2 (by rw [fm_int,List.drop_zero,List.take_of_length_le (by simp)]) (by rw [fm_int]; simp) q1 q2 g1 hcmp q4
  have e:wrs (l.flatMap (cInt .i64)) 0 ((srt (fun x y=>(m_x k x y x1 x1).getD 0) l).map (Value.int .i64)) = (srt (fun x y=>(m_x k x y x1 x1).getD 0) l).flatMap (cInt .i64):=by
   rw [fm_int,fm_int,wrs_all (by simp [srt_len])]
  rw [e] at h
  exact h
theorem z_eQ {n:Nat} (hok:CallOk Mt (tabC T n)):Holds1 Mt K_cW (n + 1):=by
 rintro ro H args ⟨x0,x1⟩ r ⟨b0,b1,rfl,f0,f1,f2⟩ hm hro
 exact (w_fk hok (n:=n) z_gO z_g5 z_gd z_gX z_gs z_gY z_dr hro f0 f1 hm f2).e (pb rfl)
theorem z_gl {n:Nat} (hok:CallOk Mt (tabC T n)):Holds1 Mt K_ey (n + 1):=by
 rintro ro H args ⟨x0,x1⟩ r ⟨b0,rfl,f0⟩ hm hro
 have h:=(w_g3 hok (n:=n) hro f0 hm).e (pb rfl)
 cases x0 with
 | none =>
  obtain rfl:r = none:=Classical.byContradiction fun hr=>(alias18 (n:=n + 1) hm).1 hr rfl
  exact h
 | some l=>exact h
theorem z_gw {n:Nat} (hok:CallOk Mt (tabC T n)):Holds1 Mt K_eR (n + 1):=by
 rintro ro H args x0 r ⟨b0,rfl,f0,f1⟩ hm hro
 exact (w_g6 hok (n:=n) z_gB z_gP hro f0 hm f1).e (pb rfl)
theorem z_gr {n:Nat} (hok:CallOk Mt (tabC T n)):Holds1 Mt K_eO (n + 1):=by
 rintro ro H args x0 r ⟨b0,rfl,f0⟩ hm hro
 exact (w_g7 hok (n:=n) z_d8 z_eU hro f0 hm).e (pb rfl)
theorem z_f4 {n:Nat} (hok:CallOk Mt (tabC T n)):Holds1 Mt K_d5 (n + 1):=by
 rintro ro H args x0 r ⟨b0,rfl,f0⟩ hm hro
 exact (w_gG hok (n:=n) hro f0 hm).e (pb rfl)
theorem z_gq {n:Nat} (hok:CallOk Mt (tabC T n)):Holds1 Mt K_eP (n + 1):=by
 rintro ro H args ⟨x0,x1,x2⟩ r ⟨b0,b1,rfl,f0,f1⟩ hm hro
 exact (w_ha hok (n:=n) z_et hro f0 f1 hm).e (pb rfl)
theorem z_fo {n:Nat} (hok:CallOk Mt (tabC T n)):Holds1 Mt K_dt (n + 1):=by
 rintro ro H args ⟨x0,x1⟩ r rfl hm hro
 exact (w_ga hok (n:=n) hro  hm).e (pb rfl)
theorem z_f9 {n:Nat} (hok:CallOk Mt (tabC T n)):Holds1 Mt K_eB (n + 1):=by
 rintro ro H args x0 r ⟨b0,rfl,f0⟩ hm hro
 exact (w_gV hok (n:=n) z_gu z_gZ z_gn hro f0 hm).e (pb rfl)
theorem z_fc {n:Nat} (hok:CallOk Mt (tabC T n)):Holds1 Mt K_dl (n + 1):=by
 rintro ro H args x0 r rfl hm hro
 exact (w_fW hok (n:=n) z_eZ hro  hm).e (pb rfl)
theorem z_gm {n:Nat} (hok:CallOk Mt (tabC T n)):Holds1 Mt K_ez (n + 1):=by
 rintro ro H args x0 r ⟨b0,rfl,f0,f1⟩ hm hro
 exact (w_gT hok (n:=n) z_ge z_eg z_gI z_gD z_gJ z_fY hro f0 hm f1).e (pb rfl)
theorem z_gi {n:Nat} (hok:CallOk Mt (tabC T n)):Holds1 Mt K_eC (n + 1):=by
 rintro ro H args x0 r ⟨b0,rfl,f0⟩ hm hro
 exact (w_gU hok (n:=n) z_et z_fC hro f0 hm).e (pb rfl)
theorem z_fZ {n:Nat} (hok:CallOk Mt (tabC T n)):Holds1 Mt K_eh (n + 1):=by
 rintro ro H args x0 r ⟨b0,rfl,f0⟩ hm hro
 exact (w_gM hok (n:=n) z_et hro f0 hm).e (pb rfl)
theorem z_f1 {n:Nat} (hok:CallOk Mt (tabC T n)):Holds1 Mt K_ec (n + 1):=by
 rintro ro H args x0 r ⟨b0,rfl,f0⟩ hm hro
 exact (w_gE hok (n:=n) z_d8 z_eU z_eH hro f0 hm).e (pb rfl)
theorem z_gx {n:Nat} (hok:CallOk Mt (tabC T n)):Holds1 Mt K_eT (n + 1):=by
 rintro ro H args x0 r ⟨b0,rfl,f0⟩ hm hro
 exact (w_hb hok (n:=n) z_gW z_gK hro f0 hm).e (pb rfl)
theorem z_gA {n:Nat} (hok:CallOk Mt (tabC T n)):Holds1 Mt K_eN (n + 1):=by
 rintro ro H args x0 r rfl hm hro
 exact (w_g8 hok (n:=n) hro  hm).e (pb rfl)
theorem z_fH {n:Nat} (hok:CallOk Mt (tabC T n)):Holds1 Mt K_dN (n + 1):=by
 rintro ro H args x0 r ⟨b0,rfl,f0⟩ hm hro
 exact (w_gy hok (n:=n) z_d8 z_dP z_ed hro f0 hm).e (pb rfl)
theorem z_eG {n:Nat} (hok:CallOk Mt (tabC T n)):Holds1 Mt K_cK (n + 1):=by
 rintro ro H args x0 r rfl hm hro
 exact (w_e6 hok (n:=n) hro  hm).e (pb rfl)
theorem z_fB {n:Nat} (hok:CallOk Mt (tabC T n)):Holds1 Mt K_dO (n + 1):=by
 rintro ro H args x0 r ⟨rfl,f0⟩ hm hro
 exact (w_gz hok (n:=n) z_fN z_fL hro  hm f0).e (pb rfl)
theorem z_e8 {n:Nat} (hok:CallOk Mt (tabC T n)):Holds1 Mt K_do (n + 1):=by
 rintro ro H args ⟨⟩ r rfl hm hro
 exact (w_fU hok (n:=n) hro  hm).e (pb rfl)
theorem z_gj {n:Nat} (hok:CallOk Mt (tabC T n)):Holds1 Mt K_eu (n + 1):=by
 rintro ro H args ⟨⟩ r rfl hm hro
 exact (w_g1 hok (n:=n) z_fD hro  hm).e (pb rfl)
theorem z_gc {n:Nat} (hok:CallOk Mt (tabC T n)):Holds1 Mt K_ev (n + 1):=by
 rintro ro H args ⟨x0,x1⟩ r rfl hm hro
 exact (w_gS hok (n:=n) z_dr z_fd hro  hm).e (pb rfl)
theorem z_gh {n:Nat} (hok:CallOk Mt (tabC T n)):Holds1 Mt K_ex (n + 1):=by
 rintro ro H args ⟨x0,x1⟩ r rfl hm hro
 exact (w_g2 hok (n:=n) z_dr hro  hm).e (pb rfl)
theorem z_fl {n:Nat} (hok:CallOk Mt (tabC T n)):Holds1 Mt K_ds (n + 1):=by
 rintro ro H args ⟨x0,x1⟩ r rfl hm hro
 exact (w_gg hok (n:=n) z_eg hro  hm).e (pb rfl)
theorem z_ff {n:Nat} (hok:CallOk Mt (tabC T n)):Holds1 Mt K_df (n + 1):=by
 rintro ro H args x0 r rfl hm hro
 exact (w_fV hok (n:=n) z_fA z_fX hro  hm).e (pb rfl)
theorem z_ej {n:Nat} (hok:CallOk Mt (tabC T n)):Holds1 Mt K_cl (n + 1):=by
 rintro ro H args x0 r ⟨b0,rfl,f0⟩ hm hro
 exact (w_eS hok (n:=n) hro f0 hm).e (pb rfl)
theorem z_gv {n:Nat} (hok:CallOk Mt (tabC T n)):Holds1 Mt K_eL (n + 1):=by
 rintro ro H args ⟨x0,x1⟩ r rfl hm hro
 exact (w_g9 hok (n:=n) hro  hm).e (pb rfl)
theorem z_gk {n:Nat} (hok:CallOk Mt (tabC T n)):Holds1 Mt K_eE (n + 1):=by
 rintro ro H args ⟨x0,x1⟩ r rfl hm hro
 exact (w_gR hok (n:=n) hro  hm).e (pb rfl)
theorem z_e1 {n:Nat} (hok:CallOk Mt (tabC T n)):Holds1 Mt K_c7 (n + 1):=by
 rintro ro H args ⟨x0,x1⟩ r ⟨b1,s1,rfl,f0,f1⟩ hm hro
 exact (w_fG hok (n:=n) hro f0 f1 hm).e (pb rfl)
theorem z_e3 {n:Nat} (hok:CallOk Mt (tabC T n)):Holds1 Mt K_c9 (n + 1):=by
 rintro ro H args ⟨x0,x1,x2,x3⟩ r ⟨d2,b2,s2,b3,s3,rfl,f0,f1,f2,f3,f4⟩ hm hro
 exact (w_fF hok (n:=n) z_fj hro f0 f1 f2 f3 f4 hm).e (pb rfl)
theorem z_e2 {n:Nat} (hok:CallOk Mt (tabC T n)):Holds1 Mt K_c6 (n + 1):=by
 rintro ro H args ⟨x0,x1⟩ r ⟨b1,s1,rfl,f0,f1⟩ hm hro
 exact (w_fI hok (n:=n) hro f0 f1 hm).e (pb rfl)
theorem z_dQ {n:Nat} (hok:CallOk Mt (tabC T n)):Holds1 Mt K_bW (n + 1):=by
 rintro ro H args ⟨x0,x1⟩ r ⟨b0,b1,s1,rfl,f0,f1,f2⟩ hm hro
 exact (w_em hok (n:=n) z_ee hro f0 f1 f2 hm).e (pb rfl)
theorem z_e9 {n:Nat} (hok:CallOk Mt (tabC T n)):Holds1 Mt K_db (n + 1):=by
 rintro ro H args x0 r rfl hm hro
 exact (w_f3 hok (n:=n) hro  hm).e (pb rfl)
theorem z_e5 {n:Nat} (hok:CallOk Mt (tabC T n)):Holds1 Mt K_dp (n + 1):=by
 rintro ro H args x0 r ⟨rfl,f0⟩ hm hro
 exact (w_f5 hok (n:=n) z_ei hro  hm f0).e (pb rfl)
theorem z_eM {n:Nat} (hok:CallOk Mt (tabC T n)):Holds1 Mt K_cY (n + 1):=by
 rintro ro H args x0 r rfl hm hro
 exact (w_fi hok (n:=n) hro  hm).e (pb rfl)
theorem z_e4 {n:Nat} (hok:CallOk Mt (tabC T n)):Holds1 Mt K_dq (n + 1):=by
 rintro ro H args x0 r rfl hm hro
 exact (w_f6 hok (n:=n) hro  hm).e (pb rfl)
theorem z_dK {n:Nat} (hok:CallOk Mt (tabC T n)):Holds1 Mt K_bU (n + 1):=by
 rintro ro H args ⟨x0,x1⟩ r ⟨b0,b1,s1,rfl,f0,f1,f2⟩ hm hro
 exact (w_el hok (n:=n) z_fp hro f0 f1 f2 hm).e (pb rfl)
theorem z_d0 {n:Nat} (hok:CallOk Mt (tabC T n)):Holds1 Mt K_b7 (n + 1):=by
 rintro ro H args x0 r ⟨rfl,f0⟩ hm hro
 exact (w_eA hok (n:=n) hro  hm f0).e (pb rfl)
theorem z_fP {n:Nat} (hok:CallOk Mt (tabC T n)):Holds1 Mt K_dL (n + 1):=by
 rintro ro H args ⟨⟩ r ⟨rfl,f0⟩ hm hro
 obtain rfl:=Option.some.inj hm
 exact closed29 ro H f0 hro
theorem z_fm {n:Nat} (hok:CallOk Mt (tabC T n)):Holds1 Mt K_dx (n + 1):=by
 rintro ro H args x0 r rfl hm hro
 obtain rfl:=Option.some.inj hm
 exact hand125 ro H x0 hro
theorem allOk:∀ n,CallOk Mt (tabC T n):=by
 refine all_ok (fun f k h=>?_) (fun f k h=>?_) fun n hok f k h=>?_
 ·unfold T at h; split at h <;> first | (injection h with h; subst h; rfl) | cases h
 ·unfold T at h; split at h <;> first | (injection h with h; subst h; intro x; rfl) | cases h
 ·unfold T at h; split at h
  ·injection h with h; subst h; exact z_eQ hok
  ·injection h with h; subst h; exact z_gl hok
  ·injection h with h; subst h; exact z_gw hok
  ·injection h with h; subst h; exact z_gr hok
  ·injection h with h; subst h; exact z_f4 hok
  ·injection h with h; subst h; exact z_gq hok
  ·injection h with h; subst h; exact z_fo hok
  ·injection h with h; subst h; exact z_f9 hok
  ·injection h with h; subst h; exact z_fc hok
  ·injection h with h; subst h; exact z_gm hok
  ·injection h with h; subst h; exact z_gi hok
  ·injection h with h; subst h; exact z_fZ hok
  ·injection h with h; subst h; exact z_f1 hok
  ·injection h with h; subst h; exact z_gx hok
  ·injection h with h; subst h; exact z_gA hok
  ·injection h with h; subst h; exact z_fH hok
  ·injection h with h; subst h; exact z_eG hok
  ·injection h with h; subst h; exact z_fB hok
  ·injection h with h; subst h; exact z_e8 hok
  ·injection h with h; subst h; exact z_gj hok
  ·injection h with h; subst h; exact z_gc hok
  ·injection h with h; subst h; exact z_gh hok
  ·injection h with h; subst h; exact z_fl hok
  ·injection h with h; subst h; exact z_ff hok
  ·injection h with h; subst h; exact z_ej hok
  ·injection h with h; subst h; exact z_gv hok
  ·injection h with h; subst h; exact z_gk hok
  ·injection h with h; subst h; exact z_e1 hok
  ·injection h with h; subst h; exact z_e3 hok
  ·injection h with h; subst h; exact z_e2 hok
  ·injection h with h; subst h; exact z_dQ hok
  ·injection h with h; subst h; exact z_e9 hok
  ·injection h with h; subst h; exact z_e5 hok
  ·injection h with h; subst h; exact z_eM hok
  ·injection h with h; subst h; exact z_e4 hok
  ·injection h with h; subst h; exact z_dK hok
  ·injection h with h; subst h; exact z_d0 hok
  ·injection h with h; subst h; exact z_fP hok
  ·injection h with h; subst h; exact z_fm hok
  ·injection h with h; subst h; exact z_dv hok
  cases h
end Go.Proofs.YtaadjlpfdajggaaGreatDoor
