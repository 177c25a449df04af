import Derived.Test.YtaadjlpfdajggaaGreatDoorBvTab
import Derived.Test.YtaadjlpfdajggaaGreatDoorBvShelf
import Derived.Test.YtaadjlpfdajggaaGreatDoorBvHand9
import Derived.Test.YtaadjlpfdajggaaGreatDoorBvFixed14
set_option maxRecDepth 100000
set_option linter.unusedVariables false
set_option linter.unusedSimpArgs false
namespace Go.Proofs.YtaadjlpfdajggaaGreatDoor
open Go Go.AM
theorem fm_int {k:IntKind} {l:List Int}:l.flatMap (cInt k) = l.map (Value.int k):=by
 induction l with
 | nil=>rfl
 | cons x l ih=>simp [cInt,ih]
theorem z_cz {n:Nat} (hok:CallOk Mt (tabC T n)):Holds1 Mt K_P (n + 1):=by
 rintro ro H args ⟨x0,x1⟩ r ⟨b0,d1,b1,s1,rfl,h0,f1,f2,f3,n1,n2,n3⟩ hm hro
 cases x0 with
 | none =>
  obtain rfl:=m103_none (n:=n + 1) (x1:=x1) (r:=r) hm
  exact sort_nil (M:=Mt) srtLays (pb rfl) rfl
 | some l =>
  obtain ⟨k,hk,q1,q2,q3,q4,rfl⟩:=m103_some (n:=n + 1) (l:=l) (x1:=x1) (r:=r) hm
  obtain rfl:k = n:=by omega
  obtain ⟨g1,g2⟩:=h0 l rfl
  have e1:b0 ≠ d1:=n1 (by simp)
  have e2:b0 ≠ b1:=n2 (by simp)
  have hcmp:CmpIs (tabC T k) 104 [.pointer (some ⟨d1,0,none⟩),.pointer (some ⟨b1,0,none⟩)] (H.set b0 .dead) l fun x y=>(m_l k x y x1 x1).getD 0:=fun x hx y hy=>by
   obtain ⟨v,hv⟩:=Option.ne_none_iff_exists'.1 (q3 x hx y hy)
   have k1:=(List.getElem?_set_ne (l:=H) (a:=Blk.dead) e1).trans f1
   have k2:=(List.getElem?_set_ne (l:=H) (a:=Blk.dead) e2).trans f2
   have k3:SlH (H.set b0 .dead) (cInt .i64) 3 x1 s1:=fun l' hl'=>by
    obtain ⟨more,hr⟩:=f3 l' hl'
    exact ⟨more,hr.to (List.getElem?_set_ne (n3 (by simp) (by simp [hl'])))⟩
   refine ⟨H.set b0 .dead,?_⟩
   show tabC T k _ _ _ _ = some (.int .i64 ((m_l k x y x1 x1).getD 0),_,[])
   rw [hv,Option.getD_some]
   exact z_ek (H.set b0 .dead).length (H.set b0 .dead) x y x1 d1 b1 s1 x1 b1 s1 v k1 k2 k3 k2 k3 hv
  have h:=sort_sound (M:=Mt) (ro:=ro) (q:=0) (off:=0) hok srtLays (pb rfl) (pb rfl) rfl (Go.Proofs.enters_of Tryz.func104 (by kernel_rfl) rfl) g2 (by rw [fm_int,List.drop_zero,List.take_of_length_le (by simp)]) (by rw [fm_int]; simp) q1 q2 g1 hcmp q4
  have e:wrs (l.flatMap (cInt .i64)) 0 ((srt (fun x y=>(m_l k x y x1 x1).getD 0) l).map (Value.int .i64)) = (srt (fun x y=>(m_l k x y x1 x1).getD 0) l).flatMap (cInt .i64):=by
   rw [fm_int,fm_int,wrs_all (by simp [srt_len])]
  rw [e] at h
  exact h
theorem z_dD {n:Nat} (hok:CallOk Mt (tabC T n)):Holds1 Mt K_bY (n + 1):=by
 rintro ro H args ⟨x0,x1,x2⟩ r ⟨b0,b1,rfl,f0,f1,f2⟩ hm hro
 exact (w_d8 hok (n:=n) z_fs z_d1 z_eY z_e0 z_fA z_fT z_e9 z_fI hro f0 f1 hm f2).e (pb rfl)
theorem z_eZ {n:Nat} (hok:CallOk Mt (tabC T n)):Holds1 Mt K_ds (n + 1):=by
 rintro ro H args ⟨x0,x1⟩ r ⟨b0,rfl,f0⟩ hm hro
 have h:=(w_fB hok (n:=n) hro f0 hm).e (pb rfl)
 cases x0 with
 | none =>
  obtain rfl:r = none:=Classical.byContradiction fun hr=>(alias18 (n:=n + 1) hm).1 hr rfl
  exact h
 | some l=>exact h
theorem z_eJ {n:Nat} (hok:CallOk Mt (tabC T n)):Holds1 Mt K_da (n + 1):=by
 rintro ro H args ⟨x0,x1⟩ r ⟨b0,rfl,f0⟩ hm hro
 exact (w_fr hok (n:=n) z_fw z_ef z_fz hro f0 hm).e (pb rfl)
theorem z_ev {n:Nat} (hok:CallOk Mt (tabC T n)):Holds1 Mt K_cL (n + 1):=by
 rintro ro H args ⟨x0,x1⟩ r ⟨b0,rfl,f0⟩ hm hro
 exact (w_fl hok (n:=n) z_d1 z_ff z_fJ hro f0 hm).e (pb rfl)
theorem z_fe {n:Nat} (hok:CallOk Mt (tabC T n)):Holds1 Mt K_dP (n + 1):=by
 rintro ro H args x0 r ⟨b0,rfl,f0⟩ hm hro
 exact (w_fU hok (n:=n) z_df z_d0 hro f0 hm).e (pb rfl)
theorem z_fm {n:Nat} (hok:CallOk Mt (tabC T n)):Holds1 Mt K_dR (n + 1):=by
 rintro ro H args ⟨x0,x1⟩ r ⟨b0,rfl,f0⟩ hm hro
 exact (w_fX hok (n:=n) hro f0 hm).e (pb rfl)
theorem z_eO {n:Nat} (hok:CallOk Mt (tabC T n)):Holds1 Mt K_dl (n + 1):=by
 rintro ro H args x0 r ⟨b0,rfl,f0⟩ hm hro
 exact (w_fy hok (n:=n) hro f0 hm).e (pb rfl)
theorem z_fc {n:Nat} (hok:CallOk Mt (tabC T n)):Holds1 Mt K_dV (n + 1):=by
 rintro ro H args ⟨x0,x1,x2⟩ r ⟨b0,b1,rfl,f0,f1⟩ hm hro
 exact (w_fW hok (n:=n) z_du hro f0 f1 hm).e (pb rfl)
theorem z_e4 {n:Nat} (hok:CallOk Mt (tabC T n)):Holds1 Mt K_dw (n + 1):=by
 rintro ro H args x0 r ⟨b0,rfl,f0⟩ hm hro
 exact (w_fG hok (n:=n) z_fn z_fS z_eW hro f0 hm).e (pb rfl)
theorem z_e5 {n:Nat} (hok:CallOk Mt (tabC T n)):Holds1 Mt K_dt (n + 1):=by
 rintro ro H args x0 r rfl hm hro
 exact (w_fE hok (n:=n) hro  hm).e (pb rfl)
theorem z_e2 {n:Nat} (hok:CallOk Mt (tabC T n)):Holds1 Mt K_dy (n + 1):=by
 rintro ro H args ⟨x0,x1⟩ r ⟨b0,rfl,f0⟩ hm hro
 exact (w_fQ hok (n:=n) z_ef z_eU hro f0 hm).e (pb rfl)
theorem z_eP {n:Nat} (hok:CallOk Mt (tabC T n)):Holds1 Mt K_dj (n + 1):=by
 rintro ro H args ⟨x0,x1⟩ r rfl hm hro
 exact (w_fx hok (n:=n) z_fC hro  hm).e (pb rfl)
theorem z_e8 {n:Nat} (hok:CallOk Mt (tabC T n)):Holds1 Mt K_dU (n + 1):=by
 rintro ro H args x0 r rfl hm hro
 exact (w_fV hok (n:=n) hro  hm).e (pb rfl)
theorem z_eV {n:Nat} (hok:CallOk Mt (tabC T n)):Holds1 Mt K_dv (n + 1):=by
 rintro ro H args x0 r ⟨b0,rfl,f0⟩ hm hro
 exact (w_fL hok (n:=n) z_du z_ez hro f0 hm).e (pb rfl)
theorem z_eG {n:Nat} (hok:CallOk Mt (tabC T n)):Holds1 Mt K_c7 (n + 1):=by
 rintro ro H args x0 r ⟨b0,rfl,f0⟩ hm hro
 exact (w_fq hok (n:=n) z_du hro f0 hm).e (pb rfl)
theorem z_eI {n:Nat} (hok:CallOk Mt (tabC T n)):Holds1 Mt K_c9 (n + 1):=by
 rintro ro H args x0 r ⟨b0,rfl,f0⟩ hm hro
 exact (w_fo hok (n:=n) z_df z_d0 z_dF hro f0 hm).e (pb rfl)
theorem z_fg {n:Nat} (hok:CallOk Mt (tabC T n)):Holds1 Mt K_dK (n + 1):=by
 rintro ro H args x0 r ⟨b0,rfl,f0⟩ hm hro
 exact (w_f1 hok (n:=n) z_fM z_fu hro f0 hm).e (pb rfl)
theorem z_fa {n:Nat} (hok:CallOk Mt (tabC T n)):Holds1 Mt K_dM (n + 1):=by
 rintro ro H args x0 r rfl hm hro
 exact (w_fZ hok (n:=n) hro  hm).e (pb rfl)
theorem z_et {n:Nat} (hok:CallOk Mt (tabC T n)):Holds1 Mt K_cK (n + 1):=by
 rintro ro H args x0 r ⟨b0,rfl,f0⟩ hm hro
 exact (w_fb hok (n:=n) z_df z_cP z_dh hro f0 hm).e (pb rfl)
theorem z_eC {n:Nat} (hok:CallOk Mt (tabC T n)):Holds1 Mt K_cJ (n + 1):=by
 rintro ro H args ⟨x0,x1⟩ r rfl hm hro
 exact (w_fk hok (n:=n) hro  hm).e (pb rfl)
theorem z_fh {n:Nat} (hok:CallOk Mt (tabC T n)):Holds1 Mt K_dN (n + 1):=by
 rintro ro H args x0 r rfl hm hro
 exact (w_f0 hok (n:=n) hro  hm).e (pb rfl)
theorem z_eb {n:Nat} (hok:CallOk Mt (tabC T n)):Holds1 Mt K_co (n + 1):=by
 rintro ro H args x0 r rfl hm hro
 exact (w_eE hok (n:=n) z_ew z_eR hro  hm).e (pb rfl)
theorem z_dn {n:Nat} (hok:CallOk Mt (tabC T n)):Holds1 Mt K_bI (n + 1):=by
 rintro ro H args x0 r ⟨b0,rfl,f0⟩ hm hro
 exact (w_dW hok (n:=n) hro f0 hm).e (pb rfl)
theorem z_fi {n:Nat} (hok:CallOk Mt (tabC T n)):Holds1 Mt K_dS (n + 1):=by
 rintro ro H args ⟨x0,x1⟩ r rfl hm hro
 exact (w_fY hok (n:=n) hro  hm).e (pb rfl)
theorem z_eX {n:Nat} (hok:CallOk Mt (tabC T n)):Holds1 Mt K_dC (n + 1):=by
 rintro ro H args ⟨x0,x1⟩ r rfl hm hro
 exact (w_fR hok (n:=n) hro  hm).e (pb rfl)
theorem z_d6 {n:Nat} (hok:CallOk Mt (tabC T n)):Holds1 Mt K_ck (n + 1):=by
 rintro ro H args ⟨x0,x1⟩ r ⟨b1,s1,rfl,f0,f1⟩ hm hro
 exact (w_ey hok (n:=n) hro f0 f1 hm).e (pb rfl)
theorem z_d7 {n:Nat} (hok:CallOk Mt (tabC T n)):Holds1 Mt K_cj (n + 1):=by
 rintro ro H args ⟨x0,x1,x2,x3⟩ r ⟨d2,b2,s2,b3,s3,rfl,f0,f1,f2,f3,f4⟩ hm hro
 exact (w_eA hok (n:=n) z_ei hro f0 f1 f2 f3 f4 hm).e (pb rfl)
theorem z_d5 {n:Nat} (hok:CallOk Mt (tabC T n)):Holds1 Mt K_cl (n + 1):=by
 rintro ro H args ⟨x0,x1⟩ r ⟨b1,s1,rfl,f0,f1⟩ hm hro
 exact (w_ex hok (n:=n) hro f0 f1 hm).e (pb rfl)
theorem z_cM {n:Nat} (hok:CallOk Mt (tabC T n)):Holds1 Mt K_bj (n + 1):=by
 rintro ro H args ⟨x0,x1⟩ r ⟨b0,b1,s1,rfl,f0,f1,f2⟩ hm hro
 exact (w_do hok (n:=n) z_dg hro f0 f1 f2 hm).e (pb rfl)
theorem z_ee {n:Nat} (hok:CallOk Mt (tabC T n)):Holds1 Mt K_cx (n + 1):=by
 rintro ro H args x0 r rfl hm hro
 exact (w_eN hok (n:=n) hro  hm).e (pb rfl)
theorem z_cQ {n:Nat} (hok:CallOk Mt (tabC T n)):Holds1 Mt K_bl (n + 1):=by
 rintro ro H args ⟨x0,x1⟩ r ⟨b0,b1,s1,rfl,f0,f1,f2⟩ hm hro
 exact (w_dm hok (n:=n) z_eh hro f0 f1 f2 hm).e (pb rfl)
theorem z_eu {n:Nat} (hok:CallOk Mt (tabC T n)):Holds1 Mt K_cN (n + 1):=by
 rintro ro H args ⟨⟩ r ⟨rfl,f0⟩ hm hro
 obtain rfl:=Option.some.inj hm
 exact closed25 ro H f0 hro
theorem z_el {n:Nat} (hok:CallOk Mt (tabC T n)):Holds1 Mt K_cy (n + 1):=by
 rintro ro H args x0 r rfl hm hro
 obtain rfl:=Option.some.inj hm
 exact hand125 ro H x0 hro
theorem allOk:∀ n,CallOk Mt (tabC T n):=by
 refine all_ok (fun f k h=>?_) (fun f k h=>?_) fun n hok f k h=>?_
 ·unfold T at h; split at h <;> first | (injection h with h; subst h; rfl) | cases h
 ·unfold T at h; split at h <;> first | (injection h with h; subst h; intro x; rfl) | cases h
 ·unfold T at h; split at h
  ·injection h with h; subst h; exact z_dD hok
  ·injection h with h; subst h; exact z_eZ hok
  ·injection h with h; subst h; exact z_eJ hok
  ·injection h with h; subst h; exact z_ev hok
  ·injection h with h; subst h; exact z_fe hok
  ·injection h with h; subst h; exact z_fm hok
  ·injection h with h; subst h; exact z_eO hok
  ·injection h with h; subst h; exact z_fc hok
  ·injection h with h; subst h; exact z_e4 hok
  ·injection h with h; subst h; exact z_e5 hok
  ·injection h with h; subst h; exact z_e2 hok
  ·injection h with h; subst h; exact z_eP hok
  ·injection h with h; subst h; exact z_e8 hok
  ·injection h with h; subst h; exact z_eV hok
  ·injection h with h; subst h; exact z_eG hok
  ·injection h with h; subst h; exact z_eI hok
  ·injection h with h; subst h; exact z_fg hok
  ·injection h with h; subst h; exact z_fa hok
  ·injection h with h; subst h; exact z_et hok
  ·injection h with h; subst h; exact z_eC hok
  ·injection h with h; subst h; exact z_fh hok
  ·injection h with h; subst h; exact z_eb hok
  ·injection h with h; subst h; exact z_dn hok
  ·injection h with h; subst h; exact z_fi hok
  ·injection h with h; subst h; exact z_eX hok
  ·injection h with h; subst h; exact z_d6 hok
  ·injection h with h; subst h; exact z_d7 hok
  ·injection h with h; subst h; exact z_d5 hok
  ·injection h with h; subst h; exact z_cM hok
  ·injection h with h; subst h; exact z_ee hok
  ·injection h with h; subst h; exact z_cQ hok
  ·injection h with h; subst h; exact z_eu hok
  ·injection h with h; subst h; exact z_el hok
  ·injection h with h; subst h; exact z_cz hok
  cases h
end Go.Proofs.YtaadjlpfdajggaaGreatDoor
