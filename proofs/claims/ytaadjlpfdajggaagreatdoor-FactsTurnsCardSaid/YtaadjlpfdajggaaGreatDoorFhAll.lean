import Derived.Test.YtaadjlpfdajggaaGreatDoorFhTab
import Derived.Test.YtaadjlpfdajggaaGreatDoorFhShelf
import Derived.Test.YtaadjlpfdajggaaGreatDoorFhHand9
import Derived.Test.YtaadjlpfdajggaaGreatDoorFhFixed9
set_option maxRecDepth 100000
set_option linter.unusedVariables false
set_option linter.unusedSimpArgs false
namespace Go.Proofs.YtaadjlpfdajggaaGreatDoor
open Go Go.AM
theorem fm_int {k:IntKind} {l:List Int}:l.flatMap (cInt k) = l.map (Value.int k):=by
 induction l with
 | nil=>rfl
 | cons x l ih=>simp [cInt,ih]
theorem z_dg {n:Nat} (hok:CallOk Mt (tabC T n)):Holds1 Mt K_7 (n + 1):=by
 rintro ro H args ⟨x0,x1⟩ r ⟨b0,d1,b1,s1,rfl,h0,f1,f2,f3,n1,n2,n3⟩ hm hro
 cases x0 with
 | none =>
  obtain rfl:=m103_none (n:=n + 1) (x1:=x1) (r:=r) hm
  exact sort_nil (M:=Mt) srtLays (pb rfl) rfl
 | some l =>
  obtain ⟨k,hk,q1,q2,q3,q4,rfl⟩:=m103_some (n:=n + 1) (l:=l) (x1:=x1) (r:=r) hm
  obtain rfl:k = n:=by omega
  obtain ⟨g1,g2⟩:=h0 l rfl
  have e1:b0 ≠ d1:=n1 (by simp)
  have e2:b0 ≠ b1:=n2 (by simp)
  have hcmp:CmpIs (tabC T k) 104 [.pointer (some ⟨d1,0,none⟩),.pointer (some ⟨b1,0,none⟩)] (H.set b0 .dead) l fun x y=>(m_w k x y x1 x1).getD 0:=fun x hx y hy=>by
   obtain ⟨v,hv⟩:=Option.ne_none_iff_exists'.1 (q3 x hx y hy)
   have k1:=(List.getElem?_set_ne (l:=H) (a:=Blk.dead) e1).trans f1
   have k2:=(List.getElem?_set_ne (l:=H) (a:=Blk.dead) e2).trans f2
   have k3:SlH (H.set b0 .dead) (cInt .i64) 3 x1 s1:=fun l' hl'=>by
    obtain ⟨more,hr⟩:=f3 l' hl'
    exact ⟨more,hr.to (List.getElem?_set_ne (n3 (by simp) (by simp [hl'])))⟩
   refine ⟨H.set b0 .dead,?_⟩
   show tabC T k _ _ _ _ = some (.int .i64 ((m_w k x y x1 x1).getD 0),_,[])
   rw [hv,Option.getD_some]
   exact z_e5 (H.set b0 .dead).length (H.set b0 .dead) x y x1 d1 b1 s1 x1 b1 s1 v k1 k2 k3 k2 k3 hv
  have h:=sort_sound (M:=Mt) (ro:=ro) (q:=0) (off:=0) hok srtLays (pb rfl) (pb rfl) rfl (Go.Proofs.enters_of Tryz.func104 (by kernel_rfl) rfl) g2 (by rw [fm_int,List.drop_zero,List.take_of_length_le (by simp)]) (by rw [fm_int]; simp) q1 q2 g1 hcmp q4
  have e:wrs (l.flatMap (cInt .i64)) 0 ((srt (fun x y=>(m_w k x y x1 x1).getD 0) l).map (Value.int .i64)) = (srt (fun x y=>(m_w k x y x1 x1).getD 0) l).flatMap (cInt .i64):=by
   rw [fm_int,fm_int,wrs_all (by simp [srt_len])]
  rw [e] at h
  exact h
theorem z_ev {n:Nat} (hok:CallOk Mt (tabC T n)):Holds1 Mt K_cv (n + 1):=by
 rintro ro H args ⟨x0,x1⟩ r ⟨b0,rfl,f0,f1⟩ hm hro
 exact (w_eZ hok (n:=n) z_go z_gA z_f0 z_gC z_gL hro f0 hm f1).e (pb rfl)
theorem z_fU {n:Nat} (hok:CallOk Mt (tabC T n)):Holds1 Mt K_ef (n + 1):=by
 rintro ro H args ⟨x0,x1⟩ r ⟨b0,rfl,f0⟩ hm hro
 have h:=(w_gM hok (n:=n) hro f0 hm).e (pb rfl)
 cases x0 with
 | none =>
  obtain rfl:r = none:=Classical.byContradiction fun hr=>(alias18 (n:=n + 1) hm).1 hr rfl
  exact h
 | some l=>exact h
theorem z_gb {n:Nat} (hok:CallOk Mt (tabC T n)):Holds1 Mt K_eD (n + 1):=by
 rintro ro H args x0 r ⟨b0,rfl,f0,f1⟩ hm hro
 exact (w_gS hok (n:=n) z_gs z_gx hro f0 hm f1).e (pb rfl)
theorem z_ga {n:Nat} (hok:CallOk Mt (tabC T n)):Holds1 Mt K_eG (n + 1):=by
 rintro ro H args x0 r ⟨b0,rfl,f0⟩ hm hro
 exact (w_gR hok (n:=n) z_dP z_eM hro f0 hm).e (pb rfl)
theorem z_gj {n:Nat} (hok:CallOk Mt (tabC T n)):Holds1 Mt K_eF (n + 1):=by
 rintro ro H args ⟨x0,x1⟩ r ⟨b0,rfl,f0⟩ hm hro
 exact (w_gU hok (n:=n) hro f0 hm).e (pb rfl)
theorem z_e6 {n:Nat} (hok:CallOk Mt (tabC T n)):Holds1 Mt K_di (n + 1):=by
 rintro ro H args ⟨x0,x1⟩ r rfl hm hro
 exact (w_f2 hok (n:=n) hro  hm).e (pb rfl)
theorem z_fW {n:Nat} (hok:CallOk Mt (tabC T n)):Holds1 Mt K_ei (n + 1):=by
 rintro ro H args x0 r ⟨b0,rfl,f0⟩ hm hro
 exact (w_gK hok (n:=n) z_gg z_gD z_f3 hro f0 hm).e (pb rfl)
theorem z_e3 {n:Nat} (hok:CallOk Mt (tabC T n)):Holds1 Mt K_c5 (n + 1):=by
 rintro ro H args x0 r rfl hm hro
 exact (w_fD hok (n:=n) z_eO hro  hm).e (pb rfl)
theorem z_f4 {n:Nat} (hok:CallOk Mt (tabC T n)):Holds1 Mt K_ej (n + 1):=by
 rintro ro H args x0 r ⟨b0,rfl,f0,f1⟩ hm hro
 exact (w_gE hok (n:=n) z_f6 z_dT z_gu z_gq z_gz z_fI hro f0 hm f1).e (pb rfl)
theorem z_fZ {n:Nat} (hok:CallOk Mt (tabC T n)):Holds1 Mt K_ep (n + 1):=by
 rintro ro H args x0 r ⟨b0,rfl,f0⟩ hm hro
 exact (w_gF hok (n:=n) z_fh z_fv hro f0 hm).e (pb rfl)
theorem z_fQ {n:Nat} (hok:CallOk Mt (tabC T n)):Holds1 Mt K_dR (n + 1):=by
 rintro ro H args x0 r ⟨b0,rfl,f0⟩ hm hro
 exact (w_gl hok (n:=n) z_fh hro f0 hm).e (pb rfl)
theorem z_fR {n:Nat} (hok:CallOk Mt (tabC T n)):Holds1 Mt K_dX (n + 1):=by
 rintro ro H args x0 r ⟨b0,rfl,f0⟩ hm hro
 exact (w_gm hok (n:=n) z_dP z_eM z_eq hro f0 hm).e (pb rfl)
theorem z_ge {n:Nat} (hok:CallOk Mt (tabC T n)):Holds1 Mt K_eA (n + 1):=by
 rintro ro H args x0 r ⟨b0,rfl,f0⟩ hm hro
 exact (w_gV hok (n:=n) z_gB z_gr hro f0 hm).e (pb rfl)
theorem z_gd {n:Nat} (hok:CallOk Mt (tabC T n)):Holds1 Mt K_ex (n + 1):=by
 rintro ro H args x0 r rfl hm hro
 exact (w_gT hok (n:=n) hro  hm).e (pb rfl)
theorem z_fo {n:Nat} (hok:CallOk Mt (tabC T n)):Holds1 Mt K_dx (n + 1):=by
 rintro ro H args x0 r ⟨b0,rfl,f0⟩ hm hro
 exact (w_gh hok (n:=n) z_dP z_dA z_dU hro f0 hm).e (pb rfl)
theorem z_es {n:Nat} (hok:CallOk Mt (tabC T n)):Holds1 Mt K_cw (n + 1):=by
 rintro ro H args x0 r rfl hm hro
 exact (w_e2 hok (n:=n) hro  hm).e (pb rfl)
theorem z_fA {n:Nat} (hok:CallOk Mt (tabC T n)):Holds1 Mt K_dD (n + 1):=by
 rintro ro H args x0 r ⟨rfl,f0⟩ hm hro
 exact (w_gc hok (n:=n) z_fB z_fz hro  hm f0).e (pb rfl)
theorem z_eT {n:Nat} (hok:CallOk Mt (tabC T n)):Holds1 Mt K_cW (n + 1):=by
 rintro ro H args ⟨⟩ r rfl hm hro
 exact (w_fO hok (n:=n) hro  hm).e (pb rfl)
theorem z_f5 {n:Nat} (hok:CallOk Mt (tabC T n)):Holds1 Mt K_eb (n + 1):=by
 rintro ro H args ⟨⟩ r rfl hm hro
 exact (w_gG hok (n:=n) z_fx hro  hm).e (pb rfl)
theorem z_fX {n:Nat} (hok:CallOk Mt (tabC T n)):Holds1 Mt K_en (n + 1):=by
 rintro ro H args ⟨x0,x1⟩ r rfl hm hro
 exact (w_gI hok (n:=n) z_ea z_eX hro  hm).e (pb rfl)
theorem z_fV {n:Nat} (hok:CallOk Mt (tabC T n)):Holds1 Mt K_el (n + 1):=by
 rintro ro H args ⟨x0,x1⟩ r rfl hm hro
 exact (w_gO hok (n:=n) z_ea hro  hm).e (pb rfl)
theorem z_fa {n:Nat} (hok:CallOk Mt (tabC T n)):Holds1 Mt K_dh (n + 1):=by
 rintro ro H args ⟨x0,x1⟩ r rfl hm hro
 exact (w_fT hok (n:=n) z_dT hro  hm).e (pb rfl)
theorem z_eW {n:Nat} (hok:CallOk Mt (tabC T n)):Holds1 Mt K_db (n + 1):=by
 rintro ro H args x0 r rfl hm hro
 exact (w_fP hok (n:=n) z_fs z_fF hro  hm).e (pb rfl)
theorem z_d4 {n:Nat} (hok:CallOk Mt (tabC T n)):Holds1 Mt K_b8 (n + 1):=by
 rintro ro H args x0 r ⟨b0,rfl,f0⟩ hm hro
 exact (w_eH hok (n:=n) hro f0 hm).e (pb rfl)
theorem z_gi {n:Nat} (hok:CallOk Mt (tabC T n)):Holds1 Mt K_eE (n + 1):=by
 rintro ro H args ⟨x0,x1⟩ r rfl hm hro
 exact (w_gQ hok (n:=n) hro  hm).e (pb rfl)
theorem z_f1 {n:Nat} (hok:CallOk Mt (tabC T n)):Holds1 Mt K_ek (n + 1):=by
 rintro ro H args ⟨x0,x1⟩ r rfl hm hro
 exact (w_gN hok (n:=n) hro  hm).e (pb rfl)
theorem z_eN {n:Nat} (hok:CallOk Mt (tabC T n)):Holds1 Mt K_cU (n + 1):=by
 rintro ro H args ⟨x0,x1⟩ r ⟨b1,s1,rfl,f0,f1⟩ hm hro
 exact (w_fr hok (n:=n) hro f0 f1 hm).e (pb rfl)
theorem z_eR {n:Nat} (hok:CallOk Mt (tabC T n)):Holds1 Mt K_cV (n + 1):=by
 rintro ro H args ⟨x0,x1,x2,x3⟩ r ⟨d2,b2,s2,b3,s3,rfl,f0,f1,f2,f3,f4⟩ hm hro
 exact (w_fq hok (n:=n) z_e4 hro f0 f1 f2 f3 f4 hm).e (pb rfl)
theorem z_eQ {n:Nat} (hok:CallOk Mt (tabC T n)):Holds1 Mt K_cS (n + 1):=by
 rintro ro H args ⟨x0,x1⟩ r ⟨b1,s1,rfl,f0,f1⟩ hm hro
 exact (w_ft hok (n:=n) hro f0 f1 hm).e (pb rfl)
theorem z_dy {n:Nat} (hok:CallOk Mt (tabC T n)):Holds1 Mt K_bJ (n + 1):=by
 rintro ro H args ⟨x0,x1⟩ r ⟨b0,b1,s1,rfl,f0,f1,f2⟩ hm hro
 exact (w_d1 hok (n:=n) z_dZ hro f0 f1 f2 hm).e (pb rfl)
theorem z_e1 {n:Nat} (hok:CallOk Mt (tabC T n)):Holds1 Mt K_c2 (n + 1):=by
 rintro ro H args x0 r rfl hm hro
 exact (w_fG hok (n:=n) hro  hm).e (pb rfl)
theorem z_eY {n:Nat} (hok:CallOk Mt (tabC T n)):Holds1 Mt K_cX (n + 1):=by
 rintro ro H args x0 r ⟨rfl,f0⟩ hm hro
 exact (w_fL hok (n:=n) z_d0 hro  hm f0).e (pb rfl)
theorem z_eB {n:Nat} (hok:CallOk Mt (tabC T n)):Holds1 Mt K_cL (n + 1):=by
 rintro ro H args x0 r rfl hm hro
 exact (w_fb hok (n:=n) hro  hm).e (pb rfl)
theorem z_eU {n:Nat} (hok:CallOk Mt (tabC T n)):Holds1 Mt K_cY (n + 1):=by
 rintro ro H args x0 r rfl hm hro
 exact (w_fN hok (n:=n) hro  hm).e (pb rfl)
theorem z_dC {n:Nat} (hok:CallOk Mt (tabC T n)):Holds1 Mt K_bK (n + 1):=by
 rintro ro H args ⟨x0,x1⟩ r ⟨b0,b1,s1,rfl,f0,f1,f2⟩ hm hro
 exact (w_d2 hok (n:=n) z_e8 hro f0 f1 f2 hm).e (pb rfl)
theorem z_dH {n:Nat} (hok:CallOk Mt (tabC T n)):Holds1 Mt K_bX (n + 1):=by
 rintro ro H args x0 r ⟨rfl,f0⟩ hm hro
 exact (w_eh hok (n:=n) hro  hm f0).e (pb rfl)
theorem z_fn {n:Nat} (hok:CallOk Mt (tabC T n)):Holds1 Mt K_dB (n + 1):=by
 rintro ro H args ⟨⟩ r ⟨rfl,f0⟩ hm hro
 obtain rfl:=Option.some.inj hm
 exact closed29 ro H f0 hro
theorem z_e7 {n:Nat} (hok:CallOk Mt (tabC T n)):Holds1 Mt K_dc (n + 1):=by
 rintro ro H args x0 r rfl hm hro
 obtain rfl:=Option.some.inj hm
 exact hand125 ro H x0 hro
theorem allOk:∀ n,CallOk Mt (tabC T n):=by
 refine all_ok (fun f k h=>?_) (fun f k h=>?_) fun n hok f k h=>?_
 ·unfold T at h; split at h <;> first | (injection h with h; subst h; rfl) | cases h
 ·unfold T at h; split at h <;> first | (injection h with h; subst h; intro x; rfl) | cases h
 ·unfold T at h; split at h
  ·injection h with h; subst h; exact z_ev hok
  ·injection h with h; subst h; exact z_fU hok
  ·injection h with h; subst h; exact z_gb hok
  ·injection h with h; subst h; exact z_ga hok
  ·injection h with h; subst h; exact z_gj hok
  ·injection h with h; subst h; exact z_e6 hok
  ·injection h with h; subst h; exact z_fW hok
  ·injection h with h; subst h; exact z_e3 hok
  ·injection h with h; subst h; exact z_f4 hok
  ·injection h with h; subst h; exact z_fZ hok
  ·injection h with h; subst h; exact z_fQ hok
  ·injection h with h; subst h; exact z_fR hok
  ·injection h with h; subst h; exact z_ge hok
  ·injection h with h; subst h; exact z_gd hok
  ·injection h with h; subst h; exact z_fo hok
  ·injection h with h; subst h; exact z_es hok
  ·injection h with h; subst h; exact z_fA hok
  ·injection h with h; subst h; exact z_eT hok
  ·injection h with h; subst h; exact z_f5 hok
  ·injection h with h; subst h; exact z_fX hok
  ·injection h with h; subst h; exact z_fV hok
  ·injection h with h; subst h; exact z_fa hok
  ·injection h with h; subst h; exact z_eW hok
  ·injection h with h; subst h; exact z_d4 hok
  ·injection h with h; subst h; exact z_gi hok
  ·injection h with h; subst h; exact z_f1 hok
  ·injection h with h; subst h; exact z_eN hok
  ·injection h with h; subst h; exact z_eR hok
  ·injection h with h; subst h; exact z_eQ hok
  ·injection h with h; subst h; exact z_dy hok
  ·injection h with h; subst h; exact z_e1 hok
  ·injection h with h; subst h; exact z_eY hok
  ·injection h with h; subst h; exact z_eB hok
  ·injection h with h; subst h; exact z_eU hok
  ·injection h with h; subst h; exact z_dC hok
  ·injection h with h; subst h; exact z_dH hok
  ·injection h with h; subst h; exact z_fn hok
  ·injection h with h; subst h; exact z_e7 hok
  ·injection h with h; subst h; exact z_dg hok
  cases h
end Go.Proofs.YtaadjlpfdajggaaGreatDoor
