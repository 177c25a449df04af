import Derived.Test.YtaadjlpfdajggaaGreatDoorFjTab
import Derived.Test.YtaadjlpfdajggaaGreatDoorFjShelf
import Derived.Test.YtaadjlpfdajggaaGreatDoorFjHand9
import Derived.Test.YtaadjlpfdajggaaGreatDoorFjFixed9
set_option maxRecDepth 100000
set_option linter.unusedVariables false
set_option linter.unusedSimpArgs false
namespace Go.Proofs.YtaadjlpfdajggaaGreatDoor
open Go Go.AM
theorem fm_int {k:IntKind} {l:List Int}:l.flatMap (cInt k) = l.map (Value.int k):=by
 induction l with
 | nil=>rfl
 | cons x l ih=>simp [cInt,ih]
theorem z_eR {n:Nat} (hok:CallOk Mt (tabC T n)):Holds1 Mt K_bF (n + 1):=by
 rintro ro H args ⟨x0,x1⟩ r ⟨b0,d1,b1,s1,rfl,h0,f1,f2,f3,n1,n2,n3⟩ hm hro
 cases x0 with
 | none =>
  obtain rfl:=m103_none (n:=n + 1) (x1:=x1) (r:=r) hm;exact sort_nil (M:=Mt) srtLays (pb rfl) rfl
 | some l =>
  obtain ⟨k,hk,q1,q2,q3,q4,rfl⟩:=m103_some (n:=n + 1) (l:=l) (x1:=x1) (r:=r) hm
  obtain rfl:k = n:=by omega
  obtain ⟨g1,g2⟩:=h0 l rfl;have e1:b0 ≠ d1:=n1 (by simp);have e2:b0 ≠ b1:=n2 (by simp)
  have hcmp:CmpIs (tabC T k) 104 [.pointer (some ⟨d1,0,none⟩),.pointer (some ⟨b1,0,none⟩)] (H.set b0 .dead) l fun x y=>(m_y k x y x1 x1).getD 0:=fun x hx y hy=>by
   obtain ⟨v,hv⟩:=Option.ne_none_iff_exists'.1 (q3 x hx y hy);have k1:=(List.getElem?_set_ne (l:=H) (a:=Blk.dead) e1).trans f1;have k2:=(List.getElem?_set_ne (l:=H) (a:=Blk.dead) e2).trans f2
   have k3:SlH (H.set b0 .dead) (cInt .i64) 3 x1 s1:=fun l' hl'=>by
    obtain ⟨more,hr⟩:=f3 l' hl';exact ⟨more,hr.to (List.getElem?_set_ne (n3 (by simp) (by simp [hl'])))⟩
   refine ⟨H.set b0 .dead,?_⟩;show tabC T k _ _ _ _ = some (.int .i64 ((m_y k x y x1 x1).getD 0),_,[]);rw [hv,Option.getD_some];exact z_hz (H.set b0 .dead).length (H.set b0 .dead) x y x1 d1 b1 s1 x1 b1 s1 v k1 k2 k3 k2 k3 hv
  have h:=sort_sound (M:=Mt) (ro:=ro) (q:=0) (off:=0) hok srtLays (pb rfl) (pb rfl) rfl (Go.Proofs.enters_of Tryz.func104 (by kernel_rfl) rfl) g2 (by rw [fm_int,List.drop_zero,List.take_of_length_le (by simp)]) (by rw [fm_int]; simp) q1 q2 g1 hcmp q4
  have e:wrs (l.flatMap (cInt .i64)) 0 ((srt (fun x y=>(m_y k x y x1 x1).getD 0) l).map (Value.int .i64)) = (srt (fun x y=>(m_y k x y x1 x1).getD 0) l).flatMap (cInt .i64):=by
   rw [fm_int,fm_int,wrs_all (by simp [srt_len])]
  rw [e] at h;exact h
theorem z_gM {n:Nat} (hok:CallOk Mt (tabC T n)):Holds1 Mt K_dW (n + 1):=by
 rintro ro H args x0 r ⟨b0,rfl,f0,f1⟩ hm hro;exact (w_hB hok (n:=n) z_jT z_jC z_ki z_kv z_jy z_i4 hro f0 hm f1).e (pb rfl)
theorem z_iW {n:Nat} (hok:CallOk Mt (tabC T n)):Holds1 Mt K_gx (n + 1):=by
 rintro ro H args ⟨x0,x1⟩ r ⟨b0,rfl,f0⟩ hm hro;have h:=(w_kf hok (n:=n) hro f0 hm).e (pb rfl)
 cases x0 with
 | none =>
  obtain rfl:r = none:=Classical.byContradiction fun hr=>(alias18 (n:=n + 1) hm).1 hr rfl;exact h
 | some l=>exact h
theorem z_i5 {n:Nat} (hok:CallOk Mt (tabC T n)):Holds1 Mt K_gy (n + 1):=by
 rintro ro H args x0 r ⟨b0,rfl,f0⟩ hm hro;exact (w_kn hok (n:=n) z_j1 hro f0 hm).e (pb rfl)
theorem z_jq {n:Nat} (hok:CallOk Mt (tabC T n)):Holds1 Mt K_gR (n + 1):=by
 rintro ro H args x0 r ⟨b0,rfl,f0,f1⟩ hm hro;exact (w_kz hok (n:=n) z_j3 z_jx hro f0 hm f1).e (pb rfl)
theorem z_jt {n:Nat} (hok:CallOk Mt (tabC T n)):Holds1 Mt K_gK (n + 1):=by
 rintro ro H args x0 r ⟨b0,rfl,f0⟩ hm hro;exact (w_kB hok (n:=n) z_i8 z_fp hro f0 hm).e (pb rfl)
theorem z_iP {n:Nat} (hok:CallOk Mt (tabC T n)):Holds1 Mt K_gw (n + 1):=by
 rintro ro H args x0 r rfl hm hro;exact (w_ks hok (n:=n) z_hR hro  hm).e (pb rfl)
theorem z_hA {n:Nat} (hok:CallOk Mt (tabC T n)):Holds1 Mt K_eV (n + 1):=by
 rintro ro H args ⟨x0,x1⟩ r rfl hm hro;exact (w_iV hok (n:=n) hro  hm).e (pb rfl)
theorem z_iL {n:Nat} (hok:CallOk Mt (tabC T n)):Holds1 Mt K_gj (n + 1):=by
 rintro ro H args x0 r ⟨b0,rfl,f0⟩ hm hro;exact (w_km hok (n:=n) z_ju z_kd z_iU hro f0 hm).e (pb rfl)
theorem z_hm {n:Nat} (hok:CallOk Mt (tabC T n)):Holds1 Mt K_ez (n + 1):=by
 rintro ro H args x0 r rfl hm hro;exact (w_ig hok (n:=n) z_hc hro  hm).e (pb rfl)
theorem z_i1 {n:Nat} (hok:CallOk Mt (tabC T n)):Holds1 Mt K_gC (n + 1):=by
 rintro ro H args x0 r rfl hm hro;exact (w_kq hok (n:=n) hro  hm).e (pb rfl)
theorem z_ie {n:Nat} (hok:CallOk Mt (tabC T n)):Holds1 Mt K_fk (n + 1):=by
 rintro ro H args x0 r ⟨b0,rfl,f0⟩ hm hro;exact (w_jk hok (n:=n) z_is z_fN z_fl hro f0 hm).e (pb rfl)
theorem z_iQ {n:Nat} (hok:CallOk Mt (tabC T n)):Holds1 Mt K_gn (n + 1):=by
 rintro ro H args x0 r ⟨b0,rfl,f0,f1⟩ hm hro;exact (w_kh hok (n:=n) z_iT z_fD z_j0 z_jA z_j7 z_ip hro f0 hm f1).e (pb rfl)
theorem z_ij {n:Nat} (hok:CallOk Mt (tabC T n)):Holds1 Mt K_fK (n + 1):=by
 rintro ro H args ⟨x0,x1⟩ r ⟨b0,rfl,f0⟩ hm hro;exact (w_jW hok (n:=n) z_fp z_hR z_jB z_jE z_iI z_jU hro f0 hm).e (pb rfl)
theorem z_jj {n:Nat} (hok:CallOk Mt (tabC T n)):Holds1 Mt K_gT (n + 1):=by
 rintro ro H args x0 r rfl hm hro;exact (w_kD hok (n:=n) hro  hm).e (pb rfl)
theorem z_iZ {n:Nat} (hok:CallOk Mt (tabC T n)):Holds1 Mt K_go (n + 1):=by
 rintro ro H args x0 r ⟨b0,rfl,f0⟩ hm hro;exact (w_ko hok (n:=n) z_hP z_hZ hro f0 hm).e (pb rfl)
theorem z_ix {n:Nat} (hok:CallOk Mt (tabC T n)):Holds1 Mt K_fP (n + 1):=by
 rintro ro H args x0 r ⟨b0,rfl,f0⟩ hm hro;exact (w_j6 hok (n:=n) z_hP hro f0 hm).e (pb rfl)
theorem z_ih {n:Nat} (hok:CallOk Mt (tabC T n)):Holds1 Mt K_fZ (n + 1):=by
 rintro ro H args x0 r ⟨b0,rfl,f0⟩ hm hro;exact (w_jw hok (n:=n) z_hh z_jf z_gI hro f0 hm).e (pb rfl)
theorem z_je {n:Nat} (hok:CallOk Mt (tabC T n)):Holds1 Mt K_gQ (n + 1):=by
 rintro ro H args x0 r ⟨b0,rfl,f0⟩ hm hro;exact (w_kA hok (n:=n) z_kc z_jM hro f0 hm).e (pb rfl)
theorem z_jr {n:Nat} (hok:CallOk Mt (tabC T n)):Holds1 Mt K_gN (n + 1):=by
 rintro ro H args x0 r rfl hm hro;exact (w_kC hok (n:=n) hro  hm).e (pb rfl)
theorem z_h2 {n:Nat} (hok:CallOk Mt (tabC T n)):Holds1 Mt K_ft (n + 1):=by
 rintro ro H args x0 r ⟨b0,rfl,f0⟩ hm hro;exact (w_jc hok (n:=n) z_hh z_ff z_fY hro f0 hm).e (pb rfl)
theorem z_gG {n:Nat} (hok:CallOk Mt (tabC T n)):Holds1 Mt K_dB (n + 1):=by
 rintro ro H args x0 r rfl hm hro;exact (w_hs hok (n:=n) hro  hm).e (pb rfl)
theorem z_hu {n:Nat} (hok:CallOk Mt (tabC T n)):Holds1 Mt K_eT (n + 1):=by
 rintro ro H args x0 r ⟨b0,rfl,f0⟩ hm hro;exact (w_iS hok (n:=n) z_jm hro f0 hm).e (pb rfl)
theorem z_hr {n:Nat} (hok:CallOk Mt (tabC T n)):Holds1 Mt K_eA (n + 1):=by
 rintro ro H args ⟨x0,x1⟩ r ⟨b0,rfl,f0⟩ hm hro;exact (w_im hok (n:=n) z_fN z_fn hro f0 hm).e (pb rfl)
theorem z_iC {n:Nat} (hok:CallOk Mt (tabC T n)):Holds1 Mt K_fR (n + 1):=by
 rintro ro H args ⟨x0,x1⟩ r ⟨b0,rfl,f0⟩ hm hro;exact (w_jK hok (n:=n) z_fl z_js z_iY hro f0 hm).e (pb rfl)
theorem z_iA {n:Nat} (hok:CallOk Mt (tabC T n)):Holds1 Mt K_fU (n + 1):=by
 rintro ro H args x0 r rfl hm hro;exact (w_jI hok (n:=n) hro  hm).e (pb rfl)
theorem z_id {n:Nat} (hok:CallOk Mt (tabC T n)):Holds1 Mt K_fr (n + 1):=by
 rintro ro H args x0 r ⟨rfl,f0⟩ hm hro;exact (w_jh hok (n:=n) z_h1 z_h8 hro  hm f0).e (pb rfl)
theorem z_hf {n:Nat} (hok:CallOk Mt (tabC T n)):Holds1 Mt K_en (n + 1):=by
 rintro ro H args ⟨⟩ r rfl hm hro;exact (w_iD hok (n:=n) hro  hm).e (pb rfl)
theorem z_i0 {n:Nat} (hok:CallOk Mt (tabC T n)):Holds1 Mt K_gi (n + 1):=by
 rintro ro H args ⟨⟩ r rfl hm hro;exact (w_kl hok (n:=n) z_h3 hro  hm).e (pb rfl)
theorem z_iX {n:Nat} (hok:CallOk Mt (tabC T n)):Holds1 Mt K_gA (n + 1):=by
 rintro ro H args ⟨x0,x1⟩ r rfl hm hro;exact (w_kb hok (n:=n) z_f7 z_ht hro  hm).e (pb rfl)
theorem z_i2 {n:Nat} (hok:CallOk Mt (tabC T n)):Holds1 Mt K_gg (n + 1):=by
 rintro ro H args ⟨x0,x1⟩ r rfl hm hro;exact (w_j9 hok (n:=n) z_f7 hro  hm).e (pb rfl)
theorem z_hx {n:Nat} (hok:CallOk Mt (tabC T n)):Holds1 Mt K_eS (n + 1):=by
 rintro ro H args ⟨x0,x1⟩ r rfl hm hro;exact (w_i6 hok (n:=n) z_fD hro  hm).e (pb rfl)
theorem z_i9 {n:Nat} (hok:CallOk Mt (tabC T n)):Holds1 Mt K_gv (n + 1):=by
 rintro ro H args x0 r rfl hm hro;exact (w_ka hok (n:=n) hro  hm).e (pb rfl)
theorem z_iJ {n:Nat} (hok:CallOk Mt (tabC T n)):Holds1 Mt K_gd (n + 1):=by
 rintro ro H args x0 r rfl hm hro;exact (w_kj hok (n:=n) hro  hm).e (pb rfl)
theorem z_hW {n:Nat} (hok:CallOk Mt (tabC T n)):Holds1 Mt K_fm (n + 1):=by
 rintro ro H args ⟨x0,x1⟩ r rfl hm hro;exact (w_jg hok (n:=n) hro  hm).e (pb rfl)
theorem z_iH {n:Nat} (hok:CallOk Mt (tabC T n)):Holds1 Mt K_gm (n + 1):=by
 rintro ro H args ⟨x0,x1⟩ r ⟨b0,rfl,f0⟩ hm hro;exact (w_kw hok (n:=n) z_fp z_fl z_ke z_jG hro f0 hm).e (pb rfl)
theorem z_hk {n:Nat} (hok:CallOk Mt (tabC T n)):Holds1 Mt K_eK (n + 1):=by
 rintro ro H args x0 r rfl hm hro;exact (w_ik hok (n:=n) z_h4 z_it hro  hm).e (pb rfl)
theorem z_f4 {n:Nat} (hok:CallOk Mt (tabC T n)):Holds1 Mt K_c3 (n + 1):=by
 rintro ro H args x0 r ⟨b0,rfl,f0⟩ hm hro;exact (w_gW hok (n:=n) hro f0 hm).e (pb rfl)
theorem z_jd {n:Nat} (hok:CallOk Mt (tabC T n)):Holds1 Mt K_gS (n + 1):=by
 rintro ro H args ⟨x0,x1⟩ r rfl hm hro;exact (w_kx hok (n:=n) hro  hm).e (pb rfl)
theorem z_iK {n:Nat} (hok:CallOk Mt (tabC T n)):Holds1 Mt K_gq (n + 1):=by
 rintro ro H args ⟨x0,x1⟩ r rfl hm hro;exact (w_ku hok (n:=n) hro  hm).e (pb rfl)
theorem z_g9 {n:Nat} (hok:CallOk Mt (tabC T n)):Holds1 Mt K_eg (n + 1):=by
 rintro ro H args ⟨x0,x1⟩ r ⟨b1,s1,rfl,f0,f1⟩ hm hro;exact (w_ia hok (n:=n) hro f0 f1 hm).e (pb rfl)
theorem z_hb {n:Nat} (hok:CallOk Mt (tabC T n)):Holds1 Mt K_eh (n + 1):=by
 rintro ro H args ⟨x0,x1,x2,x3⟩ r ⟨d2,b2,s2,b3,s3,rfl,f0,f1,f2,f3,f4⟩ hm hro;exact (w_h7 hok (n:=n) z_hD hro f0 f1 f2 f3 f4 hm).e (pb rfl)
theorem z_ha {n:Nat} (hok:CallOk Mt (tabC T n)):Holds1 Mt K_ei (n + 1):=by
 rintro ro H args ⟨x0,x1⟩ r ⟨b1,s1,rfl,f0,f1⟩ hm hro;exact (w_h0 hok (n:=n) hro f0 f1 hm).e (pb rfl)
theorem z_fg {n:Nat} (hok:CallOk Mt (tabC T n)):Holds1 Mt K_cy (n + 1):=by
 rintro ro H args ⟨x0,x1⟩ r ⟨b0,b1,s1,rfl,f0,f1,f2⟩ hm hro;exact (w_f3 hok (n:=n) z_fO hro f0 f1 f2 hm).e (pb rfl)
theorem z_hp {n:Nat} (hok:CallOk Mt (tabC T n)):Holds1 Mt K_eL (n + 1):=by
 rintro ro H args x0 r rfl hm hro;exact (w_iz hok (n:=n) hro  hm).e (pb rfl)
theorem z_io {n:Nat} (hok:CallOk Mt (tabC T n)):Holds1 Mt K_fQ (n + 1):=by
 rintro ro H args x0 r ⟨b0,rfl,f0⟩ hm hro;exact (w_jP hok (n:=n) z_g2 z_g1 hro f0 hm).e (pb rfl)
theorem z_if {n:Nat} (hok:CallOk Mt (tabC T n)):Holds1 Mt K_fE (n + 1):=by
 rintro ro H args ⟨x0,x1⟩ r rfl hm hro;exact (w_jY hok (n:=n) hro  hm).e (pb rfl)
theorem z_ib {n:Nat} (hok:CallOk Mt (tabC T n)):Holds1 Mt K_fh (n + 1):=by
 rintro ro H args ⟨x0,x1⟩ r rfl hm hro;exact (w_jp hok (n:=n) hro  hm).e (pb rfl)
theorem z_hq {n:Nat} (hok:CallOk Mt (tabC T n)):Holds1 Mt K_eD (n + 1):=by
 rintro ro H args x0 r ⟨rfl,f0⟩ hm hro;exact (w_iB hok (n:=n) z_f5 hro  hm f0).e (pb rfl)
theorem z_gV {n:Nat} (hok:CallOk Mt (tabC T n)):Holds1 Mt K_dV (n + 1):=by
 rintro ro H args x0 r rfl hm hro;exact (w_hy hok (n:=n) hro  hm).e (pb rfl)
theorem z_ji {n:Nat} (hok:CallOk Mt (tabC T n)):Holds1 Mt K_gO (n + 1):=by
 rintro ro H args ⟨x0,x1⟩ r rfl hm hro;exact (w_ky hok (n:=n) hro  hm).e (pb rfl)
theorem z_i7 {n:Nat} (hok:CallOk Mt (tabC T n)):Holds1 Mt K_gf (n + 1):=by
 rintro ro H args ⟨x0,x1⟩ r rfl hm hro;exact (w_kt hok (n:=n) hro  hm).e (pb rfl)
theorem z_hl {n:Nat} (hok:CallOk Mt (tabC T n)):Holds1 Mt K_ek (n + 1):=by
 rintro ro H args x0 r rfl hm hro;exact (w_ir hok (n:=n) hro  hm).e (pb rfl)
theorem z_fs {n:Nat} (hok:CallOk Mt (tabC T n)):Holds1 Mt K_cA (n + 1):=by
 rintro ro H args ⟨x0,x1⟩ r ⟨b0,b1,s1,rfl,f0,f1,f2⟩ hm hro;exact (w_f6 hok (n:=n) z_hC hro f0 f1 f2 hm).e (pb rfl)
theorem z_in {n:Nat} (hok:CallOk Mt (tabC T n)):Holds1 Mt K_fS (n + 1):=by
 rintro ro H args ⟨x0,x1⟩ r ⟨b0,rfl,f0⟩ hm hro;exact (w_jF hok (n:=n) z_fn z_g2 z_jl hro f0 hm).e (pb rfl)
theorem z_iv {n:Nat} (hok:CallOk Mt (tabC T n)):Holds1 Mt K_fW (n + 1):=by
 rintro ro H args ⟨x0,x1⟩ r ⟨b0,rfl,f0⟩ hm hro;exact (w_j4 hok (n:=n) z_fn z_g1 hro f0 hm).e (pb rfl)
theorem z_fz {n:Nat} (hok:CallOk Mt (tabC T n)):Holds1 Mt K_cS (n + 1):=by
 rintro ro H args x0 r ⟨rfl,f0⟩ hm hro;exact (w_gr hok (n:=n) hro  hm f0).e (pb rfl)
theorem z_ii {n:Nat} (hok:CallOk Mt (tabC T n)):Holds1 Mt K_fG (n + 1):=by
 rintro ro H args x0 r rfl hm hro;exact (w_jD hok (n:=n) hro  hm).e (pb rfl)
theorem z_h5 {n:Nat} (hok:CallOk Mt (tabC T n)):Holds1 Mt K_fi (n + 1):=by
 rintro ro H args ⟨⟩ r ⟨rfl,f0⟩ hm hro;obtain rfl:=Option.some.inj hm;exact closed29 ro H f0 hro
theorem z_hw {n:Nat} (hok:CallOk Mt (tabC T n)):Holds1 Mt K_eQ (n + 1):=by
 rintro ro H args x0 r rfl hm hro;obtain rfl:=Option.some.inj hm;exact hand125 ro H x0 hro
theorem allOk:∀ n,CallOk Mt (tabC T n):=by
 refine all_ok (fun f k h=>?_) (fun f k h=>?_) fun n hok f k h=>?_
 ·unfold T at h; split at h <;> first | (injection h with h; subst h; rfl) | cases h
 ·unfold T at h; split at h <;> first | (injection h with h; subst h; intro x; rfl) | cases h
 ·unfold T at h; split at h
  ·injection h with h; subst h; exact z_gM hok
  ·injection h with h; subst h; exact z_iW hok
  ·injection h with h; subst h; exact z_i5 hok
  ·injection h with h; subst h; exact z_jq hok
  ·injection h with h; subst h; exact z_jt hok
  ·injection h with h; subst h; exact z_iP hok
  ·injection h with h; subst h; exact z_hA hok
  ·injection h with h; subst h; exact z_iL hok
  ·injection h with h; subst h; exact z_hm hok
  ·injection h with h; subst h; exact z_i1 hok
  ·injection h with h; subst h; exact z_ie hok
  ·injection h with h; subst h; exact z_iQ hok
  ·injection h with h; subst h; exact z_ij hok
  ·injection h with h; subst h; exact z_jj hok
  ·injection h with h; subst h; exact z_iZ hok
  ·injection h with h; subst h; exact z_ix hok
  ·injection h with h; subst h; exact z_ih hok
  ·injection h with h; subst h; exact z_je hok
  ·injection h with h; subst h; exact z_jr hok
  ·injection h with h; subst h; exact z_h2 hok
  ·injection h with h; subst h; exact z_gG hok
  ·injection h with h; subst h; exact z_hu hok
  ·injection h with h; subst h; exact z_hr hok
  ·injection h with h; subst h; exact z_iC hok
  ·injection h with h; subst h; exact z_iA hok
  ·injection h with h; subst h; exact z_id hok
  ·injection h with h; subst h; exact z_hf hok
  ·injection h with h; subst h; exact z_i0 hok
  ·injection h with h; subst h; exact z_iX hok
  ·injection h with h; subst h; exact z_i2 hok
  ·injection h with h; subst h; exact z_hx hok
  ·injection h with h; subst h; exact z_i9 hok
  ·injection h with h; subst h; exact z_iJ hok
  ·injection h with h; subst h; exact z_hW hok
  ·injection h with h; subst h; exact z_iH hok
  ·injection h with h; subst h; exact z_hk hok
  ·injection h with h; subst h; exact z_f4 hok
  ·injection h with h; subst h; exact z_jd hok
  ·injection h with h; subst h; exact z_iK hok
  ·injection h with h; subst h; exact z_g9 hok
  ·injection h with h; subst h; exact z_hb hok
  ·injection h with h; subst h; exact z_ha hok
  ·injection h with h; subst h; exact z_fg hok
  ·injection h with h; subst h; exact z_hp hok
  ·injection h with h; subst h; exact z_io hok
  ·injection h with h; subst h; exact z_if hok
  ·injection h with h; subst h; exact z_ib hok
  ·injection h with h; subst h; exact z_hq hok
  ·injection h with h; subst h; exact z_gV hok
  ·injection h with h; subst h; exact z_ji hok
  ·injection h with h; subst h; exact z_i7 hok
  ·injection h with h; subst h; exact z_hl hok
  ·injection h with h; subst h; exact z_fs hok
  ·injection h with h; subst h; exact z_in hok
  ·injection h with h; subst h; exact z_iv hok
  ·injection h with h; subst h; exact z_fz hok
  ·injection h with h; subst h; exact z_ii hok
  ·injection h with h; subst h; exact z_h5 hok
  ·injection h with h; subst h; exact z_hw hok
  ·injection h with h; subst h; exact z_eR hok
  cases h
end Go.Proofs.YtaadjlpfdajggaaGreatDoor
