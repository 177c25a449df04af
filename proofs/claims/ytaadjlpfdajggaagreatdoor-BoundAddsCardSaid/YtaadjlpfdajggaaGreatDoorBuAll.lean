import Derived.Test.YtaadjlpfdajggaaGreatDoorBuTab
import Derived.Test.YtaadjlpfdajggaaGreatDoorBuShelf
import Derived.Test.YtaadjlpfdajggaaGreatDoorBuHand9
import Derived.Test.YtaadjlpfdajggaaGreatDoorBuFixed14
set_option maxRecDepth 100000
set_option linter.unusedVariables false
set_option linter.unusedSimpArgs false
namespace Go.Proofs.YtaadjlpfdajggaaGreatDoor
open Go Go.AM
theorem fm_int {k:IntKind} {l:List Int}:l.flatMap (cInt k) = l.map (Value.int k):=by
 induction l with
 | nil=>rfl
 | cons x l ih=>simp [cInt,ih]
theorem z_cm {n:Nat} (hok:CallOk Mt (tabC T n)):Holds1 Mt K_N (n + 1):=by
 rintro ro H args ⟨x0,x1⟩ r ⟨b0,d1,b1,s1,rfl,h0,f1,f2,f3,n1,n2,n3⟩ hm hro
 cases x0 with
 | none =>
  obtain rfl:=m103_none (n:=n + 1) (x1:=x1) (r:=r) hm
  exact sort_nil (M:=Mt) srtLays (pb rfl) rfl
 | some l =>
  obtain ⟨k,hk,q1,q2,q3,q4,rfl⟩:=m103_some (n:=n + 1) (l:=l) (x1:=x1) (r:=r) hm
  obtain rfl:k = n:=by omega
  obtain ⟨g1,g2⟩:=h0 l rfl
  have e1:b0 ≠ d1:=n1 (by simp)
  have e2:b0 ≠ b1:=n2 (by simp)
  have hcmp:CmpIs (tabC T k) 104 [.pointer (some ⟨d1,0,none⟩),.pointer (some ⟨b1,0,none⟩)] (H.set b0 .dead) l fun x y=>(m_l k x y x1 x1).getD 0:=fun x hx y hy=>by
   obtain ⟨v,hv⟩:=Option.ne_none_iff_exists'.1 (q3 x hx y hy)
   have k1:=(List.getElem?_set_ne (l:=H) (a:=Blk.dead) e1).trans f1
   have k2:=(List.getElem?_set_ne (l:=H) (a:=Blk.dead) e2).trans f2
   have k3:SlH (H.set b0 .dead) (cInt .i64) 3 x1 s1:=fun l' hl'=>by
    obtain ⟨more,hr⟩:=f3 l' hl'
    exact ⟨more,hr.to (List.getElem?_set_ne (n3 (by simp) (by simp [hl'])))⟩
   refine ⟨H.set b0 .dead,?_⟩
   show tabC T k _ _ _ _ = some (.int .i64 ((m_l k x y x1 x1).getD 0),_,[])
   rw [hv,Option.getD_some]
   exact z_dQ (H.set b0 .dead).length (H.set b0 .dead) x y x1 d1 b1 s1 x1 b1 s1 v k1 k2 k3 k2 k3 hv
  have h:=sort_sound (M:=Mt) (ro:=ro) (q:=0) (off:=0) hok srtLays (pb rfl) (pb rfl) rfl (Go.Proofs.enters_of Tryz.func104 (by kernel_rfl) rfl) g2 (by rw [fm_int,List.drop_zero,List.take_of_length_le (by simp)]) (by rw [fm_int]; simp) q1 q2 g1 hcmp q4
  have e:wrs (l.flatMap (cInt .i64)) 0 ((srt (fun x y=>(m_l k x y x1 x1).getD 0) l).map (Value.int .i64)) = (srt (fun x y=>(m_l k x y x1 x1).getD 0) l).flatMap (cInt .i64):=by
   rw [fm_int,fm_int,wrs_all (by simp [srt_len])]
  rw [e] at h
  exact h
theorem z_dw {n:Nat} (hok:CallOk Mt (tabC T n)):Holds1 Mt K_b0 (n + 1):=by
 rintro ro H args ⟨x0,x1,x2⟩ r ⟨b0,b1,rfl,f0,f1,f2⟩ hm hro
 exact (w_dR hok (n:=n) z_eZ z_eE z_eA z_e6 z_e4 z_eO z_e7 hro f0 f1 hm f2).e (pb rfl)
theorem z_eq {n:Nat} (hok:CallOk Mt (tabC T n)):Holds1 Mt K_de (n + 1):=by
 rintro ro H args ⟨x0,x1⟩ r ⟨b0,rfl,f0⟩ hm hro
 have h:=(w_e2 hok (n:=n) hro f0 hm).e (pb rfl)
 cases x0 with
 | none =>
  obtain rfl:r = none:=Classical.byContradiction fun hr=>(alias18 (n:=n + 1) hm).1 hr rfl
  exact h
 | some l=>exact h
theorem z_ek {n:Nat} (hok:CallOk Mt (tabC T n)):Holds1 Mt K_cU (n + 1):=by
 rintro ro H args ⟨x0,x1⟩ r ⟨b0,rfl,f0⟩ hm hro
 exact (w_eP hok (n:=n) z_eU z_dK z_eQ hro f0 hm).e (pb rfl)
theorem z_eI {n:Nat} (hok:CallOk Mt (tabC T n)):Holds1 Mt K_dx (n + 1):=by
 rintro ro H args x0 r ⟨b0,rfl,f0⟩ hm hro
 exact (w_fg hok (n:=n) z_cN z_dy hro f0 hm).e (pb rfl)
theorem z_eG {n:Nat} (hok:CallOk Mt (tabC T n)):Holds1 Mt K_ds (n + 1):=by
 rintro ro H args ⟨x0,x1⟩ r ⟨b0,rfl,f0⟩ hm hro
 exact (w_ff hok (n:=n) hro f0 hm).e (pb rfl)
theorem z_eg {n:Nat} (hok:CallOk Mt (tabC T n)):Holds1 Mt K_c1 (n + 1):=by
 rintro ro H args x0 r ⟨b0,rfl,f0⟩ hm hro
 exact (w_eV hok (n:=n) hro f0 hm).e (pb rfl)
theorem z_eN {n:Nat} (hok:CallOk Mt (tabC T n)):Holds1 Mt K_dq (n + 1):=by
 rintro ro H args ⟨x0,x1,x2⟩ r ⟨b0,b1,rfl,f0,f1⟩ hm hro
 exact (w_fh hok (n:=n) z_di hro f0 f1 hm).e (pb rfl)
theorem z_ev {n:Nat} (hok:CallOk Mt (tabC T n)):Holds1 Mt K_db (n + 1):=by
 rintro ro H args x0 r ⟨b0,rfl,f0⟩ hm hro
 exact (w_e1 hok (n:=n) z_eH z_e3 z_eu hro f0 hm).e (pb rfl)
theorem z_ez {n:Nat} (hok:CallOk Mt (tabC T n)):Holds1 Mt K_dc (n + 1):=by
 rintro ro H args x0 r rfl hm hro
 exact (w_fb hok (n:=n) hro  hm).e (pb rfl)
theorem z_et {n:Nat} (hok:CallOk Mt (tabC T n)):Holds1 Mt K_c7 (n + 1):=by
 rintro ro H args ⟨x0,x1⟩ r ⟨b0,rfl,f0⟩ hm hro
 exact (w_fa hok (n:=n) z_dK z_ex hro f0 hm).e (pb rfl)
theorem z_ew {n:Nat} (hok:CallOk Mt (tabC T n)):Holds1 Mt K_dg (n + 1):=by
 rintro ro H args x0 r ⟨b0,rfl,f0⟩ hm hro
 exact (w_e5 hok (n:=n) z_di z_d7 hro f0 hm).e (pb rfl)
theorem z_ee {n:Nat} (hok:CallOk Mt (tabC T n)):Holds1 Mt K_cX (n + 1):=by
 rintro ro H args x0 r ⟨b0,rfl,f0⟩ hm hro
 exact (w_eS hok (n:=n) z_di hro f0 hm).e (pb rfl)
theorem z_eo {n:Nat} (hok:CallOk Mt (tabC T n)):Holds1 Mt K_cV (n + 1):=by
 rintro ro H args x0 r ⟨b0,rfl,f0⟩ hm hro
 exact (w_eT hok (n:=n) z_cN z_dy z_dm hro f0 hm).e (pb rfl)
theorem z_eD {n:Nat} (hok:CallOk Mt (tabC T n)):Holds1 Mt K_dt (n + 1):=by
 rintro ro H args x0 r ⟨b0,rfl,f0⟩ hm hro
 exact (w_fj hok (n:=n) z_e0 z_eR hro f0 hm).e (pb rfl)
theorem z_eF {n:Nat} (hok:CallOk Mt (tabC T n)):Holds1 Mt K_dv (n + 1):=by
 rintro ro H args x0 r rfl hm hro
 exact (w_fi hok (n:=n) hro  hm).e (pb rfl)
theorem z_d9 {n:Nat} (hok:CallOk Mt (tabC T n)):Holds1 Mt K_cy (n + 1):=by
 rintro ro H args x0 r ⟨b0,rfl,f0⟩ hm hro
 exact (w_eM hok (n:=n) z_cN z_cz z_cT hro f0 hm).e (pb rfl)
theorem z_d8 {n:Nat} (hok:CallOk Mt (tabC T n)):Holds1 Mt K_cB (n + 1):=by
 rintro ro H args ⟨x0,x1⟩ r rfl hm hro
 exact (w_eK hok (n:=n) hro  hm).e (pb rfl)
theorem z_dJ {n:Nat} (hok:CallOk Mt (tabC T n)):Holds1 Mt K_ci (n + 1):=by
 rintro ro H args x0 r rfl hm hro
 exact (w_ej hok (n:=n) z_d2 z_ei hro  hm).e (pb rfl)
theorem z_c2 {n:Nat} (hok:CallOk Mt (tabC T n)):Holds1 Mt K_bx (n + 1):=by
 rintro ro H args x0 r ⟨b0,rfl,f0⟩ hm hro
 exact (w_do hok (n:=n) hro f0 hm).e (pb rfl)
theorem z_eJ {n:Nat} (hok:CallOk Mt (tabC T n)):Holds1 Mt K_du (n + 1):=by
 rintro ro H args ⟨x0,x1⟩ r rfl hm hro
 exact (w_fe hok (n:=n) hro  hm).e (pb rfl)
theorem z_ey {n:Nat} (hok:CallOk Mt (tabC T n)):Holds1 Mt K_c9 (n + 1):=by
 rintro ro H args ⟨x0,x1⟩ r rfl hm hro
 exact (w_fc hok (n:=n) hro  hm).e (pb rfl)
theorem z_dF {n:Nat} (hok:CallOk Mt (tabC T n)):Holds1 Mt K_ca (n + 1):=by
 rintro ro H args ⟨x0,x1⟩ r ⟨b1,s1,rfl,f0,f1⟩ hm hro
 exact (w_eb hok (n:=n) hro f0 f1 hm).e (pb rfl)
theorem z_dD {n:Nat} (hok:CallOk Mt (tabC T n)):Holds1 Mt K_b7 (n + 1):=by
 rintro ro H args ⟨x0,x1,x2,x3⟩ r ⟨d2,b2,s2,b3,s3,rfl,f0,f1,f2,f3,f4⟩ hm hro
 exact (w_ec hok (n:=n) z_dO hro f0 f1 f2 f3 f4 hm).e (pb rfl)
theorem z_dE {n:Nat} (hok:CallOk Mt (tabC T n)):Holds1 Mt K_b9 (n + 1):=by
 rintro ro H args ⟨x0,x1⟩ r ⟨b1,s1,rfl,f0,f1⟩ hm hro
 exact (w_d3 hok (n:=n) hro f0 f1 hm).e (pb rfl)
theorem z_cE {n:Nat} (hok:CallOk Mt (tabC T n)):Holds1 Mt K_bd (n + 1):=by
 rintro ro H args ⟨x0,x1⟩ r ⟨b0,b1,s1,rfl,f0,f1,f2⟩ hm hro
 exact (w_c4 hok (n:=n) z_cY hro f0 f1 f2 hm).e (pb rfl)
theorem z_dI {n:Nat} (hok:CallOk Mt (tabC T n)):Holds1 Mt K_cd (n + 1):=by
 rintro ro H args x0 r rfl hm hro
 exact (w_em hok (n:=n) hro  hm).e (pb rfl)
theorem z_cD {n:Nat} (hok:CallOk Mt (tabC T n)):Holds1 Mt K_bf (n + 1):=by
 rintro ro H args ⟨x0,x1⟩ r ⟨b0,b1,s1,rfl,f0,f1,f2⟩ hm hro
 exact (w_c3 hok (n:=n) z_dS hro f0 f1 f2 hm).e (pb rfl)
theorem z_ea {n:Nat} (hok:CallOk Mt (tabC T n)):Holds1 Mt K_cw (n + 1):=by
 rintro ro H args ⟨⟩ r ⟨rfl,f0⟩ hm hro
 obtain rfl:=Option.some.inj hm
 exact closed25 ro H f0 hro
theorem z_dT {n:Nat} (hok:CallOk Mt (tabC T n)):Holds1 Mt K_cn (n + 1):=by
 rintro ro H args x0 r rfl hm hro
 obtain rfl:=Option.some.inj hm
 exact hand125 ro H x0 hro
theorem allOk:∀ n,CallOk Mt (tabC T n):=by
 refine all_ok (fun f k h=>?_) (fun f k h=>?_) fun n hok f k h=>?_
 ·unfold T at h; split at h <;> first | (injection h with h; subst h; rfl) | cases h
 ·unfold T at h; split at h <;> first | (injection h with h; subst h; intro x; rfl) | cases h
 ·unfold T at h; split at h
  ·injection h with h; subst h; exact z_dw hok
  ·injection h with h; subst h; exact z_eq hok
  ·injection h with h; subst h; exact z_ek hok
  ·injection h with h; subst h; exact z_eI hok
  ·injection h with h; subst h; exact z_eG hok
  ·injection h with h; subst h; exact z_eg hok
  ·injection h with h; subst h; exact z_eN hok
  ·injection h with h; subst h; exact z_ev hok
  ·injection h with h; subst h; exact z_ez hok
  ·injection h with h; subst h; exact z_et hok
  ·injection h with h; subst h; exact z_ew hok
  ·injection h with h; subst h; exact z_ee hok
  ·injection h with h; subst h; exact z_eo hok
  ·injection h with h; subst h; exact z_eD hok
  ·injection h with h; subst h; exact z_eF hok
  ·injection h with h; subst h; exact z_d9 hok
  ·injection h with h; subst h; exact z_d8 hok
  ·injection h with h; subst h; exact z_dJ hok
  ·injection h with h; subst h; exact z_c2 hok
  ·injection h with h; subst h; exact z_eJ hok
  ·injection h with h; subst h; exact z_ey hok
  ·injection h with h; subst h; exact z_dF hok
  ·injection h with h; subst h; exact z_dD hok
  ·injection h with h; subst h; exact z_dE hok
  ·injection h with h; subst h; exact z_cE hok
  ·injection h with h; subst h; exact z_dI hok
  ·injection h with h; subst h; exact z_cD hok
  ·injection h with h; subst h; exact z_ea hok
  ·injection h with h; subst h; exact z_dT hok
  ·injection h with h; subst h; exact z_cm hok
  cases h
end Go.Proofs.YtaadjlpfdajggaaGreatDoor
