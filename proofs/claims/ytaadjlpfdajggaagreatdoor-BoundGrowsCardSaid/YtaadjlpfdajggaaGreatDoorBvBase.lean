import Derived.Test.YtaadjlpfdajggaaGreatDoorBvTy
import Derived.Test.YtaadjlpfdajggaaGreatDoorBvAm28
set_option maxRecDepth 100000
set_option linter.unusedVariables false
set_option linter.unusedSimpArgs false
namespace Go.Proofs.YtaadjlpfdajggaaGreatDoor
open Go Go.AM
section
variable {call:CallF} {c:Ctx} {a b:AC} {K:Exit → St → Prop} {s:St} {q:Bool} {l:List AOp} {H:Hp} {e t u off:Nat} {cs x:List Value} {v:Value} {P:Program} {nb:Nat}
theorem tS (hok:CallOk Mt call) (h:∀ J:St → Prop,(∀ s,Tk Mt c b K s → J s) → Rn Mt call c.nb c.ro q l s J):Tk Mt c (.seq (.ops q l) b) K s:=tk_os okM hok h
theorem tE (hok:CallOk Mt call) (h:∀ J:St → Prop,(∀ s,K .normal s → J s) → Rn Mt call c.nb c.ro q l s J):Tk Mt c (.ops q l) K s:=tk_oe okM hok h
theorem tK (h:K .normal s):Tk Mt c .skip K s:=tk_skip okM h
theorem tR (h:K .ret s):Tk Mt c .ret K s:=tk_ret okM h
theorem tX {id:Nat} (h:K (.exit id) s):Tk Mt c (.exit id) K s:=tk_exit okM h
theorem la (hb:H[u]? = some (.cells cs e)) (ha:aggO Mt.P t = some true) (hz:szO Mt.P t = some x.length) (hs:Seg cs off x):ldP Mt H t (.pointer (some ⟨u,off,none⟩)) = some (.val (vAgg x),H):=ld_agg hb ha hz hs
theorem lo (hb:H[u]? = some (.cells cs e)) (ha:aggO Mt.P t = some false) (hs:Seg cs off [v]):ldP Mt H t (.pointer (some ⟨u,off,none⟩)) = some (.val v,H):=ld_one hb ha hs
theorem lsa (hb:Rb H u cs e) (ha:aggO Mt.P t = some true) (hz:szO Mt.P t = some x.length) (hs:Seg cs off x):ldP Mt H t (.pointer (some ⟨u,off,none⟩)) = some (.val (vAgg x),H):=lds_agg hb ha hz hs
theorem lso (hb:Rb H u cs e) (ha:aggO Mt.P t = some false) (hs:Seg cs off [v]):ldP Mt H t (.pointer (some ⟨u,off,none⟩)) = some (.val v,H):=lds_one hb ha hs
theorem tC {y:Operand} {t:Bool} {α:Type} {A B:Option α} {r:α} (hx:ev s.env y = some (.bool t)) (hm:(bif t then A else B) = some r) (h1:t = true → A = some r → Tk Mt c a K s) (h2:t = false → B = some r → Tk Mt c b K s):Tk Mt c (.cond y a b) K s :=
 tk_cond hx (fun h=>h1 h (cond_t hm h)) (fun h=>h2 h (cond_f hm h))
theorem aI1 {x0:Value}:args0 [x0] = [(0,x0)]:=rfl
theorem aI2 {x0 x1:Value}:args0 [x0,x1] = [(0,x0),(1,x1)]:=rfl
theorem aI3 {x0 x1 x2:Value}:args0 [x0,x1,x2] = [(0,x0),(1,x1),(2,x2)]:=rfl
theorem aI4 {x0 x1 x2 x3:Value}:args0 [x0,x1,x2,x3] = [(0,x0),(1,x1),(2,x2),(3,x3)]:=rfl
theorem ef1 (hl:AM.look s.env t = some v) (hf:flat v = true):kfun P nb [.tmp t] v [] .ret s:=end_flat (vs:=[v]) (.inl rfl) (resT' hl resN) (fm_cons hf fm_nil)
end
theorem F10d:Mt.F 10 = some C.f10:=rfl
theorem F18d:Mt.F 18 = some C.f18:=rfl
theorem F18:(Mt.F 18).isSome = true:=rfl
theorem F20d:Mt.F 20 = some C.f20:=rfl
theorem F20:(Mt.F 20).isSome = true:=rfl
theorem F22d:Mt.F 22 = some C.f22:=rfl
theorem F22:(Mt.F 22).isSome = true:=rfl
theorem F32d:Mt.F 32 = some C.f32:=rfl
theorem F32:(Mt.F 32).isSome = true:=rfl
theorem F33d:Mt.F 33 = some C.f33:=rfl
theorem F33:(Mt.F 33).isSome = true:=rfl
theorem F36d:Mt.F 36 = some C.f36:=rfl
theorem F36:(Mt.F 36).isSome = true:=rfl
theorem F37d:Mt.F 37 = some C.f37:=rfl
theorem F37:(Mt.F 37).isSome = true:=rfl
theorem F40d:Mt.F 40 = some C.f40:=rfl
theorem F40:(Mt.F 40).isSome = true:=rfl
theorem F51d:Mt.F 51 = some C.f51:=rfl
theorem F51:(Mt.F 51).isSome = true:=rfl
theorem F52d:Mt.F 52 = some C.f52:=rfl
theorem F52:(Mt.F 52).isSome = true:=rfl
theorem F55d:Mt.F 55 = some C.f55:=rfl
theorem F55:(Mt.F 55).isSome = true:=rfl
theorem F56d:Mt.F 56 = some C.f56:=rfl
theorem F56:(Mt.F 56).isSome = true:=rfl
theorem F62d:Mt.F 62 = some C.f62:=rfl
theorem F62:(Mt.F 62).isSome = true:=rfl
theorem F63d:Mt.F 63 = some C.f63:=rfl
theorem F63:(Mt.F 63).isSome = true:=rfl
theorem F64d:Mt.F 64 = some C.f64:=rfl
theorem F64:(Mt.F 64).isSome = true:=rfl
theorem F65d:Mt.F 65 = some C.f65:=rfl
theorem F65:(Mt.F 65).isSome = true:=rfl
theorem F66d:Mt.F 66 = some C.f66:=rfl
theorem F66:(Mt.F 66).isSome = true:=rfl
theorem F68d:Mt.F 68 = some C.f68:=rfl
theorem F68:(Mt.F 68).isSome = true:=rfl
theorem F79d:Mt.F 79 = some C.f79:=rfl
theorem F79:(Mt.F 79).isSome = true:=rfl
theorem F84d:Mt.F 84 = some C.f84:=rfl
theorem F84:(Mt.F 84).isSome = true:=rfl
theorem F97d:Mt.F 97 = some C.f97:=rfl
theorem F97:(Mt.F 97).isSome = true:=rfl
theorem F98d:Mt.F 98 = some C.f98:=rfl
theorem F98:(Mt.F 98).isSome = true:=rfl
theorem F99d:Mt.F 99 = some C.f99:=rfl
theorem F99:(Mt.F 99).isSome = true:=rfl
theorem F100d:Mt.F 100 = some C.f100:=rfl
theorem F100:(Mt.F 100).isSome = true:=rfl
theorem F102d:Mt.F 102 = some C.f102:=rfl
theorem F102:(Mt.F 102).isSome = true:=rfl
theorem F104d:Mt.F 104 = some C.f104:=rfl
theorem F105d:Mt.F 105 = some C.f105:=rfl
theorem F105:(Mt.F 105).isSome = true:=rfl
theorem F106d:Mt.F 106 = some C.f106:=rfl
theorem F106:(Mt.F 106).isSome = true:=rfl
theorem F124d:Mt.F 124 = some C.f124:=rfl
theorem F124:(Mt.F 124).isSome = true:=rfl
theorem F138d:Mt.F 138 = some C.f138:=rfl
theorem F138:(Mt.F 138).isSome = true:=rfl
theorem F25:(Mt.F 25).isSome = true:=rfl
theorem F125:(Mt.F 125).isSome = true:=rfl
theorem F103:(Mt.F 103).isSome = true:=rfl
theorem bd72_0 {H:Hp} {y0:Int}:bdP Mt H 72 [(0,.int .i64 y0)] = some (.val (vAgg (S_a.c ({ S_a.zero with f_Kind:=y0 }:S_a))),H):=bd_struct zs72 pl72 ((fill_cons (v:=.int .i64 y0) (c:=(cInt .i64) y0) rfl rfl (enc_int.len _) (by rw [S_a.enc.len]; decide) (S_a.wr0 S_a.zero y0)).trans fill_nil)
theorem bd72_0_1_2 {H:Hp} {y0:Int} {y1:Int} {y2:Int}:bdP Mt H 72 [(0,.int .i64 y0),(1,.int .i64 y1),(2,.int .i64 y2)] = some (.val (vAgg (S_a.c ({ S_a.zero with f_Kind:=y0,f_A:=y1,f_B:=y2 }:S_a))),H):=bd_struct zs72 pl72 ((fill_cons (v:=.int .i64 y0) (c:=(cInt .i64) y0) rfl rfl (enc_int.len _) (by rw [S_a.enc.len]; decide) (S_a.wr0 S_a.zero y0)).trans ((fill_cons (v:=.int .i64 y1) (c:=(cInt .i64) y1) rfl rfl (enc_int.len _) (by rw [S_a.enc.len]; decide) (S_a.wr1 ({ S_a.zero with f_Kind:=y0 }) y1)).trans ((fill_cons (v:=.int .i64 y2) (c:=(cInt .i64) y2) rfl rfl (enc_int.len _) (by rw [S_a.enc.len]; decide) (S_a.wr2 ({ { S_a.zero with f_Kind:=y0 } with f_A:=y1 }) y2)).trans fill_nil)))
def TabH1 (H:Hp):Prop:=H[1]? = some (.tab (tabInts.map (Value.int .u8)))
theorem tabIv1 {r:Nat} {X:List Nat} {H0 H:Hp} (h:Iv r X H0 H) (hr:r = H0.length) (hG:TabH1 H0) (hX:1 ∉ X:=by simp):TabH1 H:=(h.old 1 (by rw [hr]; exact get_lt hG) hX).trans hG
abbrev T_A:=Sl Int → Sl Int → Option (Sl Int)
def A_bS (call:CallF) (c:T_A):Prop:=∀ (ro nb:Nat) (H:Hp) (x0:Sl Int) (b0:Nat) (x1:Sl Int) (d1 b1 s1:Nat) (r:Sl Int),ro ≤ nb → SlO nb H (cInt .i64) 3 x0 b0 → H[d1]? = some (.cells [.func (.func 102) [].toArray [(.pointer (some ⟨b1,0,none⟩))].toArray] 99) → H[b1]? = some (.cells [slV x1 s1] 100) → SlH H (cInt .i64) 3 x1 s1 → (x0 ≠ none → b0 ≠ d1) → (x0 ≠ none → b0 ≠ b1) → (x0 ≠ none → x1 ≠ none → b0 ≠ s1) → c x0 x1 = some r →
 ∃ H',call ro 103 [slV x0 b0,(.func (.func 104) [].toArray [(.pointer (some ⟨d1,0,none⟩)),(.pointer (some ⟨b1,0,none⟩))].toArray)] H = some (.tuple [].toArray,H',[]) ∧ SlO nb H' (cInt .i64) 3 r b0 ∧ UpS (x0 ≠ none) b0 H H' ∧ (∀ b,slV r b = slV x0 b) ∧ ((r ≠ none) = (x0 ≠ none)) ∧ (Sl.l r).length = (Sl.l x0).length
def ownS (n:S_a):S_a :=
 if n.f_Kind = 1 then { S_a.zero with f_Kind:=n.f_Kind,f_Set:=n.f_Set }
 else if n.f_Kind = 10 then { S_a.zero with f_Kind:=n.f_Kind,f_Min:=n.f_Min,f_Max:=n.f_Max,f_Mode:=n.f_Mode }
 else if n.f_Kind = 11 then { S_a.zero with f_Kind:=n.f_Kind,f_N:=n.f_N }
 else if n.f_Kind = 12 then { S_a.zero with f_Kind:=n.f_Kind,f_N:=n.f_N,f_Fold:=n.f_Fold }
 else { S_a.zero with f_Kind:=n.f_Kind }
def fBits (c:Int):Nat:=c.toNat
def bitsF (c:Nat):Int:=(c:Int)
theorem x85 {H:Hp} {c:Int}:xP Mt H 85 [.int .u64 c] = some (.val (.float .f64 (fBits c)),H):=rfl
theorem x119 {H:Hp} {c:Nat}:xP Mt H 119 [.float .f64 c] = some (.val (.int .u64 (bitsF c)),H):=rfl
abbrev T_dr:=(Sl S_a) → Int → Option ((Sl S_a))
def A_er (call:CallF) (c:T_dr):Prop:=∀ (ro:Nat) (H:Hp) (x0:(Sl S_a)) (b0:Nat) (x1:Int) (r:(Sl S_a)),SlH H S_a.c 72 x0 b0 → c x0 x1 = some r → call ro 18 [(vAgg [slV x0 b0]),(.int .i64 x1)] H = some ((vAgg [slV r b0]),H,[]) ∧ (r ≠ none → x0 ≠ none) ∧ ∀ (H:Hp) (b:Nat),SlH H S_a.c 72 x0 b → SlH H S_a.c 72 r b
abbrev T_bz:=(Sl S_a) → Int → Option (Int × Int)
def A_de (call:CallF) (c:T_bz):Prop:=∀ (ro:Nat) (H:Hp) (x0:(Sl S_a)) (b0:Nat) (x1:Int) (r:Int × Int),SlH H S_a.c 72 x0 b0 → c x0 x1 = some r → call ro 20 [(vAgg [slV x0 b0]),(.int .i64 x1)] H = some ((.tuple [(.int .i64 (r.1)),(.int .i64 (r.2))].toArray),H,[])
abbrev T_cS:=(Sl S_a) → Int → Option (Nat × Int)
def A_d4 (call:CallF) (c:T_cS):Prop:=∀ (ro:Nat) (H:Hp) (x0:(Sl S_a)) (b0:Nat) (x1:Int) (r:Nat × Int),SlH H S_a.c 72 x0 b0 → c x0 x1 = some r → call ro 22 [(vAgg [slV x0 b0]),(.int .i64 x1)] H = some ((.tuple [(.float .f64 (r.1)),(.int .i64 (r.2))].toArray),H,[])
abbrev T_dJ:=(Sl S_a) → Option (Int)
def A_eK (call:CallF) (c:T_dJ):Prop:=∀ (ro:Nat) (H:Hp) (x0:(Sl S_a)) (b0:Nat) (r:Int),SlH H S_a.c 72 x0 b0 → c x0 = some r → call ro 32 [(vAgg [slV x0 b0])] H = some ((.int .i64 (r)),H,[])
abbrev T_dT:=(Sl S_a) → S_a → Option ((Sl S_a))
def A_eF (call:CallF) (c:T_dT):Prop:=∀ (ro:Nat) (H:Hp) (x0:(Sl S_a)) (b0:Nat) (x1:S_a) (r:(Sl S_a)),SlH H S_a.c 72 x0 b0 → c x0 x1 = some r → call ro 33 [(vAgg [slV x0 b0]),(vAgg (S_a.c x1))] H = some ((vAgg [slV r H.length]),(H ++ slB S_a.c 72 r),[])
abbrev T_dk:=(Sl S_a) → Option (Int)
def A_ec (call:CallF) (c:T_dk):Prop:=∀ (ro:Nat) (H:Hp) (x0:(Sl S_a)) (b0:Nat) (r:Int),SlH H S_a.c 72 x0 b0 → c x0 = some r → call ro 36 [(vAgg [slV x0 b0])] H = some ((.int .i64 (r)),H,[])
abbrev T_dQ:=(Sl S_a) → (Sl S_a) → Int → Option ((Sl S_a))
def A_eQ (call:CallF) (c:T_dQ):Prop:=∀ (ro:Nat) (H:Hp) (x0:(Sl S_a)) (b0:Nat) (x1:(Sl S_a)) (b1:Nat) (x2:Int) (r:(Sl S_a)),SlH H S_a.c 72 x0 b0 → SlH H S_a.c 72 x1 b1 → c x0 x1 x2 = some r → call ro 37 [(vAgg [slV x0 b0]),(vAgg [slV x1 b1]),(.int .i64 x2)] H = some ((vAgg [slV r H.length]),(H ++ slB S_a.c 72 r),[])
abbrev T_dA:=(Sl S_a) → Option (Int)
def A_em (call:CallF) (c:T_dA):Prop:=∀ (ro:Nat) (H:Hp) (x0:(Sl S_a)) (b0:Nat) (r:Int),SlH H S_a.c 72 x0 b0 → c x0 = some r → call ro 40 [(vAgg [slV x0 b0])] H = some ((.int .i64 (r)),H,[])
abbrev T_bb:=Int → Option (Int)
def A_dz (call:CallF) (c:T_bb):Prop:=∀ (ro:Nat) (H:Hp) (x0:Int) (r:Int),c x0 = some r → call ro 51 [(.int .i64 x0)] H = some ((.int .i64 (r)),H,[])
abbrev T_dB:=(Sl S_a) → Int → Option ((Sl Int))
def A_eq (call:CallF) (c:T_dB):Prop:=∀ (ro:Nat) (H:Hp) (x0:(Sl S_a)) (b0:Nat) (x1:Int) (r:(Sl Int)),SlH H S_a.c 72 x0 b0 → c x0 x1 = some r → call ro 52 [(vAgg [slV x0 b0]),(.int .i64 x1)] H = some ((slV r H.length),(H ++ slB (cInt .i64) 3 r),[])
abbrev T_cq:=Nat → Int → Option (Bool)
def A_ea (call:CallF) (c:T_cq):Prop:=∀ (ro:Nat) (H:Hp) (x0:Nat) (x1:Int) (r:Bool),c x0 x1 = some r → call ro 55 [(.float .f64 x0),(.int .i64 x1)] H = some ((.bool (r)),H,[])
abbrev T_cU:=Int → Option (Nat)
def A_eM (call:CallF) (c:T_cU):Prop:=∀ (ro:Nat) (H:Hp) (x0:Int) (r:Nat),c x0 = some r → call ro 56 [(.int .i64 x0)] H = some ((.float .f64 (r)),H,[])
abbrev T_Q:=(Sl S_a) → Option ((Sl Int) × Bool)
def A_cB (call:CallF) (c:T_Q):Prop:=∀ (ro:Nat) (H:Hp) (x0:(Sl S_a)) (b0:Nat) (r:(Sl Int) × Bool),SlH H S_a.c 72 x0 b0 → c x0 = some r → call ro 62 [(vAgg [slV x0 b0])] H = some ((.tuple [(slV r.1 H.length),(.bool (r.2))].toArray),(H ++ slB (cInt .i64) 3 r.1),[])
abbrev T_b0:=(Sl S_a) → Option ((Sl Int))
def A_c8 (call:CallF) (c:T_b0):Prop:=∀ (ro:Nat) (H:Hp) (x0:(Sl S_a)) (b0:Nat) (r:(Sl Int)),SlH H S_a.c 72 x0 b0 → c x0 = some r → call ro 63 [(vAgg [slV x0 b0])] H = some ((slV r H.length),(H ++ slB (cInt .i64) 3 r),[])
abbrev T_bA:=(Sl S_a) → Option (Int)
def A_eg (call:CallF) (c:T_bA):Prop:=∀ (ro:Nat) (H:Hp) (x0:(Sl S_a)) (b0:Nat) (r:Int),SlH H S_a.c 72 x0 b0 → c x0 = some r → call ro 64 [(vAgg [slV x0 b0])] H = some ((.int .i64 (r)),H,[])
abbrev T_b7:=(Sl S_a) → Option ((Sl Int) × (Sl Int))
def A_eT (call:CallF) (c:T_b7):Prop:=∀ (ro:Nat) (H:Hp) (x0:(Sl S_a)) (b0:Nat) (r:(Sl Int) × (Sl Int)),SlH H S_a.c 72 x0 b0 → c x0 = some r → call ro 65 [(vAgg [slV x0 b0])] H = some ((.tuple [(slV r.1 H.length),(slV r.2 (H.length + (slB (cInt .i64) 3 r.1).length))].toArray),(H ++ (slB (cInt .i64) 3 r.1 ++ slB (cInt .i64) 3 r.2)),[])
abbrev T_F:=Int → Option (Int)
def A_c0 (call:CallF) (c:T_F):Prop:=∀ (ro:Nat) (H:Hp) (x0:Int) (r:Int),c x0 = some r → call ro 66 [(.int .i64 x0)] H = some ((.int .i64 (r)),H,[])
abbrev T_bp:=(Sl S_a) → Option (Bool)
def A_dY (call:CallF) (c:T_bp):Prop:=∀ (ro:Nat) (H:Hp) (x0:(Sl S_a)) (b0:Nat) (r:Bool),SlH H S_a.c 72 x0 b0 → c x0 = some r → call ro 68 [(vAgg [slV x0 b0])] H = some ((.bool (r)),H,[])
abbrev T_bn:=S_a → Int → Option (Int)
def A_d3 (call:CallF) (c:T_bn):Prop:=∀ (ro:Nat) (H:Hp) (x0:S_a) (x1:Int) (r:Int),c x0 x1 = some r → call ro 79 [(vAgg (S_a.c x0)),(.int .i64 x1)] H = some ((.int .i64 (r)),H,[])
abbrev T_c2:=Nat → Option (Nat)
def A_eS (call:CallF) (c:T_c2):Prop:=∀ (ro:Nat) (H:Hp) (x0:Nat) (r:Nat),c x0 = some r → call ro 84 [(.float .f64 x0)] H = some ((.float .f64 (r)),H,[])
abbrev T_bv:=S_a → Option (Bool)
def A_dq (call:CallF) (c:T_bv):Prop:=∀ (ro:Nat) (H:Hp) (x0:S_a) (r:Bool),c x0 = some r → call ro 97 [(vAgg (S_a.c x0))] H = some ((.bool (r)),H,[])
abbrev T_bG:=(Sl Int) → Option (Int)
def A_cr (call:CallF) (c:T_bG):Prop:=∀ (ro:Nat) (H:Hp) (x0:(Sl Int)) (b0:Nat) (r:Int),SlH H (cInt .i64) 3 x0 b0 → c x0 = some r → call ro 98 [(slV x0 b0)] H = some ((.int .i64 (r)),H,[])
abbrev T_b6:=Int → Int → Option (Int)
def A_eL (call:CallF) (c:T_b6):Prop:=∀ (ro:Nat) (H:Hp) (x0:Int) (x1:Int) (r:Int),c x0 x1 = some r → call ro 99 [(.int .i64 x0),(.int .i64 x1)] H = some ((.int .i64 (r)),H,[])
abbrev T_bQ:=Int → Int → Option (Int)
def A_ep (call:CallF) (c:T_bQ):Prop:=∀ (ro:Nat) (H:Hp) (x0:Int) (x1:Int) (r:Int),c x0 x1 = some r → call ro 100 [(.int .i64 x0),(.int .i64 x1)] H = some ((.int .i64 (r)),H,[])
abbrev T_ci:=Int → (Sl Int) → Option (Int)
def A_c6 (call:CallF) (c:T_ci):Prop:=∀ (ro:Nat) (H:Hp) (x0:Int) (x1:(Sl Int)) (b1:Nat) (s1:Nat) (r:Int),H[b1]? = some (.cells [slV x1 s1] 100) → SlH H (cInt .i64) 3 x1 s1 → c x0 x1 = some r → call ro 102 [(.int .i64 x0),(.pointer (some ⟨b1,0,none⟩))] H = some ((.int .i64 (r)),H,[])
abbrev T_eB:=Int → Int → (Sl Int) → (Sl Int) → Option (Int)
def A_es (call:CallF) (c:T_eB):Prop:=∀ (ro:Nat) (H:Hp) (x0:Int) (x1:Int) (x2:(Sl Int)) (d2:Nat) (b2:Nat) (s2:Nat) (x3:(Sl Int)) (b3:Nat) (s3:Nat) (r:Int),H[d2]? = some (.cells [.func (.func 102) [].toArray [(.pointer (some ⟨b2,0,none⟩))].toArray] 99) → H[b2]? = some (.cells [slV x2 s2] 100) → SlH H (cInt .i64) 3 x2 s2 → H[b3]? = some (.cells [slV x3 s3] 100) → SlH H (cInt .i64) 3 x3 s3 → c x0 x1 x2 x3 = some r → call ro 104 [(.int .i64 x0),(.int .i64 x1),(.pointer (some ⟨d2,0,none⟩)),(.pointer (some ⟨b3,0,none⟩))] H = some ((.int .i64 (r)),H,[])
abbrev T_bJ:=S_a → (Sl Int) → Option (Bool)
def A_c5 (call:CallF) (c:T_bJ):Prop:=∀ (ro:Nat) (H:Hp) (x0:S_a) (x1:(Sl Int)) (b1:Nat) (s1:Nat) (r:Bool),H[b1]? = some (.cells [slV x1 s1] 100) → SlH H (cInt .i64) 3 x1 s1 → c x0 x1 = some r → call ro 105 [(vAgg (S_a.c x0)),(.pointer (some ⟨b1,0,none⟩))] H = some ((.bool (r)),H,[])
abbrev T_C:=(Sl S_a) → (Sl Int) → Option (Bool)
def A_cb (call:CallF) (c:T_C):Prop:=∀ (ro:Nat) (H:Hp) (x0:(Sl S_a)) (b0:Nat) (x1:(Sl Int)) (b1:Nat) (s1:Nat) (r:Bool),SlH H S_a.c 72 x0 b0 → H[b1]? = some (.cells [slV x1 s1] 100) → SlH H (cInt .i64) 3 x1 s1 → c x0 x1 = some r → call ro 106 [(slV x0 b0),(.func (.func 105) [].toArray [(.pointer (some ⟨b1,0,none⟩))].toArray)] H = some ((.bool (r)),H,[])
abbrev T_ct:=S_a → Option (S_a)
def A_dp (call:CallF) (c:T_ct):Prop:=∀ (ro:Nat) (H:Hp) (x0:S_a) (r:S_a),c x0 = some r → call ro 124 [(vAgg (S_a.c x0))] H = some ((vAgg (S_a.c (r))),H,[])
abbrev T_bk:=(Sl S_a) → (Sl Int) → Option (Int)
def A_ca (call:CallF) (c:T_bk):Prop:=∀ (ro:Nat) (H:Hp) (x0:(Sl S_a)) (b0:Nat) (x1:(Sl Int)) (b1:Nat) (s1:Nat) (r:Int),SlH H S_a.c 72 x0 b0 → H[b1]? = some (.cells [slV x1 s1] 100) → SlH H (cInt .i64) 3 x1 s1 → c x0 x1 = some r → call ro 138 [(slV x0 b0),(.func (.func 105) [].toArray [(.pointer (some ⟨b1,0,none⟩))].toArray)] H = some ((.int .i64 (r)),H,[])
abbrev T_cO:=Option (Bool)
def A_dZ (call:CallF) (c:T_cO):Prop:=∀ (ro:Nat) (H:Hp) (r:Bool),TabH1 H → c = some r → call ro 25 [] H = some ((.bool (r)),H,[])
abbrev T_cA:=S_a → Option (S_a)
def A_dE (call:CallF) (c:T_cA):Prop:=∀ (ro:Nat) (H:Hp) (x0:S_a) (r:S_a),c x0 = some r → call ro 125 [(vAgg (S_a.c x0))] H = some ((vAgg (S_a.c (r))),H,[])
end Go.Proofs.YtaadjlpfdajggaaGreatDoor
