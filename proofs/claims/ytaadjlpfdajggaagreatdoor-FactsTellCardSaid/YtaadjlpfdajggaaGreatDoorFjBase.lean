import Derived.Test.YtaadjlpfdajggaaGreatDoorFjTy
import Derived.Test.YtaadjlpfdajggaaGreatDoorFjAm27
set_option maxRecDepth 100000
set_option linter.unusedVariables false
set_option linter.unusedSimpArgs false
namespace Go.Proofs.YtaadjlpfdajggaaGreatDoor
open Go Go.AM
section
variable {call:CallF} {c:Ctx} {a b:AC} {K:Exit -> St -> Prop} {s:St} {q:Bool} {l:List AOp} {H:Hp} {e t u off:Nat} {cs x:List Value} {v:Value} {P:Program} {nb:Nat}
theorem tS (hok:CallOk Mt call) (h:∀ J:St -> Prop,(∀ s,Tk Mt c b K s -> J s) -> Rn Mt call c.nb c.ro q l s J):Tk Mt c (.seq (.ops q l) b) K s:=tk_os okM hok h
theorem tE (hok:CallOk Mt call) (h:∀ J:St -> Prop,(∀ s,K .normal s -> J s) -> Rn Mt call c.nb c.ro q l s J):Tk Mt c (.ops q l) K s:=tk_oe okM hok h
theorem tK (h:K .normal s):Tk Mt c .skip K s:=tk_skip okM h
theorem tR (h:K .ret s):Tk Mt c .ret K s:=tk_ret okM h
theorem tX {id:Nat} (h:K (.exit id) s):Tk Mt c (.exit id) K s:=tk_exit okM h
theorem la {c:List Value} (hb:H[u]? = some (.cells cs e)) (ha:aggO Mt.P t = some true) (hz:szO Mt.P t = some c.length) (hs:Seg cs off c):ldP Mt H t (.pointer (some ⟨u,off,none⟩)) = some (.val (vAgg c),H):=ld_agg hb ha hz hs
theorem lo (hb:H[u]? = some (.cells cs e)) (ha:aggO Mt.P t = some false) (hs:Seg cs off [v]):ldP Mt H t (.pointer (some ⟨u,off,none⟩)) = some (.val v,H):=ld_one hb ha hs
theorem lsa (hb:Rb H u cs e) (ha:aggO Mt.P t = some true) (hz:szO Mt.P t = some x.length) (hs:Seg cs off x):ldP Mt H t (.pointer (some ⟨u,off,none⟩)) = some (.val (vAgg x),H):=lds_agg hb ha hz hs
theorem lso (hb:Rb H u cs e) (ha:aggO Mt.P t = some false) (hs:Seg cs off [v]):ldP Mt H t (.pointer (some ⟨u,off,none⟩)) = some (.val v,H):=lds_one hb ha hs
theorem tC {y:Operand} {t:Bool} {α:Type} {A B:Option α} {r:α} (hx:ev s.env y = some (.bool t)) (hm:(bif t then A else B) = some r) (h1:t = true -> A = some r -> Tk Mt c a K s) (h2:t = false -> B = some r -> Tk Mt c b K s):Tk Mt c (.cond y a b) K s :=
 tk_cond hx (fun h=>h1 h (cond_t hm h)) (fun h=>h2 h (cond_f hm h))
theorem aI0:args0 [] = []:=rfl
theorem aI1 {x0:Value}:args0 [x0] = [(0,x0)]:=rfl
theorem aI2 {x0 x1:Value}:args0 [x0,x1] = [(0,x0),(1,x1)]:=rfl
theorem aI4 {x0 x1 x2 x3:Value}:args0 [x0,x1,x2,x3] = [(0,x0),(1,x1),(2,x2),(3,x3)]:=rfl
theorem pN0 {f:FuncId} {af:AFun} {ar:List Value} (hf:Mt.F f = some af) (hnt:ar.length <= af.nt) (h:∀ c:Ctx,c.nt = af.nt -> c.nb = H.length -> c.ro = H.length -> c.ro <= c.nb -> Iv c.nb [] H H -> Tk Mt c af.body (kfun Mt.P H.length af.results v []) ⟨args0 ar,H,[]⟩) {ro:Nat} (hro:ro <= H.length) (hgo:isGo af.body = false:=by exact rfl):Pt Mt ro f ar H v H [] :=
 pt_new0 okM hf hnt (fun c h1 h2 h3=>h c h1 h2 h3 (by omega) (by rw [h2]; exact iv_refl)) hro hgo
theorem pN1 {f:FuncId} {af:AFun} {ar:List Value} {bs:List Blk} (hf:Mt.F f = some af) (hnt:ar.length <= af.nt) (h:∀ c:Ctx,c.nt = af.nt -> c.nb = H.length -> c.ro = H.length -> c.ro <= c.nb -> Iv c.nb [] H H -> Tk Mt c af.body (kfun Mt.P H.length af.results v bs) ⟨args0 ar,H,[]⟩) {ro:Nat} (hro:ro <= H.length) (hgo:isGo af.body = false:=by exact rfl):Pt Mt ro f ar H v (H ++ bs) [] :=
 pt_new okM hf hnt (fun c h1 h2 h3=>h c h1 h2 h3 (by omega) (by rw [h2]; exact iv_refl)) hro hgo
theorem sO:type_of% (@st_ok Mt):=@st_ok Mt
theorem bX:type_of% (@bx_ok Mt):=@bx_ok Mt
theorem sZ:type_of% (@st_sl0 Mt):=@st_sl0 Mt
theorem sgs {cs c:List Value} {o:Nat} (h:Seg cs o c):Seg cs (0 + o) c:=Seg.refl.sub h
theorem ef1 (hl:AM.look s.env t = some v) (hf:flat v = true):kfun P nb [.tmp t] v [] .ret s:=end_flat (vs:=[v]) (.inl rfl) (resT' hl resN) (fm_cons hf fm_nil)
end
theorem F5d:Mt.F 5 = some C.f5:=rfl
theorem F18d:Mt.F 18 = some C.f18:=rfl
theorem F18:(Mt.F 18).isSome = true:=rfl
theorem F19d:Mt.F 19 = some C.f19:=rfl
theorem F19:(Mt.F 19).isSome = true:=rfl
theorem F26d:Mt.F 26 = some C.f26:=rfl
theorem F26:(Mt.F 26).isSome = true:=rfl
theorem F27d:Mt.F 27 = some C.f27:=rfl
theorem F27:(Mt.F 27).isSome = true:=rfl
theorem F28d:Mt.F 28 = some C.f28:=rfl
theorem F28:(Mt.F 28).isSome = true:=rfl
theorem F38d:Mt.F 38 = some C.f38:=rfl
theorem F38:(Mt.F 38).isSome = true:=rfl
theorem F40d:Mt.F 40 = some C.f40:=rfl
theorem F40:(Mt.F 40).isSome = true:=rfl
theorem F44d:Mt.F 44 = some C.f44:=rfl
theorem F44:(Mt.F 44).isSome = true:=rfl
theorem F50d:Mt.F 50 = some C.f50:=rfl
theorem F50:(Mt.F 50).isSome = true:=rfl
theorem F53d:Mt.F 53 = some C.f53:=rfl
theorem F53:(Mt.F 53).isSome = true:=rfl
theorem F57d:Mt.F 57 = some C.f57:=rfl
theorem F57:(Mt.F 57).isSome = true:=rfl
theorem F58d:Mt.F 58 = some C.f58:=rfl
theorem F58:(Mt.F 58).isSome = true:=rfl
theorem F59d:Mt.F 59 = some C.f59:=rfl
theorem F59:(Mt.F 59).isSome = true:=rfl
theorem F62d:Mt.F 62 = some C.f62:=rfl
theorem F62:(Mt.F 62).isSome = true:=rfl
theorem F63d:Mt.F 63 = some C.f63:=rfl
theorem F63:(Mt.F 63).isSome = true:=rfl
theorem F64d:Mt.F 64 = some C.f64:=rfl
theorem F64:(Mt.F 64).isSome = true:=rfl
theorem F65d:Mt.F 65 = some C.f65:=rfl
theorem F65:(Mt.F 65).isSome = true:=rfl
theorem F66d:Mt.F 66 = some C.f66:=rfl
theorem F66:(Mt.F 66).isSome = true:=rfl
theorem F68d:Mt.F 68 = some C.f68:=rfl
theorem F68:(Mt.F 68).isSome = true:=rfl
theorem F72d:Mt.F 72 = some C.f72:=rfl
theorem F72:(Mt.F 72).isSome = true:=rfl
theorem F80d:Mt.F 80 = some C.f80:=rfl
theorem F80:(Mt.F 80).isSome = true:=rfl
theorem F81d:Mt.F 81 = some C.f81:=rfl
theorem F81:(Mt.F 81).isSome = true:=rfl
theorem F82d:Mt.F 82 = some C.f82:=rfl
theorem F82:(Mt.F 82).isSome = true:=rfl
theorem F83d:Mt.F 83 = some C.f83:=rfl
theorem F83:(Mt.F 83).isSome = true:=rfl
theorem F86d:Mt.F 86 = some C.f86:=rfl
theorem F86:(Mt.F 86).isSome = true:=rfl
theorem F87d:Mt.F 87 = some C.f87:=rfl
theorem F87:(Mt.F 87).isSome = true:=rfl
theorem F88d:Mt.F 88 = some C.f88:=rfl
theorem F88:(Mt.F 88).isSome = true:=rfl
theorem F89d:Mt.F 89 = some C.f89:=rfl
theorem F89:(Mt.F 89).isSome = true:=rfl
theorem F90d:Mt.F 90 = some C.f90:=rfl
theorem F90:(Mt.F 90).isSome = true:=rfl
theorem F91d:Mt.F 91 = some C.f91:=rfl
theorem F91:(Mt.F 91).isSome = true:=rfl
theorem F92d:Mt.F 92 = some C.f92:=rfl
theorem F92:(Mt.F 92).isSome = true:=rfl
theorem F93d:Mt.F 93 = some C.f93:=rfl
theorem F93:(Mt.F 93).isSome = true:=rfl
theorem F94d:Mt.F 94 = some C.f94:=rfl
theorem F94:(Mt.F 94).isSome = true:=rfl
theorem F95d:Mt.F 95 = some C.f95:=rfl
theorem F95:(Mt.F 95).isSome = true:=rfl
theorem F97d:Mt.F 97 = some C.f97:=rfl
theorem F97:(Mt.F 97).isSome = true:=rfl
theorem F98d:Mt.F 98 = some C.f98:=rfl
theorem F98:(Mt.F 98).isSome = true:=rfl
theorem F99d:Mt.F 99 = some C.f99:=rfl
theorem F99:(Mt.F 99).isSome = true:=rfl
theorem F100d:Mt.F 100 = some C.f100:=rfl
theorem F100:(Mt.F 100).isSome = true:=rfl
theorem F102d:Mt.F 102 = some C.f102:=rfl
theorem F102:(Mt.F 102).isSome = true:=rfl
theorem F104d:Mt.F 104 = some C.f104:=rfl
theorem F105d:Mt.F 105 = some C.f105:=rfl
theorem F105:(Mt.F 105).isSome = true:=rfl
theorem F106d:Mt.F 106 = some C.f106:=rfl
theorem F106:(Mt.F 106).isSome = true:=rfl
theorem F113d:Mt.F 113 = some C.f113:=rfl
theorem F113:(Mt.F 113).isSome = true:=rfl
theorem F116d:Mt.F 116 = some C.f116:=rfl
theorem F116:(Mt.F 116).isSome = true:=rfl
theorem F117d:Mt.F 117 = some C.f117:=rfl
theorem F117:(Mt.F 117).isSome = true:=rfl
theorem F118d:Mt.F 118 = some C.f118:=rfl
theorem F118:(Mt.F 118).isSome = true:=rfl
theorem F120d:Mt.F 120 = some C.f120:=rfl
theorem F120:(Mt.F 120).isSome = true:=rfl
theorem F121d:Mt.F 121 = some C.f121:=rfl
theorem F121:(Mt.F 121).isSome = true:=rfl
theorem F122d:Mt.F 122 = some C.f122:=rfl
theorem F122:(Mt.F 122).isSome = true:=rfl
theorem F123d:Mt.F 123 = some C.f123:=rfl
theorem F123:(Mt.F 123).isSome = true:=rfl
theorem F124d:Mt.F 124 = some C.f124:=rfl
theorem F124:(Mt.F 124).isSome = true:=rfl
theorem F138d:Mt.F 138 = some C.f138:=rfl
theorem F138:(Mt.F 138).isSome = true:=rfl
theorem F150d:Mt.F 150 = some C.f150:=rfl
theorem F150:(Mt.F 150).isSome = true:=rfl
theorem F151d:Mt.F 151 = some C.f151:=rfl
theorem F151:(Mt.F 151).isSome = true:=rfl
theorem F152d:Mt.F 152 = some C.f152:=rfl
theorem F152:(Mt.F 152).isSome = true:=rfl
theorem F168d:Mt.F 168 = some C.f168:=rfl
theorem F168:(Mt.F 168).isSome = true:=rfl
theorem F29:(Mt.F 29).isSome = true:=rfl
theorem F125:(Mt.F 125).isSome = true:=rfl
theorem F103:(Mt.F 103).isSome = true:=rfl
theorem bd25_ {H:Hp} :bdP Mt H 25 [] = some (.val (vAgg (S_g.c S_g.zero)),H):=bd_struct zs25 pl25 fill_nil
theorem bd54_ {H:Hp} :bdP Mt H 54 [] = some (.val (vAgg (S_e.c S_e.zero)),H):=bd_struct zs54 pl54 fill_nil
theorem bd54_0 {H:Hp} {y0:S_g}:bdP Mt H 54 [(0,vAgg (S_g.c y0))] = some (.val (vAgg (S_e.c ({ S_e.zero with f_First:=y0 }:S_e))),H):=bd_struct zs54 pl54 ((fill_cons (v:=vAgg (S_g.c y0)) (c:=S_g.c y0) rfl vAgg_cells (S_g.enc.len _) (by rw [S_e.enc.len]; decide) (S_e.wr0 S_e.zero y0)).trans fill_nil)
theorem bd54_0_1 {H:Hp} {y0:S_g} {y1:Bool}:bdP Mt H 54 [(0,vAgg (S_g.c y0)),(1,.bool y1)] = some (.val (vAgg (S_e.c ({ S_e.zero with f_First:=y0,f_Open:=y1 }:S_e))),H):=bd_struct zs54 pl54 ((fill_cons (v:=vAgg (S_g.c y0)) (c:=S_g.c y0) rfl vAgg_cells (S_g.enc.len _) (by rw [S_e.enc.len]; decide) (S_e.wr0 S_e.zero y0)).trans ((fill_cons (v:=.bool y1) (c:=cBool y1) rfl rfl (enc_bool.len _) (by rw [S_e.enc.len]; decide) (S_e.wr1 ({ S_e.zero with f_First:=y0 }) y1)).trans fill_nil))
theorem bd54_0_1_2_3 {H:Hp} {y0:S_g} {y1:Bool} {y2:Bool} {y3:ByteArray}:bdP Mt H 54 [(0,vAgg (S_g.c y0)),(1,.bool y1),(2,.bool y2),(3,.string y3)] = some (.val (vAgg (S_e.c ({ S_e.zero with f_First:=y0,f_Open:=y1,f_Fast:=y2,f_Prefix:=y3 }:S_e))),H):=bd_struct zs54 pl54 ((fill_cons (v:=vAgg (S_g.c y0)) (c:=S_g.c y0) rfl vAgg_cells (S_g.enc.len _) (by rw [S_e.enc.len]; decide) (S_e.wr0 S_e.zero y0)).trans ((fill_cons (v:=.bool y1) (c:=cBool y1) rfl rfl (enc_bool.len _) (by rw [S_e.enc.len]; decide) (S_e.wr1 ({ S_e.zero with f_First:=y0 }) y1)).trans ((fill_cons (v:=.bool y2) (c:=cBool y2) rfl rfl (enc_bool.len _) (by rw [S_e.enc.len]; decide) (S_e.wr2 ({ { S_e.zero with f_First:=y0 } with f_Open:=y1 }) y2)).trans ((fill_cons (v:=.string y3) (c:=cStr y3) rfl rfl (enc_str.len _) (by rw [S_e.enc.len]; decide) (S_e.wr3 ({ { { S_e.zero with f_First:=y0 } with f_Open:=y1 } with f_Fast:=y2 }) y3)).trans fill_nil))))
theorem bd54_1 {H:Hp} {y1:Bool}:bdP Mt H 54 [(1,.bool y1)] = some (.val (vAgg (S_e.c ({ S_e.zero with f_Open:=y1 }:S_e))),H):=bd_struct zs54 pl54 ((fill_cons (v:=.bool y1) (c:=cBool y1) rfl rfl (enc_bool.len _) (by rw [S_e.enc.len]; decide) (S_e.wr1 S_e.zero y1)).trans fill_nil)
theorem bd59_ {H:Hp} :bdP Mt H 59 [] = some (.val (vAgg (S_f.c S_f.zero)),H):=bd_struct zs59 pl59 fill_nil
theorem bd61_ {H:Hp} :bdP Mt H 61 [] = some (.val (vAgg (S_b.c S_b.zero)),H):=bd_struct zs61 pl61 fill_nil
theorem bd61_0_1_2_3 {H:Hp} {y0:S_f} {y1:Bool} {y2:Bool} {y3:ByteArray}:bdP Mt H 61 [(0,vAgg (S_f.c y0)),(1,.bool y1),(2,.bool y2),(3,.string y3)] = some (.val (vAgg (S_b.c ({ S_b.zero with f_First:=y0,f_Open:=y1,f_Fast:=y2,f_Prefix:=y3 }:S_b))),H):=bd_struct zs61 pl61 ((fill_cons (v:=vAgg (S_f.c y0)) (c:=S_f.c y0) rfl vAgg_cells (S_f.enc.len _) (by rw [S_b.enc.len]; decide) (S_b.wr0 S_b.zero y0)).trans ((fill_cons (v:=.bool y1) (c:=cBool y1) rfl rfl (enc_bool.len _) (by rw [S_b.enc.len]; decide) (S_b.wr1 ({ S_b.zero with f_First:=y0 }) y1)).trans ((fill_cons (v:=.bool y2) (c:=cBool y2) rfl rfl (enc_bool.len _) (by rw [S_b.enc.len]; decide) (S_b.wr2 ({ { S_b.zero with f_First:=y0 } with f_Open:=y1 }) y2)).trans ((fill_cons (v:=.string y3) (c:=cStr y3) rfl rfl (enc_str.len _) (by rw [S_b.enc.len]; decide) (S_b.wr3 ({ { { S_b.zero with f_First:=y0 } with f_Open:=y1 } with f_Fast:=y2 }) y3)).trans fill_nil))))
theorem bd97_0_1_2_3_4_5_6_7_8 {H:Hp} {y0:Int} {y1:Int} {y2:Int} {y3:(Arr Int 4)} {y4:Int} {y5:Int} {y6:Int} {y7:Int} {y8:Bool}:bdP Mt H 97 [(0,.int .i64 y0),(1,.int .i64 y1),(2,.int .i64 y2),(3,vAgg ((cArr (n:=4) (cInt .u64)) y3)),(4,.int .i64 y4),(5,.int .i64 y5),(6,.int .i64 y6),(7,.int .i64 y7),(8,.bool y8)] = some (.val (vAgg (S_d.c ({ S_d.zero with f_Kind:=y0,f_A:=y1,f_B:=y2,f_Set:=y3,f_Min:=y4,f_Max:=y5,f_Mode:=y6,f_N:=y7,f_Fold:=y8 }:S_d))),H):=bd_struct zs97 pl97 ((fill_cons (v:=.int .i64 y0) (c:=(cInt .i64) y0) rfl rfl (enc_int.len _) (by rw [S_d.enc.len]; decide) (S_d.wr0 S_d.zero y0)).trans ((fill_cons (v:=.int .i64 y1) (c:=(cInt .i64) y1) rfl rfl (enc_int.len _) (by rw [S_d.enc.len]; decide) (S_d.wr1 ({ S_d.zero with f_Kind:=y0 }) y1)).trans ((fill_cons (v:=.int .i64 y2) (c:=(cInt .i64) y2) rfl rfl (enc_int.len _) (by rw [S_d.enc.len]; decide) (S_d.wr2 ({ { S_d.zero with f_Kind:=y0 } with f_A:=y1 }) y2)).trans ((fill_cons (v:=vAgg ((cArr (n:=4) (cInt .u64)) y3)) (c:=(cArr (n:=4) (cInt .u64)) y3) rfl vAgg_cells ((enc_arr (n:=4) enc_int).len _) (by rw [S_d.enc.len]; decide) (S_d.wr3 ({ { { S_d.zero with f_Kind:=y0 } with f_A:=y1 } with f_B:=y2 }) y3)).trans ((fill_cons (v:=.int .i64 y4) (c:=(cInt .i64) y4) rfl rfl (enc_int.len _) (by rw [S_d.enc.len]; decide) (S_d.wr4 ({ { { { S_d.zero with f_Kind:=y0 } with f_A:=y1 } with f_B:=y2 } with f_Set:=y3 }) y4)).trans ((fill_cons (v:=.int .i64 y5) (c:=(cInt .i64) y5) rfl rfl (enc_int.len _) (by rw [S_d.enc.len]; decide) (S_d.wr5 ({ { { { { S_d.zero with f_Kind:=y0 } with f_A:=y1 } with f_B:=y2 } with f_Set:=y3 } with f_Min:=y4 }) y5)).trans ((fill_cons (v:=.int .i64 y6) (c:=(cInt .i64) y6) rfl rfl (enc_int.len _) (by rw [S_d.enc.len]; decide) (S_d.wr6 ({ { { { { { S_d.zero with f_Kind:=y0 } with f_A:=y1 } with f_B:=y2 } with f_Set:=y3 } with f_Min:=y4 } with f_Max:=y5 }) y6)).trans ((fill_cons (v:=.int .i64 y7) (c:=(cInt .i64) y7) rfl rfl (enc_int.len _) (by rw [S_d.enc.len]; decide) (S_d.wr7 ({ { { { { { { S_d.zero with f_Kind:=y0 } with f_A:=y1 } with f_B:=y2 } with f_Set:=y3 } with f_Min:=y4 } with f_Max:=y5 } with f_Mode:=y6 }) y7)).trans ((fill_cons (v:=.bool y8) (c:=cBool y8) rfl rfl (enc_bool.len _) (by rw [S_d.enc.len]; decide) (S_d.wr8 ({ { { { { { { { S_d.zero with f_Kind:=y0 } with f_A:=y1 } with f_B:=y2 } with f_Set:=y3 } with f_Min:=y4 } with f_Max:=y5 } with f_Mode:=y6 } with f_N:=y7 }) y8)).trans fill_nil)))))))))
theorem bd107_0 {H:Hp} {y0:S_e}:bdP Mt H 107 [(0,vAgg (S_e.c y0))] = some (.val (vAgg (S_a.c ({ S_a.zero with f_Facts:=y0 }:S_a))),H):=bd_struct zs107 pl107 ((fill_cons (v:=vAgg (S_e.c y0)) (c:=S_e.c y0) rfl vAgg_cells (S_e.enc.len _) (by rw [S_a.enc.len]; decide) (S_a.wr0 S_a.zero y0)).trans fill_nil)
theorem bd107_0_1_2 {H:Hp} {y0:S_e} {y1:Bool} {y2:Bool}:bdP Mt H 107 [(0,vAgg (S_e.c y0)),(1,.bool y1),(2,.bool y2)] = some (.val (vAgg (S_a.c ({ S_a.zero with f_Facts:=y0,f_whole:=y1,f_none:=y2 }:S_a))),H):=bd_struct zs107 pl107 ((fill_cons (v:=vAgg (S_e.c y0)) (c:=S_e.c y0) rfl vAgg_cells (S_e.enc.len _) (by rw [S_a.enc.len]; decide) (S_a.wr0 S_a.zero y0)).trans ((fill_cons (v:=.bool y1) (c:=cBool y1) rfl rfl (enc_bool.len _) (by rw [S_a.enc.len]; decide) (S_a.wr1 ({ S_a.zero with f_Facts:=y0 }) y1)).trans ((fill_cons (v:=.bool y2) (c:=cBool y2) rfl rfl (enc_bool.len _) (by rw [S_a.enc.len]; decide) (S_a.wr2 ({ { S_a.zero with f_Facts:=y0 } with f_whole:=y1 }) y2)).trans fill_nil)))
def TabH1 (H:Hp):Prop:=H[1]? = some (.tab (tabInts.map (Value.int .u8)))
theorem tabIv1 {r:Nat} {X:List Nat} {H0 H:Hp} (h:Iv r X H0 H) (hr:r = H0.length) (hG:TabH1 H0) (hX:1 ∉ X:=by simp):TabH1 H:=(h.old 1 (by rw [hr]; exact get_lt hG) hX).trans hG
def tabN1 (j:Nat):Int:=tabInts.getD j 0
theorem tabG1 {j:Nat} (h:j < 64):(tabInts.map (Value.int .u8))[0 + j * 1]? = some (.int .u8 (tabN1 j)):=by
 rw [Nat.zero_add,Nat.mul_one,List.getElem?_map]
 have:j < tabInts.length:=h
 simp [tabN1,List.getD_eq_getElem?_getD,List.getElem?_eq_getElem this]
abbrev T_Z:=Sl Int -> Sl Int -> Option (Sl Int)
def A_ds (call:CallF) (c:T_Z):Prop:=∀ (ro nb:Nat) (H:Hp) (x0:Sl Int) (b0:Nat) (x1:Sl Int) (d1 b1 s1:Nat) (r:Sl Int),ro <= nb -> SlO nb H (cInt .i64) 3 x0 b0 -> H[d1]? = some (.cells [.func (.func 102) [].toArray [(pT b1)].toArray] 99) -> H[b1]? = some (.cells [slV x1 s1] 100) -> SlH H (cInt .i64) 3 x1 s1 -> (x0 ≠ none -> b0 ≠ d1) -> (x0 ≠ none -> b0 ≠ b1) -> (x0 ≠ none -> x1 ≠ none -> b0 ≠ s1) -> c x0 x1 = some r ->
 ∃ H',call ro 103 [slV x0 b0,(.func (.func 104) [].toArray [(pT d1),(pT b1)].toArray)] H = some (.tuple [].toArray,H',[]) /\ SlO nb H' (cInt .i64) 3 r b0 /\ UpS (x0 ≠ none) b0 H H' /\ (∀ b,slV r b = slV x0 b) /\ ((r ≠ none) = (x0 ≠ none)) /\ (Sl.l r).length = (Sl.l x0).length
def ownS (n:S_c):S_c :=
 if n.f_Kind = 1 then { S_c.zero with f_Kind:=n.f_Kind,f_Set:=n.f_Set }
 else if n.f_Kind = 10 then { S_c.zero with f_Kind:=n.f_Kind,f_Min:=n.f_Min,f_Max:=n.f_Max,f_Mode:=n.f_Mode }
 else if n.f_Kind = 11 then { S_c.zero with f_Kind:=n.f_Kind,f_N:=n.f_N }
 else if n.f_Kind = 12 then { S_c.zero with f_Kind:=n.f_Kind,f_N:=n.f_N,f_Fold:=n.f_Fold }
 else { S_c.zero with f_Kind:=n.f_Kind }
abbrev T_gz:=(Sl S_c) -> Int -> Option ((Sl S_c))
def A_hO (call:CallF) (c:T_gz):Prop:=∀ (ro:Nat) (H:Hp) (x0:(Sl S_c)) (b0:Nat) (x1:Int) (r:(Sl S_c)),SlH H S_c.c 72 x0 b0 -> c x0 x1 = some r -> call ro 18 [(vAgg [slV x0 b0]),(.int .i64 x1)] H = some ((vAgg [slV r b0]),H,[]) /\ (r ≠ none -> x0 ≠ none) /\ ∀ (H:Hp) (b:Nat),SlH H S_c.c 72 x0 b -> SlH H S_c.c 72 r b
abbrev T_gp:=(Sl S_c) -> Option ((Sl S_d))
def A_hU (call:CallF) (c:T_gp):Prop:=∀ (ro:Nat) (H:Hp) (x0:(Sl S_c)) (b0:Nat) (r:(Sl S_d)),SlH H S_c.c 72 x0 b0 -> c x0 = some r -> call ro 19 [(vAgg [slV x0 b0])] H = some ((slV r H.length),(H ++ slB S_d.c 97 r),[])
abbrev T_gX:=(Sl S_c) -> Option (S_e × Int)
def A_iE (call:CallF) (c:T_gX):Prop:=∀ (ro:Nat) (H:Hp) (x0:(Sl S_c)) (b0:Nat) (r:S_e × Int),SlH H S_c.c 72 x0 b0 -> TabH1 H -> c x0 = some r -> call ro 26 [(vAgg [slV x0 b0])] H = some ((.tuple [(vAgg (S_e.c (r.1))),(.int .i64 (r.2))].toArray),H,[])
abbrev T_gU:=(Sl S_d) -> Option (S_b × Int)
def A_iF (call:CallF) (c:T_gU):Prop:=∀ (ro:Nat) (H:Hp) (x0:(Sl S_d)) (b0:Nat) (r:S_b × Int),SlH H S_d.c 97 x0 b0 -> c x0 = some r -> call ro 27 [(slV x0 b0)] H = some ((.tuple [(vAgg (S_b.c (r.1))),(.int .i64 (r.2))].toArray),H,[])
abbrev T_gt:=S_e -> Option (S_b)
def A_hT (call:CallF) (c:T_gt):Prop:=∀ (ro:Nat) (H:Hp) (x0:S_e) (r:S_b),c x0 = some r -> call ro 28 [(vAgg (S_e.c x0))] H = some ((vAgg (S_b.c (r))),H,[])
abbrev T_bT:=S_g -> S_g -> Option (S_g)
def A_eO (call:CallF) (c:T_bT):Prop:=∀ (ro:Nat) (H:Hp) (x0:S_g) (x1:S_g) (r:S_g),c x0 x1 = some r -> call ro 38 [(vAgg (S_g.c x0)),(vAgg (S_g.c x1))] H = some ((vAgg (S_g.c (r))),H,[])
abbrev T_gk:=(Sl S_c) -> Option (Int)
def A_hH (call:CallF) (c:T_gk):Prop:=∀ (ro:Nat) (H:Hp) (x0:(Sl S_c)) (b0:Nat) (r:Int),SlH H S_c.c 72 x0 b0 -> c x0 = some r -> call ro 40 [(vAgg [slV x0 b0])] H = some ((.int .i64 (r)),H,[])
abbrev T_dy:=S_g -> Option (Int)
def A_gb (call:CallF) (c:T_dy):Prop:=∀ (ro:Nat) (H:Hp) (x0:S_g) (r:Int),c x0 = some r -> call ro 44 [(vAgg (S_g.c x0))] H = some ((.int .i64 (r)),H,[])
abbrev T_fb:=S_c -> Option (S_d)
def A_hG (call:CallF) (c:T_fb):Prop:=∀ (ro:Nat) (H:Hp) (x0:S_c) (r:S_d),c x0 = some r -> call ro 50 [(vAgg (S_c.c x0))] H = some ((vAgg (S_d.c (r))),H,[])
abbrev T_fj:=(Sl S_d) -> Option (Int)
def A_g0 (call:CallF) (c:T_fj):Prop:=∀ (ro:Nat) (H:Hp) (x0:(Sl S_d)) (b0:Nat) (r:Int),SlH H S_d.c 97 x0 b0 -> c x0 = some r -> call ro 53 [(slV x0 b0)] H = some ((.int .i64 (r)),H,[])
abbrev T_gB:=(Sl S_c) -> Option ((Sl S_a))
def A_hF (call:CallF) (c:T_gB):Prop:=∀ (ro:Nat) (H:Hp) (x0:(Sl S_c)) (b0:Nat) (r:(Sl S_a)),SlH H S_c.c 72 x0 b0 -> TabH1 H -> c x0 = some r -> call ro 57 [(vAgg [slV x0 b0])] H = some ((slV r H.length),(H ++ slB S_a.c 107 r),[])
abbrev T_7:=(Sl S_d) -> Int -> Option (S_b × Bool)
def A_eq (call:CallF) (c:T_7):Prop:=∀ (ro:Nat) (H:Hp) (x0:(Sl S_d)) (b0:Nat) (x1:Int) (r:S_b × Bool),SlH H S_d.c 97 x0 b0 -> c x0 x1 = some r -> call ro 58 [(slV x0 b0),(.int .i64 x1)] H = some ((.tuple [(vAgg (S_b.c (r.1))),(.bool (r.2))].toArray),H,[])
abbrev T_cP:=(Arr Int 4) -> Option (S_f)
def A_gP (call:CallF) (c:T_cP):Prop:=∀ (ro:Nat) (H:Hp) (x0:(Arr Int 4)) (r:S_f),c x0 = some r -> call ro 59 [(vAgg ((cArr (n:=4) (cInt .u64)) x0))] H = some ((vAgg (S_f.c (r))),H,[])
abbrev T_ci:=(Sl S_c) -> Option ((Sl Int) × Bool)
def A_gs (call:CallF) (c:T_ci):Prop:=∀ (ro:Nat) (H:Hp) (x0:(Sl S_c)) (b0:Nat) (r:(Sl Int) × Bool),SlH H S_c.c 72 x0 b0 -> c x0 = some r -> call ro 62 [(vAgg [slV x0 b0])] H = some ((.tuple [(slV r.1 H.length),(.bool (r.2))].toArray),(H ++ slB (cInt .i64) 3 r.1),[])
abbrev T_fJ:=(Sl S_c) -> Option ((Sl Int))
def A_hi (call:CallF) (c:T_fJ):Prop:=∀ (ro:Nat) (H:Hp) (x0:(Sl S_c)) (b0:Nat) (r:(Sl Int)),SlH H S_c.c 72 x0 b0 -> c x0 = some r -> call ro 63 [(vAgg [slV x0 b0])] H = some ((slV r H.length),(H ++ slB (cInt .i64) 3 r),[])
abbrev T_cX:=(Sl S_c) -> Option (Int)
def A_hg (call:CallF) (c:T_cX):Prop:=∀ (ro:Nat) (H:Hp) (x0:(Sl S_c)) (b0:Nat) (r:Int),SlH H S_c.c 72 x0 b0 -> c x0 = some r -> call ro 64 [(vAgg [slV x0 b0])] H = some ((.int .i64 (r)),H,[])
abbrev T_dQ:=(Sl S_c) -> Option ((Sl Int) × (Sl Int))
def A_iq (call:CallF) (c:T_dQ):Prop:=∀ (ro:Nat) (H:Hp) (x0:(Sl S_c)) (b0:Nat) (r:(Sl Int) × (Sl Int)),SlH H S_c.c 72 x0 b0 -> c x0 = some r -> call ro 65 [(vAgg [slV x0 b0])] H = some ((.tuple [(slV r.1 H.length),(slV r.2 (H.length + (slB (cInt .i64) 3 r.1).length))].toArray),(H ++ (slB (cInt .i64) 3 r.1 ++ slB (cInt .i64) 3 r.2)),[])
abbrev T_cf:=Int -> Option (Int)
def A_gL (call:CallF) (c:T_cf):Prop:=∀ (ro:Nat) (H:Hp) (x0:Int) (r:Int),c x0 = some r -> call ro 66 [(.int .i64 x0)] H = some ((.int .i64 (r)),H,[])
abbrev T_cJ:=(Sl S_c) -> Option (Bool)
def A_g6 (call:CallF) (c:T_cJ):Prop:=∀ (ro:Nat) (H:Hp) (x0:(Sl S_c)) (b0:Nat) (r:Bool),SlH H S_c.c 72 x0 b0 -> c x0 = some r -> call ro 68 [(vAgg [slV x0 b0])] H = some ((.bool (r)),H,[])
abbrev T_cN:=Int -> Option (Int)
def A_fe (call:CallF) (c:T_cN):Prop:=∀ (ro:Nat) (H:Hp) (x0:Int) (r:Int),c x0 = some r -> call ro 72 [(.int .u64 x0)] H = some ((.int .i64 (r)),H,[])
abbrev T_bx:=(Sl S_d) -> Option (Int)
def A_gD (call:CallF) (c:T_bx):Prop:=∀ (ro:Nat) (H:Hp) (x0:(Sl S_d)) (b0:Nat) (r:Int),SlH H S_d.c 97 x0 b0 -> c x0 = some r -> call ro 80 [(slV x0 b0)] H = some ((.int .i64 (r)),H,[])
abbrev T_J:=(Sl S_d) -> Int -> Option ((Sl Int))
def A_er (call:CallF) (c:T_J):Prop:=∀ (ro:Nat) (H:Hp) (x0:(Sl S_d)) (b0:Nat) (x1:Int) (r:(Sl Int)),SlH H S_d.c 97 x0 b0 -> c x0 x1 = some r -> call ro 81 [(slV x0 b0),(.int .i64 x1)] H = some ((slV r H.length),(H ++ slB (cInt .i64) 3 r),[])
abbrev T_M:=(Sl S_d) -> Int -> Option (Int × Int)
def A_eE (call:CallF) (c:T_M):Prop:=∀ (ro:Nat) (H:Hp) (x0:(Sl S_d)) (b0:Nat) (x1:Int) (r:Int × Int),SlH H S_d.c 97 x0 b0 -> c x0 x1 = some r -> call ro 82 [(slV x0 b0),(.int .i64 x1)] H = some ((.tuple [(.int .i64 (r.1)),(.int .i64 (r.2))].toArray),H,[])
abbrev T_br:=Int -> Option (Int)
def A_eB (call:CallF) (c:T_br):Prop:=∀ (ro:Nat) (H:Hp) (x0:Int) (r:Int),c x0 = some r -> call ro 83 [(.int .i64 x0)] H = some ((.int .i64 (r)),H,[])
abbrev T_cC:=S_g -> Option (S_a)
def A_gY (call:CallF) (c:T_cC):Prop:=∀ (ro:Nat) (H:Hp) (x0:S_g) (r:S_a),TabH1 H -> c x0 = some r -> call ro 86 [(vAgg (S_g.c x0))] H = some ((vAgg (S_a.c (r))),H,[])
abbrev T_3:=Option (S_a)
def A_es (call:CallF) (c:T_3):Prop:=∀ (ro:Nat) (H:Hp) (r:S_a),c = some r -> call ro 87 [] H = some ((vAgg (S_a.c (r))),H,[])
abbrev T_dr:=Option (S_g)
def A_hK (call:CallF) (c:T_dr):Prop:=∀ (ro:Nat) (H:Hp) (r:S_g),c = some r -> call ro 88 [] H = some ((vAgg (S_g.c (r))),H,[])
abbrev T_dq:=S_a -> S_a -> Option (S_a)
def A_hM (call:CallF) (c:T_dq):Prop:=∀ (ro:Nat) (H:Hp) (x0:S_a) (x1:S_a) (r:S_a),c x0 x1 = some r -> call ro 89 [(vAgg (S_a.c x0)),(vAgg (S_a.c x1))] H = some ((vAgg (S_a.c (r))),H,[])
abbrev T_dn:=S_a -> S_a -> Option (S_a)
def A_hE (call:CallF) (c:T_dn):Prop:=∀ (ro:Nat) (H:Hp) (x0:S_a) (x1:S_a) (r:S_a),c x0 x1 = some r -> call ro 90 [(vAgg (S_a.c x0)),(vAgg (S_a.c x1))] H = some ((vAgg (S_a.c (r))),H,[])
abbrev T_cp:=S_c -> S_a -> Option (S_a)
def A_gE (call:CallF) (c:T_cp):Prop:=∀ (ro:Nat) (H:Hp) (x0:S_c) (x1:S_a) (r:S_a),c x0 x1 = some r -> call ro 91 [(vAgg (S_c.c x0)),(vAgg (S_a.c x1))] H = some ((vAgg (S_a.c (r))),H,[])
abbrev T_dl:=S_f -> Option (Int × Bool)
def A_hQ (call:CallF) (c:T_dl):Prop:=∀ (ro:Nat) (H:Hp) (x0:S_f) (r:Int × Bool),c x0 = some r -> call ro 92 [(vAgg (S_f.c x0))] H = some ((.tuple [(.int .u8 (r.1)),(.bool (r.2))].toArray),H,[])
abbrev T_dk:=S_f -> Option (Int)
def A_hI (call:CallF) (c:T_dk):Prop:=∀ (ro:Nat) (H:Hp) (x0:S_f) (r:Int),c x0 = some r -> call ro 93 [(vAgg (S_f.c x0))] H = some ((.int .i64 (r)),H,[])
abbrev T_cD:=Int -> Int -> Option (S_f)
def A_g5 (call:CallF) (c:T_cD):Prop:=∀ (ro:Nat) (H:Hp) (x0:Int) (x1:Int) (r:S_f),c x0 x1 = some r -> call ro 94 [(.int .u8 x0),(.int .u8 x1)] H = some ((vAgg (S_f.c (r))),H,[])
abbrev T_dm:=(Sl S_d) -> S_d -> Option (S_b × Bool)
def A_hJ (call:CallF) (c:T_dm):Prop:=∀ (ro:Nat) (H:Hp) (x0:(Sl S_d)) (b0:Nat) (x1:S_d) (r:S_b × Bool),SlH H S_d.c 97 x0 b0 -> c x0 x1 = some r -> call ro 95 [(slV x0 b0),(vAgg (S_d.c x1))] H = some ((.tuple [(vAgg (S_b.c (r.1))),(.bool (r.2))].toArray),H,[])
abbrev T_cK:=S_c -> Option (Bool)
def A_ga (call:CallF) (c:T_cK):Prop:=∀ (ro:Nat) (H:Hp) (x0:S_c) (r:Bool),c x0 = some r -> call ro 97 [(vAgg (S_c.c x0))] H = some ((.bool (r)),H,[])
abbrev T_dc:=(Sl Int) -> Option (Int)
def A_eI (call:CallF) (c:T_dc):Prop:=∀ (ro:Nat) (H:Hp) (x0:(Sl Int)) (b0:Nat) (r:Int),SlH H (cInt .i64) 3 x0 b0 -> c x0 = some r -> call ro 98 [(slV x0 b0)] H = some ((.int .i64 (r)),H,[])
abbrev T_dL:=Int -> Int -> Option (Int)
def A_iG (call:CallF) (c:T_dL):Prop:=∀ (ro:Nat) (H:Hp) (x0:Int) (x1:Int) (r:Int),c x0 x1 = some r -> call ro 99 [(.int .i64 x0),(.int .i64 x1)] H = some ((.int .i64 (r)),H,[])
abbrev T_do:=Int -> Int -> Option (Int)
def A_hN (call:CallF) (c:T_do):Prop:=∀ (ro:Nat) (H:Hp) (x0:Int) (x1:Int) (r:Int),c x0 x1 = some r -> call ro 100 [(.int .i64 x0),(.int .i64 x1)] H = some ((.int .i64 (r)),H,[])
abbrev T_ef:=Int -> (Sl Int) -> Option (Int)
def A_f1 (call:CallF) (c:T_ef):Prop:=∀ (ro:Nat) (H:Hp) (x0:Int) (x1:(Sl Int)) (b1:Nat) (s1:Nat) (r:Int),H[b1]? = some (.cells [slV x1 s1] 100) -> SlH H (cInt .i64) 3 x1 s1 -> c x0 x1 = some r -> call ro 102 [(.int .i64 x0),(pT b1)] H = some ((.int .i64 (r)),H,[])
abbrev T_h6:=Int -> Int -> (Sl Int) -> (Sl Int) -> Option (Int)
def A_h9 (call:CallF) (c:T_h6):Prop:=∀ (ro:Nat) (H:Hp) (x0:Int) (x1:Int) (x2:(Sl Int)) (d2:Nat) (b2:Nat) (s2:Nat) (x3:(Sl Int)) (b3:Nat) (s3:Nat) (r:Int),H[d2]? = some (.cells [.func (.func 102) [].toArray [(pT b2)].toArray] 99) -> H[b2]? = some (.cells [slV x2 s2] 100) -> SlH H (cInt .i64) 3 x2 s2 -> H[b3]? = some (.cells [slV x3 s3] 100) -> SlH H (cInt .i64) 3 x3 s3 -> c x0 x1 x2 x3 = some r -> call ro 104 [(.int .i64 x0),(.int .i64 x1),(pT d2),(pT b3)] H = some ((.int .i64 (r)),H,[])
abbrev T_c9:=S_c -> (Sl Int) -> Option (Bool)
def A_fF (call:CallF) (c:T_c9):Prop:=∀ (ro:Nat) (H:Hp) (x0:S_c) (x1:(Sl Int)) (b1:Nat) (s1:Nat) (r:Bool),H[b1]? = some (.cells [slV x1 s1] 100) -> SlH H (cInt .i64) 3 x1 s1 -> c x0 x1 = some r -> call ro 105 [(vAgg (S_c.c x0)),(pT b1)] H = some ((.bool (r)),H,[])
abbrev T_6:=(Sl S_c) -> (Sl Int) -> Option (Bool)
def A_dU (call:CallF) (c:T_6):Prop:=∀ (ro:Nat) (H:Hp) (x0:(Sl S_c)) (b0:Nat) (x1:(Sl Int)) (b1:Nat) (s1:Nat) (r:Bool),SlH H S_c.c 72 x0 b0 -> H[b1]? = some (.cells [slV x1 s1] 100) -> SlH H (cInt .i64) 3 x1 s1 -> c x0 x1 = some r -> call ro 106 [(slV x0 b0),(.func (.func 105) [].toArray [(pT b1)].toArray)] H = some ((.bool (r)),H,[])
abbrev T_ex:=S_g -> Option (S_g)
def A_f9 (call:CallF) (c:T_ex):Prop:=∀ (ro:Nat) (H:Hp) (x0:S_g) (r:S_g),c x0 = some r -> call ro 113 [(vAgg (S_g.c x0))] H = some ((vAgg (S_g.c (r))),H,[])
abbrev T_fL:=(Sl S_d) -> Option (Int)
def A_hd (call:CallF) (c:T_fL):Prop:=∀ (ro:Nat) (H:Hp) (x0:(Sl S_d)) (b0:Nat) (r:Int),SlH H S_d.c 97 x0 b0 -> c x0 = some r -> call ro 116 [(slV x0 b0)] H = some ((.int .i64 (r)),H,[])
abbrev T_dG:=Int -> Int -> Option (Int)
def A_hj (call:CallF) (c:T_dG):Prop:=∀ (ro:Nat) (H:Hp) (x0:Int) (x1:Int) (r:Int),c x0 x1 = some r -> call ro 117 [(.int .i64 x0),(.int .i64 x1)] H = some ((.int .i64 (r)),H,[])
abbrev T_dg:=Int -> Int -> Option (Int)
def A_g7 (call:CallF) (c:T_dg):Prop:=∀ (ro:Nat) (H:Hp) (x0:Int) (x1:Int) (r:Int),c x0 x1 = some r -> call ro 118 [(.int .i64 x0),(.int .i64 x1)] H = some ((.int .i64 (r)),H,[])
abbrev T_dv:=S_g -> Option (Int × Bool)
def A_f8 (call:CallF) (c:T_dv):Prop:=∀ (ro:Nat) (H:Hp) (x0:S_g) (r:Int × Bool),TabH1 H -> c x0 = some r -> call ro 120 [(vAgg (S_g.c x0))] H = some ((.tuple [(.int .u8 (r.1)),(.bool (r.2))].toArray),H,[])
abbrev T_cd:=S_a -> Option (S_a)
def A_fu (call:CallF) (c:T_cd):Prop:=∀ (ro:Nat) (H:Hp) (x0:S_a) (r:S_a),c x0 = some r -> call ro 121 [(vAgg (S_a.c x0))] H = some ((vAgg (S_a.c (r))),H,[])
abbrev T_eC:=S_f -> S_f -> Option (S_f)
def A_iy (call:CallF) (c:T_eC):Prop:=∀ (ro:Nat) (H:Hp) (x0:S_f) (x1:S_f) (r:S_f),c x0 x1 = some r -> call ro 122 [(vAgg (S_f.c x0)),(vAgg (S_f.c x1))] H = some ((vAgg (S_f.c (r))),H,[])
abbrev T_d0:=ByteArray -> Bool -> Option (ByteArray × Bool)
def A_hS (call:CallF) (c:T_d0):Prop:=∀ (ro:Nat) (H:Hp) (x0:ByteArray) (x1:Bool) (r:ByteArray × Bool),c x0 x1 = some r -> call ro 123 [(.string x0),(.bool x1)] H = some ((.tuple [(.string (r.1)),(.bool (r.2))].toArray),H,[])
abbrev T_eN:=S_c -> Option (S_c)
def A_gc (call:CallF) (c:T_eN):Prop:=∀ (ro:Nat) (H:Hp) (x0:S_c) (r:S_c),c x0 = some r -> call ro 124 [(vAgg (S_c.c x0))] H = some ((vAgg (S_c.c (r))),H,[])
abbrev T_cz:=(Sl S_c) -> (Sl Int) -> Option (Int)
def A_dT (call:CallF) (c:T_cz):Prop:=∀ (ro:Nat) (H:Hp) (x0:(Sl S_c)) (b0:Nat) (x1:(Sl Int)) (b1:Nat) (s1:Nat) (r:Int),SlH H S_c.c 72 x0 b0 -> H[b1]? = some (.cells [slV x1 s1] 100) -> SlH H (cInt .i64) 3 x1 s1 -> c x0 x1 = some r -> call ro 138 [(slV x0 b0),(.func (.func 105) [].toArray [(pT b1)].toArray)] H = some ((.int .i64 (r)),H,[])
abbrev T_dE:=(Sl S_d) -> Int -> Option (Int)
def A_f0 (call:CallF) (c:T_dE):Prop:=∀ (ro:Nat) (H:Hp) (x0:(Sl S_d)) (b0:Nat) (x1:Int) (r:Int),SlH H S_d.c 97 x0 b0 -> c x0 x1 = some r -> call ro 150 [(slV x0 b0),(.int .i64 x1)] H = some ((.int .i64 (r)),H,[])
abbrev T_dD:=(Sl S_d) -> Int -> Option (Int)
def A_fI (call:CallF) (c:T_dD):Prop:=∀ (ro:Nat) (H:Hp) (x0:(Sl S_d)) (b0:Nat) (x1:Int) (r:Int),SlH H S_d.c 97 x0 b0 -> c x0 x1 = some r -> call ro 151 [(slV x0 b0),(.int .i64 x1)] H = some ((.int .i64 (r)),H,[])
abbrev T_bX:=Int -> Option (Int)
def A_d6 (call:CallF) (c:T_bX):Prop:=∀ (ro:Nat) (H:Hp) (x0:Int) (r:Int),TabH1 H -> c x0 = some r -> call ro 152 [(.int .u64 x0)] H = some ((.int .i64 (r)),H,[])
abbrev T_fV:=S_d -> Option (Bool)
def A_ho (call:CallF) (c:T_fV):Prop:=∀ (ro:Nat) (H:Hp) (x0:S_d) (r:Bool),c x0 = some r -> call ro 168 [(vAgg (S_d.c x0))] H = some ((.bool (r)),H,[])
abbrev T_fo:=Option (Bool)
def A_g3 (call:CallF) (c:T_fo):Prop:=∀ (ro:Nat) (H:Hp) (r:Bool),TabH1 H -> c = some r -> call ro 29 [] H = some ((.bool (r)),H,[])
abbrev T_eU:=S_c -> Option (S_c)
def A_gJ (call:CallF) (c:T_eU):Prop:=∀ (ro:Nat) (H:Hp) (x0:S_c) (r:S_c),c x0 = some r -> call ro 125 [(vAgg (S_c.c x0))] H = some ((vAgg (S_c.c (r))),H,[])
end Go.Proofs.YtaadjlpfdajggaaGreatDoor
