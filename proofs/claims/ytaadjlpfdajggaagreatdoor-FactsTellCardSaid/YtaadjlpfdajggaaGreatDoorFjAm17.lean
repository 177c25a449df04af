import Derived.Test.YtaadjlpfdajggaaGreatDoorFjAm14
import Derived.Test.YtaadjlpfdajggaaGreatDoorFjAm16
set_option linter.unusedVariables false
set_option linter.unusedSimpArgs false
namespace Go.AM
open Go
def on2 (M:Mach) (nb ro:Nat) (H:Hp) (op:Op) (u v:Value):Option (R1 × Hp):=opA M [(0,u),(1,v)] nb ro H 0 op
def on1 (M:Mach) (nb ro:Nat) (H:Hp) (op:Op) (u:Value):Option (R1 × Hp):=opA M [(0,u)] nb ro H 0 op
def idxP (M:Mach) (H:Hp) (t:TypeId) (u v:Value):Option (R1 × Hp):=on2 M 0 0 H (.index t (.tmp 0) (.tmp 1)) u v
def iaP (M:Mach) (H:Hp) (t:TypeId) (u v:Value):Option (R1 × Hp):=on2 M 0 0 H (.indexAddr t (.tmp 0) (.tmp 1)) u v
def fldP (M:Mach) (H:Hp) (t:TypeId) (f:Nat) (u:Value):Option (R1 × Hp):=on1 M 0 0 H (.field t (.tmp 0) f) u
def faP (M:Mach) (H:Hp) (t:TypeId) (f:Nat) (u:Value):Option (R1 × Hp):=on1 M 0 0 H (.fieldAddr t (.tmp 0) f) u
def ldP (M:Mach) (H:Hp) (t:TypeId) (u:Value):Option (R1 × Hp):=on1 M 0 0 H (.load t (.tmp 0)) u
def ncP (M:Mach) (H:Hp) (u:Value):Option (R1 × Hp):=on1 M 0 0 H (.nilCheck (.tmp 0)) u
def extP (M:Mach) (H:Hp) (i:Nat) (u:Value):Option (R1 × Hp):=on1 M 0 0 H (.extract (.tmp 0) i) u
section
variable {M:Mach} {call:CallF} {nb ro:Nat} {σ:Env} {H:Hp} {ty t:TypeId} {x y:Operand}
theorem o_index:opA M σ nb ro H ty (.index t x y) = (ev σ x).bind fun u=>(ev σ y).bind fun v=>idxP M H t u v:=by
 cases hx:ev σ x with
 | none=>simp only [opA,hx]; split <;> simp_all
 | some u =>
  cases hy:ev σ y with
  | none=>simp only [opA,hx,hy]; split <;> simp_all
  | some v=>simp only [opA,hx,hy,oBs]; rfl
theorem o_indexAddr:opA M σ nb ro H ty (.indexAddr t x y) = (ev σ x).bind fun u=>(ev σ y).bind fun v=>iaP M H t u v:=by
 cases hx:ev σ x with
 | none=>simp only [opA,hx]; split <;> simp_all
 | some u =>
  cases hy:ev σ y with
  | none=>simp only [opA,hx,hy]; split <;> simp_all
  | some v=>simp only [opA,hx,hy,oBs]; rfl
theorem o_field {f:Nat}:opA M σ nb ro H ty (.field t x f) = (ev σ x).bind fun u=>fldP M H t f u:=by
 cases hx:ev σ x with
 | none=>simp only [opA,hx]; split <;> simp_all
 | some u=>simp only [opA,hx,oBs]; rfl
theorem o_fieldAddr {f:Nat}:opA M σ nb ro H ty (.fieldAddr t x f) = (ev σ x).bind fun u=>faP M H t f u:=by
 cases hx:ev σ x with
 | none=>simp only [opA,hx]; split <;> simp_all
 | some u=>simp only [opA,hx,oBs]; rfl
theorem o_load:opA M σ nb ro H ty (.load t x) = (ev σ x).bind fun u=>ldP M H t u:=by
 cases hx:ev σ x with
 | none=>simp only [opA,hx]; rfl
 | some u=>simp only [opA,hx,oBs]; rfl
theorem o_nilCheck:opA M σ nb ro H ty (.nilCheck x) = (ev σ x).bind fun u=>ncP M H u:=by
 cases hx:ev σ x with
 | none=>simp only [opA,hx]; rfl
 | some u=>simp only [opA,hx,oBs]; rfl
theorem o_extract {i:Nat}:opA M σ nb ro H ty (.extract x i) = (ev σ x).bind fun u=>extP M H i u:=by
 cases hx:ev σ x with
 | none=>simp only [opA,hx]; rfl
 | some u=>simp only [opA,hx,oBs]; rfl
theorem o_binOp {op:BinOp} {u:TypeId}:opA M σ nb ro H ty (.binOp op t x y u) = (ev σ x).bind fun a=>(ev σ y).bind fun b=>(binA M.P op t x y a b).map fun v=>(.val v,H):=by
 cases hx:ev σ x with
 | none=>simp only [opA,hx]; rfl
 | some u =>
  cases hy:ev σ y with
  | none=>simp only [opA,hx,hy]; rfl
  | some v=>simp only [opA,hx,hy,oBs]
def pickP (c u v:Value):Option Value :=
 match c with
 | .bool t=>some (if t then u else v)
 | _=>none
theorem o_pick {z:Operand}:opA M σ nb ro H ty (.pick x y z) = (ev σ x).bind fun c=>(ev σ y).bind fun u=>(ev σ z).bind fun v=>(pickP c u v).map fun v=>(.val v,H):=by
 simp only [opA]
 cases ev σ x with
 | none=>rfl
 | some c =>
  cases ev σ y with
  | none=>cases c <;> rfl
  | some u=>cases ev σ z <;> cases c <;> rfl
def bt (s:ByteArray) (i:Int):Option Int:=if 0 <= i then (s.data.toList[i.toNat]?).map fun b=>(b.toNat:Int) else none
def sub (s:ByteArray) (l h:Int):Option ByteArray:=if 0 <= l /\ l <= h /\ h <= (s.size:Int) then some (s.extract l.toNat h.toNat) else none
def sadd (s u:ByteArray):Option ByteArray:=if ((s.size + u.size:Nat):Int) <= IntKind.i64.max then some (s ++ u) else none
theorem ev0 {u:Value} {σ:Env}:ev ((0,u) :: σ) (.tmp 0) = some u:=rfl
theorem ev1 {u v:Value}:ev [(0,u),(1,v)] (.tmp 1) = some v:=rfl
end
section
variable {M:Mach} {call:CallF} {nb ro:Nat} {q:Bool} {σ:Env} {H:Hp} {ty:TypeId} {x:Operand} {t u:Nat} {v:Value} {s:St} {l:List AOp} {J:St -> Prop}
theorem o_move:opA M σ nb ro H ty (.move x) = (ev σ x).map fun v=>(.val v,H):=rfl
theorem o_assign:opA M σ nb ro H ty (.assign x) = (ev σ x).map fun v=>(.val v,H):=rfl
theorem o_call {c:Call}:opA M σ nb ro H ty (.call c) = callA M σ nb ro H ty c:=rfl
theorem evT:ev σ (.tmp t) = look σ t:=rfl
theorem evG {g:Nat}:ev σ (.global g) = some (.pointer (some ⟨g,0,none⟩)):=rfl
theorem evC:ev σ (.const v) = some v:=rfl
theorem lookS:look ((t,v) :: σ) t = some v:=by simp [AM.look]
theorem lookN (h:¬ t = u):look ((t,v) :: σ) u = look σ u:=by simp [AM.look,h]
theorem putS:put (some t) v σ = (t,v) :: σ:=rfl
theorem putN:put none v σ = σ:=rfl
theorem s_pf {op:Op} {d:Option Nat}:step1 M call nb ro false ⟨d,op,ty,none⟩ s = run1 M call nb ro ⟨d,op,ty,none⟩ s:=rfl
theorem s_gf {op:Op} {d:Option Nat} {g:Nat} {w:Bool}:step1 M call nb ro false ⟨d,op,ty,some (g,w)⟩ s = gsel (look s.env g) w (run1 M call nb ro ⟨d,op,ty,some (g,w)⟩ s) (some ⟨put d undef s.env,s.hp,s.dirty⟩):=s_guard
theorem s_pt {op:Op} {d:Option Nat}:step1 M call nb ro true ⟨d,op,ty,none⟩ s = if isW op = true then run1 M call nb ro ⟨d,op,ty,none⟩ s else run1 M call nb s.hp.length ⟨d,op,ty,none⟩ s:=by
 simp only [s_plain]; cases isW op <;> rfl
theorem s_gt {op:Op} {d:Option Nat} {g:Nat} {w:Bool}:step1 M call nb ro true ⟨d,op,ty,some (g,w)⟩ s = gsel (look s.env g) w (if isW op = true then run1 M call nb ro ⟨d,op,ty,some (g,w)⟩ s else run1 M call nb s.hp.length ⟨d,op,ty,some (g,w)⟩ s) (some ⟨put d undef s.env,s.hp,s.dirty⟩):=by
 rw [s_guard]; cases isW op <;> rfl
theorem gsel_t {x y:Option St}:gsel (some (.bool true)) true x y = x:=rfl
theorem gsel_f {x y:Option St}:gsel (some (.bool false)) false x y = x:=rfl
theorem gsel_tf {x y:Option St}:gsel (some (.bool true)) false x y = y:=rfl
theorem gsel_ft {x y:Option St}:gsel (some (.bool false)) true x y = y:=rfl
theorem gsel_u {w:Bool} {x y:Option St}:gsel (some undef) w x y = y:=rfl
theorem rn_app_k {l1 l2:List AOp} (J1:St -> Prop) (h:∀ J0:St -> Prop,(∀ s,J1 s -> J0 s) -> Rn M call nb ro q l1 s J0) (h2:∀ s1,J1 s1 -> Rn M call nb ro q l2 s1 J):Rn M call nb ro q (l1 ++ l2) s J :=
 rn_app J1 (h J1 fun _ h=>h) h2
theorem rnDef:Rn M call nb ro q l s J = match stepsA M call nb ro q l s with | some s'=>J s' | none=>False:=rfl
abbrev Lk (σ:Env) (t:Nat) (v:Value):Prop:=look σ t = some v
end
theorem RS:type_of% (And.intro @rnDef <| And.intro @s_nil <| And.intro @s_cons <| And.intro @s_pf <| And.intro @s_gf <| And.intro @gsel_t <| And.intro @gsel_f <| And.intro @gsel_tf <| And.intro @gsel_ft <| And.intro @gsel_u <| And.intro @g_move <| And.intro @g_assign <| And.intro @g_pick <| And.intro @g_alloc <| And.intro @g_box <| And.intro @g_build <| And.intro @g_buildSlice <| And.intro @g_load <| And.intro @g_nilCheck <| And.intro @g_binOp <| And.intro @g_unOp <| And.intro @g_convert <| And.intro @g_makeInterface <| And.intro @g_makeFunc <| And.intro @g_makeSlice <| And.intro @g_slice <| And.intro @g_fieldAddr <| And.intro @g_field <| And.intro @g_indexAddr <| And.intro @g_index <| And.intro @g_range <| And.intro @g_next <| And.intro @g_typeAssert <| And.intro @g_extract <| And.intro @g_call <|
 And.intro @o_move <| And.intro @o_assign <| And.intro @o_call <| And.intro @o_index <| And.intro @o_indexAddr <| And.intro @o_field <| And.intro @o_fieldAddr <| And.intro @o_load <| And.intro @o_nilCheck <| And.intro @o_extract <| And.intro @o_binOp <| And.intro @o_pick <|
 And.intro @c_len <| And.intro @f_val <| And.intro @f_enter <| And.intro @Option.map_some.{0,0} <| And.intro @Option.bind_some.{0,0} <| And.intro @evT <| And.intro @evC <| And.intro @evG <| And.intro @putS <| And.intro @putN <| And.intro @evs.eq_1 <| And.intro @evs.eq_2 <| And.intro @lookS <| And.intro @lookN <|
 And.intro @binA_add <| And.intro @binA_sub <| And.intro @binA_mul <| And.intro @binA_eql <| And.intro @binA_neq <| And.intro @binA_lss <| And.intro @binA_leq <| And.intro @binA_gtr <| @binA_geq) :=
 And.intro @rnDef <| And.intro @s_nil <| And.intro @s_cons <| And.intro @s_pf <| And.intro @s_gf <| And.intro @gsel_t <| And.intro @gsel_f <| And.intro @gsel_tf <| And.intro @gsel_ft <| And.intro @gsel_u <| And.intro @g_move <| And.intro @g_assign <| And.intro @g_pick <| And.intro @g_alloc <| And.intro @g_box <| And.intro @g_build <| And.intro @g_buildSlice <| And.intro @g_load <| And.intro @g_nilCheck <| And.intro @g_binOp <| And.intro @g_unOp <| And.intro @g_convert <| And.intro @g_makeInterface <| And.intro @g_makeFunc <| And.intro @g_makeSlice <| And.intro @g_slice <| And.intro @g_fieldAddr <| And.intro @g_field <| And.intro @g_indexAddr <| And.intro @g_index <| And.intro @g_range <| And.intro @g_next <| And.intro @g_typeAssert <| And.intro @g_extract <| And.intro @g_call <|
 And.intro @o_move <| And.intro @o_assign <| And.intro @o_call <| And.intro @o_index <| And.intro @o_indexAddr <| And.intro @o_field <| And.intro @o_fieldAddr <| And.intro @o_load <| And.intro @o_nilCheck <| And.intro @o_extract <| And.intro @o_binOp <| And.intro @o_pick <|
 And.intro @c_len <| And.intro @f_val <| And.intro @f_enter <| And.intro @Option.map_some.{0,0} <| And.intro @Option.bind_some.{0,0} <| And.intro @evT <| And.intro @evC <| And.intro @evG <| And.intro @putS <| And.intro @putN <| And.intro @evs.eq_1 <| And.intro @evs.eq_2 <| And.intro @lookS <| And.intro @lookN <|
 And.intro @binA_add <| And.intro @binA_sub <| And.intro @binA_mul <| And.intro @binA_eql <| And.intro @binA_neq <| And.intro @binA_lss <| And.intro @binA_leq <| And.intro @binA_gtr <| @binA_geq
theorem RB:type_of% (And.intro @lookS <| And.intro @lookN <| And.intro Bool.true_and <| And.intro Bool.false_and <| And.intro Bool.true_or <| And.intro Bool.false_or <| And.intro @cond_true.{0} <| @cond_false.{0}) :=
 And.intro @lookS <| And.intro @lookN <| And.intro Bool.true_and <| And.intro Bool.false_and <| And.intro Bool.true_or <| And.intro Bool.false_or <| And.intro @cond_true.{0} <| @cond_false.{0}
theorem cond_t {α:Type} {b:Bool} {x y:Option α} {r:α} (h:(bif b then x else y) = some r) (hb:b = true):x = some r:=by subst hb; exact h
theorem cond_f {α:Type} {b:Bool} {x y:Option α} {r:α} (h:(bif b then x else y) = some r) (hb:b = false):y = some r:=by subst hb; exact h
theorem bind_s {α β:Type} {o:Option α} {f:α -> Option β} {r:β} (h:o.bind f = some r):∃ a,o = some a /\ f a = some r:=oBe.1 h
end Go.AM
