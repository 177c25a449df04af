import Derived.Test.YtaadjlpfdajggaaGreatDoorBvAm26
import Derived.Test.YtaadjlpfdajggaaGreatDoorBvAm12
import Derived.Test.YtaadjlpfdajggaaGreatDoorBvAm9d
set_option linter.unusedVariables false
set_option linter.unusedSimpArgs false
namespace Go.AM
open Go
def fcmp (op:BinOp) (a b:Nat):Bool :=
 match op with
 | .eql=>Ieee.double.order a b == some .eq
 | .neq=>Ieee.double.order a b != some .eq
 | .lss=>Ieee.double.order a b == some .lt
 | .leq=>Ieee.double.order a b == some .lt || Ieee.double.order a b == some .eq
 | .gtr=>Ieee.double.order a b == some .gt
 | _=>Ieee.double.order a b == some .gt || Ieee.double.order a b == some .eq
def fnear (n:Int):Nat:=FloatKind.nearest .f64 n
def fneg (a:Nat):Nat:=Op.negFloat .f64 a
def andNI (k:IntKind) (a b:Int):Int:=k.wrap (BitVec.ofInt k.bits a &&& ~~~BitVec.ofInt k.bits b).toNat
section
variable {P:Program} {M:Mach} {H:Hp} {t u:TypeId} {x y:Operand} {k k':IntKind} {a b:Nat} {i j:Int}
theorem binA_flt {op:BinOp}:binA P op t x y (.float .f64 a) (.float .f64 b) = flatten1 (pureRun P (binOp op t (.float .f64 a) (.float .f64 b))):=by
 have h:pureRun P (eqGuard op t x y (.float .f64 a) (.float .f64 b)) = some ():=by cases op <;> rfl
 unfold binA
 rw [if_pos (by rfl)]
 show flatten1 (pureRun P (eqGuard op t x y _ _ >>= fun _=>binOp op t _ _)) = _
 rw [pureRun_bind,h]; rfl
theorem flatten1_flt {a:Nat}:flatten1 (some (.float .f64 a)) = some (.float .f64 a):=rfl
theorem bin_fadd:binA P .add t x y (.float .f64 a) (.float .f64 b) = (Ieee.double.add a b).map (.float .f64):=by
 rw [binA_flt]
 have e:binOp .add t (.float .f64 a) (.float .f64 b) = Op.floatArith .add .f64 a b:=rfl
 rw [e]
 unfold Op.floatArith
 have e2:FloatKind.f64.format.add a b = Ieee.double.add a b:=rfl
 simp only [pure_bind,e2]
 cases Ieee.double.add a b <;> rfl
theorem bin_flss:binA P .lss t x y (.float .f64 a) (.float .f64 b) = some (.bool (fcmp .lss a b)):=by rw [binA_flt]; rfl
theorem bin_fgtr:binA P .gtr t x y (.float .f64 a) (.float .f64 b) = some (.bool (fcmp .gtr a b)):=by rw [binA_flt]; rfl
theorem bin_andn:binA P .andNot t x y (.int k i) (.int k j) = some (.int k (andNI k i j)):=by rw [binA_int]; simp [binOp,Op.intBits,andNI]
theorem un_fneg:unP M H .neg t (.float .f64 a) = some (.val (.float .f64 (fneg a)),H):=by
 simp only [unP,on1,opA,ev0,Option.bind_some]; rfl
theorem cv_i2f (ht:M.P.underlying t = some (.int k)) (hu:M.P.underlying u = some (.float .f64)):cvP M H t u (.int k i) = some (.val (.float .f64 (fnear i)),H):=by
 have e:pureRun M.P (convert t u (.int k i)) = some (.float .f64 (fnear i)):=by
  unfold convert
  simp only [pureRun_bind,underlying,pureRun_program,Option.bind_some,ht,hu,pureRun_pure]
  rfl
 simp only [cvP,on1,opA,ev0,Option.bind_some,convA,ht,hu,flat_int,if_true,e,flatten1_flt,Option.map_some]
end
end Go.AM

set_option linter.unusedVariables false
set_option linter.unusedSimpArgs false
namespace Go.AM
open Go
def sameA:Value → Value → Bool
 | .agg a,.agg b=>sameL a.toList b.toList
 | a,b=>sameV a b
def sameAs:List Value → List Value → Bool
 | [],[]=>true
 | a :: l,b :: m=>sameA a b && sameAs l m
 | _,_=>false
def sameK:Blk → Blk → Bool
 | .dead,.dead=>true
 | .tab a,.tab b=>sameL a b
 | .cells a e,.cells b e'=>decide (e = e') && sameL a b
 | _,_=>false
def sameH:Hp → Hp → Bool
 | [],[]=>true
 | a :: l,b :: m=>sameK a b && sameH l m
 | _,_=>false
theorem sameA_eq {a b:Value} (h:sameA a b = true):a = b:=by
 unfold sameA at h
 split at h
 ·have:=sameL_eq h; rename_i x y; obtain ⟨x⟩:=x; obtain ⟨y⟩:=y; simp only at this; rw [this]
 ·exact sameV_eq h
theorem sameAs_eq:∀ {l m:List Value},sameAs l m = true → l = m
 | [],[],_=>rfl
 | [],_ :: _,h=>by cases h
 | _ :: _,[],h=>by cases h
 | a :: l,b :: m,h=>by
  simp only [sameAs,Bool.and_eq_true] at h
  rw [sameA_eq h.1,sameAs_eq h.2]
theorem sameK_eq {a b:Blk} (h:sameK a b = true):a = b:=by
 unfold sameK at h
 split at h
 ·rfl
 ·rw [sameL_eq h]
 ·simp only [Bool.and_eq_true,decide_eq_true_eq] at h; rw [h.1,sameL_eq h.2]
 ·cases h
theorem sameH_eq:∀ {l m:Hp},sameH l m = true → l = m
 | [],[],_=>rfl
 | [],_ :: _,h=>by cases h
 | _ :: _,[],h=>by cases h
 | a :: l,b :: m,h=>by
  simp only [sameH,Bool.and_eq_true] at h
  rw [sameK_eq h.1,sameH_eq h.2]
def pinC (ro0:Nat) (f0:FuncId) (args0:List Value) (H0:Hp) (r:Value × Hp × List Nat):CallF:=fun ro f args H =>
 if f = f0 then (if decide (ro = ro0) && sameAs args args0 && sameH H H0 then some r else none) else none
theorem pinC_ok {M:Mach} {c:CallF} (hc:CallOk M c) {ro0:Nat} {f0:FuncId} {args0:List Value} {H0:Hp} {r:Value × Hp × List Nat} (h:c ro0 f0 args0 H0 = some r):CallOk M (pinC ro0 f0 args0 H0 r):=fun ro f args H v H' d hv hro=>by
 unfold pinC at hv
 split at hv
 case isFalse=>cases hv
 rename_i hf
 subst hf
 split at hv
 case isFalse=>cases hv
 rename_i hb
 simp only [Bool.and_eq_true,decide_eq_true_eq] at hb
 obtain ⟨⟨rfl,h2⟩,h3⟩:=hb
 have:=sameAs_eq h2
 have:=sameH_eq h3
 subst this; subst args
 injection hv with hv
 subst hv
 exact hc _ _ _ _ _ _ _ h hro
end Go.AM
