import Derived.Test.YtaadjlpfdajggaaGreatDoorBuAm26
import Derived.Test.YtaadjlpfdajggaaGreatDoorBuAm12
import Derived.Test.YtaadjlpfdajggaaGreatDoorBuAm9d
set_option linter.unusedVariables false
set_option linter.unusedSimpArgs false
namespace Go.AM
open Go
section
variable {P:Program} {M:Mach} {H:Hp} {t u:TypeId} {x y:Operand} {k k':IntKind} {a b:Nat} {i j:Int}
end
end Go.AM

set_option linter.unusedVariables false
set_option linter.unusedSimpArgs false
namespace Go.AM
open Go
def sameA:Value → Value → Bool
 | .agg a,.agg b=>sameL a.toList b.toList
 | a,b=>sameV a b
def sameAs:List Value → List Value → Bool
 | [],[]=>true
 | a :: l,b :: m=>sameA a b && sameAs l m
 | _,_=>false
def sameK:Blk → Blk → Bool
 | .dead,.dead=>true
 | .tab a,.tab b=>sameL a b
 | .cells a e,.cells b e'=>decide (e = e') && sameL a b
 | _,_=>false
def sameH:Hp → Hp → Bool
 | [],[]=>true
 | a :: l,b :: m=>sameK a b && sameH l m
 | _,_=>false
theorem sameA_eq {a b:Value} (h:sameA a b = true):a = b:=by
 unfold sameA at h
 split at h
 ·have:=sameL_eq h; rename_i x y; obtain ⟨x⟩:=x; obtain ⟨y⟩:=y; simp only at this; rw [this]
 ·exact sameV_eq h
theorem sameAs_eq:∀ {l m:List Value},sameAs l m = true → l = m
 | [],[],_=>rfl
 | [],_ :: _,h=>by cases h
 | _ :: _,[],h=>by cases h
 | a :: l,b :: m,h=>by
  simp only [sameAs,Bool.and_eq_true] at h
  rw [sameA_eq h.1,sameAs_eq h.2]
theorem sameK_eq {a b:Blk} (h:sameK a b = true):a = b:=by
 unfold sameK at h
 split at h
 ·rfl
 ·rw [sameL_eq h]
 ·simp only [Bool.and_eq_true,decide_eq_true_eq] at h; rw [h.1,sameL_eq h.2]
 ·cases h
theorem sameH_eq:∀ {l m:Hp},sameH l m = true → l = m
 | [],[],_=>rfl
 | [],_ :: _,h=>by cases h
 | _ :: _,[],h=>by cases h
 | a :: l,b :: m,h=>by
  simp only [sameH,Bool.and_eq_true] at h
  rw [sameK_eq h.1,sameH_eq h.2]
def pinC (ro0:Nat) (f0:FuncId) (args0:List Value) (H0:Hp) (r:Value × Hp × List Nat):CallF:=fun ro f args H =>
 if f = f0 then (if decide (ro = ro0) && sameAs args args0 && sameH H H0 then some r else none) else none
theorem pinC_ok {M:Mach} {c:CallF} (hc:CallOk M c) {ro0:Nat} {f0:FuncId} {args0:List Value} {H0:Hp} {r:Value × Hp × List Nat} (h:c ro0 f0 args0 H0 = some r):CallOk M (pinC ro0 f0 args0 H0 r):=fun ro f args H v H' d hv hro=>by
 unfold pinC at hv
 split at hv
 case isFalse=>cases hv
 rename_i hf
 subst hf
 split at hv
 case isFalse=>cases hv
 rename_i hb
 simp only [Bool.and_eq_true,decide_eq_true_eq] at hb
 obtain ⟨⟨rfl,h2⟩,h3⟩:=hb
 have:=sameAs_eq h2
 have:=sameH_eq h3
 subst this; subst args
 injection hv with hv
 subst hv
 exact hc _ _ _ _ _ _ _ h hro
end Go.AM
