import Derived.Test.YtcjnmmeibppblaaDoorTeLaw
import Derived.Test.YtcjnmmeibppblaaDoorTeAm22
set_option linter.unusedVariables false
namespace Go.AM
open Go Go.ChangeShapes Go.WideShapes Go.ChangeAt Go.RowKit
section
variable {P:Program} {w:World} {t e:TypeId}
section
variable {H:Type} {enc:TypeId × Value → H} {r:Reach} {b0 base:Nat} {sp:Nat → Bool} {held:Bool} {v:Value} {d:DataW H} {ps:List MemPlace}
theorem op_str (ht:P.underlying t = some .string) (hval:Value.okWide P w r b0 t v) (hd:DataW.Trod enc P w base sp held t v d ps):∃ s:ByteArray,v = .string s ∧ s.size ≤ maxLen:=by
 obtain ⟨s,h1,_,_,h4⟩:=ChangeMaps.open_string ht hval hd
 exact ⟨s,h1,h4⟩
end
end
theorem tab_run {T:FuncId → Option Co} {n:Nat} {k:Co} {H:Hp} {args:List Value} {x:k.X} {r:k.R} {v:Value} {H':Hp} (hT:T k.f = some k) (hx:k.rd H.length H args x) (hm:k.m n x = some r) (hl:k.lay r args H = (v,H')):tabC T n H.length k.f args H = some (v,H',[]):=by
 rw [ans_tab hT H.length H args x r hx hm,hl]
end Go.AM
