import Derived.Test.YtaadjlpfdajggaaGreatDoorFjAm26
set_option linter.unusedVariables false
set_option linter.unusedSimpArgs false
namespace Go.AM
open Go
section
variable {P:Program} {M:Mach} {H:Hp} {t u:TypeId} {x y:Operand} {k k':IntKind} {a b:Nat} {i j:Int}
end
end Go.AM
