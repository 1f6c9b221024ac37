/-
 Texts as numbers: ParseInt of both sides.
-/
import Derived.Test.YtdaefhflccndlaaGreatPfFmt
import Derived.Test.YtdaefhflccndlaaGreatPfPath
import Derived.Test.YtdaefhflccndlaaGreatPfAp
import Derived.Test.YtdaefhflccndlaaGreatPfBT
import Derived.Test.YtdaefhflccndlaaGreatPfRankA
import Derived.Test.YtdaefhflccndlaaGreatIrHas
set_option linter.unusedSimpArgs false
set_option linter.unusedVariables false
namespace Go.Cat
variable {K:Nat→List D→List D→Prop}
def sep (b:Nat):List (List Nat)→List Nat
 | []=>[]
 | [p]=>p
 | p::q::t=>p++b::sep b (q::t)
end Go.Cat
namespace Go.Cat
variable {K:Nat→List D→List D→Prop}
end Go.Cat
namespace Go.Cat
variable {K:Nat→List D→List D→Prop}
end Go.Cat
