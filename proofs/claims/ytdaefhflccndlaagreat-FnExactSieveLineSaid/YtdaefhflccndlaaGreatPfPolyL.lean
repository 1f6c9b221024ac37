/-
 Polynomials: a product with the divisor, and the remainder, give back what was divided.
-/
import Derived.Test.YtdaefhflccndlaaGreatPfPolyM
import Derived.Test.YtdaefhflccndlaaGreatPfRankA
import Derived.Test.YtdaefhflccndlaaGreatIrHas
set_option linter.unusedSimpArgs false
set_option linter.unusedVariables false
namespace Go.Cat
theorem atI_outP {p:List Int} {k:Nat} (h:p.length≤k):atI p k=0:=by simp [atI,h]
end Go.Cat
namespace Go.Cat
variable {K:Nat→List D→List D→Prop}
set_option maxRecDepth 100000
end Go.Cat
