/-
 Claims written into and looked at again; the path of a permutation, by places.
-/
import Derived.Test.YtihgdjeahjfhfaaGreatPfClaim
import Derived.Test.YtihgdjeahjfhfaaGreatPfMWalk
import Derived.Test.YtihgdjeahjfhfaaGreatIrHas
import Derived.Test.YtihgdjeahjfhfaaGreatPfOrdI
import Derived.Test.YtihgdjeahjfhfaaGreatPfOrdS
set_option linter.unusedSimpArgs false
set_option linter.unusedVariables false
namespace Go.Cat
variable {K:Nat→List D→List D→Prop}
set_option maxRecDepth 100000
end Go.Cat
namespace Go.Cat
variable {K:Nat→List D→List D→Prop}
end Go.Cat
