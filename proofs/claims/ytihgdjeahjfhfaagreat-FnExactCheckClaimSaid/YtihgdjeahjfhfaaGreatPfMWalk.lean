/-
 The path of a permutation, inversions, drawn permutations: the walks.
-/
import Derived.Test.YtihgdjeahjfhfaaGreatPfMach
import Derived.Test.YtihgdjeahjfhfaaGreatPfOut
import Derived.Test.YtihgdjeahjfhfaaGreatPfRankB
import Derived.Test.YtihgdjeahjfhfaaGreatIrHas
set_option linter.unusedSimpArgs false
set_option linter.unusedVariables false
namespace Go.Cat
variable {K:Nat→List D→List D→Prop}
set_option maxRecDepth 100000
end Go.Cat
namespace Go.Cat
variable {K:Nat→List D→List D→Prop}
set_option maxRecDepth 100000
end Go.Cat
namespace Go.Cat
variable {K:Nat→List D→List D→Prop}
end Go.Cat
