/-
 The path of a permutation, inversions, drawn permutations: the walks.
-/
import Derived.Test.YtgncagjobmbmaaaPfM231
import Derived.Test.YtgncagjobmbmaaaPfOut
set_option linter.unusedSimpArgs false
set_option linter.unusedVariables false
namespace Go.Cat
variable {K:Nat→List D→List D→Prop}
set_option maxRecDepth 100000
end Go.Cat
namespace Go.Cat
variable {K:Nat→List D→List D→Prop}
set_option maxRecDepth 100000
end Go.Cat
