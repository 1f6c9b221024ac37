/-
 Texts of plane trees, partitions, matchings; permutations of paths.
-/
import Derived.Test.YtgncagjobmbmaaaPfPLine
import Derived.Test.YtgncagjobmbmaaaPfMWalk
import Derived.Test.YtgncagjobmbmaaaIrHas
set_option linter.unusedSimpArgs false
set_option linter.unusedVariables false
namespace Go.Cat
variable {K:Nat→List D→List D→Prop}
end Go.Cat
