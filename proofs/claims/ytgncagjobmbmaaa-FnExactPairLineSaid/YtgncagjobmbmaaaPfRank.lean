/-
 Paths and their ranks: the plain law, and the walks.
-/
import Derived.Test.YtgncagjobmbmaaaPfRankB
import Derived.Test.YtgncagjobmbmaaaPfPath
import Derived.Test.YtgncagjobmbmaaaPfCat
set_option linter.unusedSimpArgs false
set_option linter.unusedVariables false
namespace Go.Cat
variable {K:Nat→List D→List D→Prop}
set_option maxRecDepth 100000
end Go.Cat
