/-
 Paths and their ranks: the plain law, and the walks.
-/
import Derived.Test.YtgncagjobmbmaaaPfRankA
import Derived.Test.YtgncagjobmbmaaaPfPath
import Derived.Test.YtgncagjobmbmaaaPfSerA
import Derived.Test.YtgncagjobmbmaaaPfNum
import Derived.Test.YtgncagjobmbmaaaPfOut
import Derived.Test.YtgncagjobmbmaaaIrHas
set_option linter.unusedSimpArgs false
set_option linter.unusedVariables false
namespace Go.Cat
variable {K:Nat→List D→List D→Prop}
set_option maxRecDepth 100000
end Go.Cat
namespace Go.Cat
variable {K:Nat→List D→List D→Prop}
set_option maxRecDepth 100000
end Go.Cat
namespace Go.Cat
variable {K:Nat→List D→List D→Prop}
set_option maxRecDepth 100000
end Go.Cat
