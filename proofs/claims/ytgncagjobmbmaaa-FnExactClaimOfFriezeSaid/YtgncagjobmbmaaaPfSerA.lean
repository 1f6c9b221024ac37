/-
 Series: products.
-/
import Derived.Test.YtgncagjobmbmaaaPfIn
import Derived.Test.YtgncagjobmbmaaaIrHas
import Derived.Test.YtgncagjobmbmaaaPfNum
set_option linter.unusedSimpArgs false
set_option linter.unusedVariables false
namespace Go.Cat
variable {K:Nat→List D→List D→Prop}
end Go.Cat
namespace Go.Cat
variable {K:Nat→List D→List D→Prop}
set_option maxRecDepth 100000
end Go.Cat
