/-
 The pattern 231, there or not: both walks.
-/
import Derived.Test.YtgncagjobmbmaaaPfMach
import Derived.Test.YtgncagjobmbmaaaPfPerm
import Derived.Test.YtgncagjobmbmaaaPfH
import Derived.Test.YtgncagjobmbmaaaIrHas
set_option linter.unusedSimpArgs false
set_option linter.unusedVariables false
namespace Go.Cat
variable {K:Nat→List D→List D→Prop}
set_option maxRecDepth 100000
end Go.Cat
namespace Go.Cat
variable {K:Nat→List D→List D→Prop}
end Go.Cat
