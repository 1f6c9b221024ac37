/-
 Texts of numbers, diagonals.
-/
import Derived.Test.YtjbonmaggidboaaPfFmt
import Derived.Test.YtjbonmaggidboaaPfClaim
import Derived.Test.YtjbonmaggidboaaIrHas
import Derived.Test.YtjbonmaggidboaaPfNum
set_option linter.unusedSimpArgs false
set_option linter.unusedVariables false
namespace Go.Cat
variable {K:Nat→List D→List D→Prop}
end Go.Cat
namespace Go.Cat
variable {K:Nat→List D→List D→Prop}
set_option maxRecDepth 100000
end Go.Cat
namespace Go.Cat
variable {K:Nat→List D→List D→Prop}
set_option maxRecDepth 100000
end Go.Cat
