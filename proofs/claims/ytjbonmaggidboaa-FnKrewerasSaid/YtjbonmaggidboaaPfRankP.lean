/-
 Lists of paths in order, peaks, and the numbers of Narayana.
-/
import Derived.Test.YtjbonmaggidboaaPfCat
import Derived.Test.YtjbonmaggidboaaPfAp
import Derived.Test.YtjbonmaggidboaaPfDrawP
import Derived.Test.YtjbonmaggidboaaIrHas
set_option linter.unusedSimpArgs false
set_option linter.unusedVariables false
namespace Go.Cat
variable {K:Nat→List D→List D→Prop}
set_option maxRecDepth 100000
end Go.Cat
