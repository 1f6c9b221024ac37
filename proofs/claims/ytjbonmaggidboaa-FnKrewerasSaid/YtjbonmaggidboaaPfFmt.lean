/-
 Numbers as texts, and texts glued together.
-/
import Derived.Test.YtjbonmaggidboaaPfPerm
import Derived.Test.YtjbonmaggidboaaPfIn
import Derived.Test.YtjbonmaggidboaaIrHas
import Derived.Test.YtjbonmaggidboaaPfPath
import Derived.Test.YtjbonmaggidboaaPfAp
set_option linter.unusedSimpArgs false
set_option linter.unusedVariables false
namespace Go.Cat
variable {K:Nat→List D→List D→Prop}
end Go.Cat
namespace Go.Cat
variable {K:Nat→List D→List D→Prop}
end Go.Cat
