/-
 Texts cut into numbers: cut and l32Numbers.
-/
import Derived.Test.YtjbonmaggidboaaPfFmt
import Derived.Test.YtjbonmaggidboaaPfAp2
import Derived.Test.YtjbonmaggidboaaIrHas
import Derived.Test.YtjbonmaggidboaaPfTri
set_option linter.unusedSimpArgs false
set_option linter.unusedVariables false
namespace Go.Cat
variable {K:Nat→List D→List D→Prop}
end Go.Cat
namespace Go.Cat
variable {K:Nat→List D→List D→Prop}
end Go.Cat
