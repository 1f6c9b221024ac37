/-
 The partners of a path's letters, as both sides find them.
-/
import Derived.Test.YtgncagjobmbmaaaPfMat
import Derived.Test.YtgncagjobmbmaaaPfNum
import Derived.Test.YtgncagjobmbmaaaPfM231
import Derived.Test.YtgncagjobmbmaaaIrHas
set_option linter.unusedSimpArgs false
set_option linter.unusedVariables false
namespace Go.Cat
variable {K:Nat→List D→List D→Prop}
end Go.Cat
