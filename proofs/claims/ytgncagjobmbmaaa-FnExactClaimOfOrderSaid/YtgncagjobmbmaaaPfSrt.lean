/-
 Sorting of rows: insertion, as the library does it for short lists.
-/
import Derived.Test.YtgncagjobmbmaaaPfIn
import Derived.Test.YtgncagjobmbmaaaIrHas
set_option linter.unusedSimpArgs false
set_option linter.unusedVariables false
namespace Go.Cat
variable {K:Nat→List D→List D→Prop}
end Go.Cat
