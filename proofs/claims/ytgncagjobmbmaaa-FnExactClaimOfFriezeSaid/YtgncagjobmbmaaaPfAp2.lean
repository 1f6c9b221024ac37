/-
 Lists of all paths: the closure that makes them, and what stands in them.
-/
import Derived.Test.YtgncagjobmbmaaaPfNum
import Derived.Test.YtgncagjobmbmaaaPfBT
import Derived.Test.YtgncagjobmbmaaaPfRank
import Derived.Test.YtgncagjobmbmaaaPfPI
import Derived.Test.YtgncagjobmbmaaaIrHas
import Derived.Test.YtgncagjobmbmaaaPfWrite
set_option linter.unusedSimpArgs false
set_option linter.unusedVariables false
namespace Go.Cat
variable {K:Nat→List D→List D→Prop}
end Go.Cat
namespace Go.Cat
variable {K:Nat→List D→List D→Prop}
end Go.Cat
namespace Go.Cat
variable {K:Nat→List D→List D→Prop}
end Go.Cat
