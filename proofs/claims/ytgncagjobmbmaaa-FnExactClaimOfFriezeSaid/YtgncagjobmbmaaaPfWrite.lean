/-
 Objects of paths as texts: WriteAs of both sides.
-/
import Derived.Test.YtgncagjobmbmaaaPfWr1
import Derived.Test.YtgncagjobmbmaaaPfTri2
import Derived.Test.YtgncagjobmbmaaaIrHas
set_option linter.unusedSimpArgs false
set_option linter.unusedVariables false
namespace Go.Cat
variable {K:Nat→List D→List D→Prop}
end Go.Cat
namespace Go.Cat
variable {K:Nat→List D→List D→Prop}
end Go.Cat
