/-
 A path works a stack.
-/
import Derived.Test.YtgncagjobmbmaaaPfM231
import Derived.Test.YtgncagjobmbmaaaPfPath
import Derived.Test.YtgncagjobmbmaaaIrHas
import Derived.Test.YtgncagjobmbmaaaCatFour
set_option linter.unusedSimpArgs false
set_option linter.unusedVariables false
namespace Go.Cat
variable {K:Nat→List D→List D→Prop}
end Go.Cat
namespace Go.Cat
variable {K:Nat→List D→List D→Prop}
end Go.Cat
namespace Go.Cat
variable {K:Nat→List D→List D→Prop}
end Go.Cat
