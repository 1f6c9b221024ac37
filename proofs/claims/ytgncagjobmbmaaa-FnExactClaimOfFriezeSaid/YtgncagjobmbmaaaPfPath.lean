/-
 Words of u and d: counting letters, paths.
-/
import Derived.Test.YtgncagjobmbmaaaCatFour
import Derived.Test.YtgncagjobmbmaaaIrHas
set_option linter.unusedSimpArgs false
set_option linter.unusedVariables false
namespace Go.Cat
variable {K:Nat→List D→List D→Prop}
end Go.Cat
