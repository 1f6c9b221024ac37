/-
 Texts of numbers, diagonals.
-/
import Derived.Test.YtgncagjobmbmaaaPfFmt
import Derived.Test.YtgncagjobmbmaaaPfClaim
import Derived.Test.YtgncagjobmbmaaaIrHas
set_option linter.unusedSimpArgs false
set_option linter.unusedVariables false
namespace Go.Cat
variable {K:Nat→List D→List D→Prop}
end Go.Cat
