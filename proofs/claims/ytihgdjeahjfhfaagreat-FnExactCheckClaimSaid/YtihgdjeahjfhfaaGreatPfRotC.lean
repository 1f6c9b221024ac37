/-
 Levels of leaves, heights.
-/
import Derived.Test.YtihgdjeahjfhfaaGreatPfRotB
set_option linter.unusedSimpArgs false
set_option linter.unusedVariables false
namespace Go.Cat
variable {K:Nat→List D→List D→Prop}
end Go.Cat
