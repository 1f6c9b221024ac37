/-
 Diagonals read back: l32Diagonals of the reference, for any text.
-/
import Derived.Test.YtdaefhflccndlaaGreatPfRdG
set_option linter.unusedSimpArgs false
set_option linter.unusedVariables false
namespace Go.Cat
variable {K:Nat→List D→List D→Prop}
end Go.Cat
