/-
 Claims compared and copied.
-/
import Derived.Test.YtdaefhflccndlaaGreatPfH
import Derived.Test.YtdaefhflccndlaaGreatIrHas
set_option linter.unusedSimpArgs false
set_option linter.unusedVariables false
namespace Go.Cat
variable {K:Nat→List D→List D→Prop}
theorem atL_in {m:List (List Int)} {i:Nat} (h:i<m.length):atL m i∈m:=by simp [atL,h]
end Go.Cat
