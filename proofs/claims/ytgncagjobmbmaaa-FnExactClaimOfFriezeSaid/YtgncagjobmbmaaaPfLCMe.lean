/-
 ClaimOfMeander answers as the reference does.
-/
import Derived.Test.YtgncagjobmbmaaaPfMark
import Derived.Test.YtgncagjobmbmaaaPfMatP
import Derived.Test.YtgncagjobmbmaaaIrHas
set_option linter.unusedSimpArgs false
set_option linter.unusedVariables false
namespace Go.Cat
variable {K:Nat→List D→List D→Prop}
theorem putB_I2 {x:List Int}:putB 3 (LI x,1)=true:=by simp [putB,LI,D.one,depB,D.flat]
theorem putB_l2:putB 3 (.l [],1)=true:=by simp [putB,D.one,depB,D.flat]
end Go.Cat
