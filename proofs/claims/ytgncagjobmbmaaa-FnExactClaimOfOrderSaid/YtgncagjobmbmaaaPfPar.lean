/-
 Partners in a path: the letter that closes what another one opens.
-/
import Derived.Test.YtgncagjobmbmaaaPfHh
set_option linter.unusedSimpArgs false
set_option linter.unusedVariables false
namespace Go.Cat
variable {K:Nat→List D→List D→Prop}
end Go.Cat
