/-
 Claims written into and looked at again; the path of a permutation, by places.
-/
import Derived.Test.YtfoiofhilbdlaaaPfClaim
import Derived.Test.YtfoiofhilbdlaaaPfM231
import Derived.Test.YtfoiofhilbdlaaaIrHas
set_option linter.unusedSimpArgs false
set_option linter.unusedVariables false
namespace Go.Cat
variable {K:Nat→List D→List D→Prop}
set_option maxRecDepth 100000
end Go.Cat
