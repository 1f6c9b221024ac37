/-
 Trees of weights; meets and joins, on both sides.
-/
import Derived.Test.YtfoiofhilbdlaaaPfOrdI
import Derived.Test.YtfoiofhilbdlaaaPfOrdS
import Derived.Test.YtfoiofhilbdlaaaPfWayM
import Derived.Test.YtfoiofhilbdlaaaPfClaim
import Derived.Test.YtfoiofhilbdlaaaIrHas
set_option linter.unusedSimpArgs false
set_option linter.unusedVariables false
namespace Go.Cat
variable {K:Nat→List D→List D→Prop}
end Go.Cat
