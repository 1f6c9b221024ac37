/-
 Claims compared and copied.
-/
import Derived.Test.YtfoiofhilbdlaaaPfSrt
import Derived.Test.YtfoiofhilbdlaaaIrHas
set_option linter.unusedSimpArgs false
set_option linter.unusedVariables false
namespace Go.Cat
variable {K:Nat→List D→List D→Prop}
end Go.Cat
