/-
 Paths and their ranks: the plain law, and the walks.
-/
import Derived.Test.YtfoiofhilbdlaaaPfPart
import Derived.Test.YtfoiofhilbdlaaaPfPath
import Derived.Test.YtfoiofhilbdlaaaPfCat
import Derived.Test.YtfoiofhilbdlaaaCatFour
import Derived.Test.YtfoiofhilbdlaaaIrHas
import Derived.Test.YtfoiofhilbdlaaaPfAp
set_option linter.unusedSimpArgs false
set_option linter.unusedVariables false
namespace Go.Cat
variable {K:Nat→List D→List D→Prop}
set_option maxRecDepth 100000
end Go.Cat
namespace Go.Cat
variable {K:Nat→List D→List D→Prop}
set_option maxRecDepth 100000
end Go.Cat
namespace Go.Cat
variable {K:Nat→List D→List D→Prop}
end Go.Cat
namespace Go.Cat
variable {K:Nat→List D→List D→Prop}
end Go.Cat
namespace Go.Cat
variable {K:Nat→List D→List D→Prop}
set_option maxRecDepth 100000
end Go.Cat
