/-
 The pattern 231, there or not: both walks.
-/
import Derived.Test.YtfoiofhilbdlaaaPfBin
import Derived.Test.YtfoiofhilbdlaaaPfSort
import Derived.Test.YtfoiofhilbdlaaaPfPath
import Derived.Test.YtfoiofhilbdlaaaIrHas
import Derived.Test.YtfoiofhilbdlaaaPfRank
set_option linter.unusedSimpArgs false
set_option linter.unusedVariables false
namespace Go.Cat
variable {K:Nat→List D→List D→Prop}
set_option maxRecDepth 100000
end Go.Cat
namespace Go.Cat
variable {K:Nat→List D→List D→Prop}
end Go.Cat
namespace Go.Cat
variable {K:Nat→List D→List D→Prop}
set_option maxRecDepth 100000
end Go.Cat
namespace Go.Cat
variable {K:Nat→List D→List D→Prop}
set_option maxRecDepth 100000
end Go.Cat
