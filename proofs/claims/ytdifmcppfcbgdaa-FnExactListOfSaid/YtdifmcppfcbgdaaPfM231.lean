/-
  The pattern 231, there or not: both walks.
-/
import Derived.Test.YtdifmcppfcbgdaaPfMach
namespace Go.Cat
variable {K : Nat → List D → List D → Prop}
set_option maxRecDepth 100000

end Go.Cat

