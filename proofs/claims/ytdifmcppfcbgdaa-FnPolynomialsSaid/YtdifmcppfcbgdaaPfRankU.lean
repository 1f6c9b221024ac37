/-
  The path of a rank: the walks.
-/
import Derived.Test.YtdifmcppfcbgdaaPfRank
namespace Go.Cat
variable {K : Nat → List D → List D → Prop}
set_option maxRecDepth 100000

end Go.Cat

