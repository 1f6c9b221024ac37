/-
  Lists of paths in order, peaks, and the numbers of Narayana.
-/
import Derived.Test.YtdifmcppfcbgdaaPfRankU
import Derived.Test.YtdifmcppfcbgdaaPfAp
import Derived.Test.YtdifmcppfcbgdaaPfDrawP
import Derived.Test.YtdifmcppfcbgdaaIrAllA
namespace Go.Cat
variable {K : Nat → List D → List D → Prop}
set_option maxRecDepth 100000

end Go.Cat

