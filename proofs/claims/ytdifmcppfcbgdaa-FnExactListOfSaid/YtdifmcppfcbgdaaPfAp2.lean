/-
  Lists of all paths: the closure that makes them, and what stands in them.
-/
import Derived.Test.YtdifmcppfcbgdaaPfAp
import Derived.Test.YtdifmcppfcbgdaaPfBT
import Derived.Test.YtdifmcppfcbgdaaPfRankP
namespace Go.Cat
set_option linter.unusedSimpArgs false
variable {K : Nat → List D → List D → Prop}

end Go.Cat

