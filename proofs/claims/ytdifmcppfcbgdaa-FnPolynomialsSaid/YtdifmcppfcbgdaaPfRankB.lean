/-
  Ballot numbers: by running, the reference's.
-/
import Derived.Test.YtdifmcppfcbgdaaPfRankA
import Derived.Test.YtdifmcppfcbgdaaIrAllA
namespace Go.Cat
variable {K : Nat → List D → List D → Prop}
set_option maxRecDepth 100000

end Go.Cat

