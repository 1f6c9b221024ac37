/-
  Drawn paths.
-/
import Derived.Test.YtdifmcppfcbgdaaPfDraw
import Derived.Test.YtdifmcppfcbgdaaIrAllA
import Derived.Test.YtdifmcppfcbgdaaPfRankU
import Derived.Test.YtdifmcppfcbgdaaPfAp
namespace Go.Cat
variable {K : Nat → List D → List D → Prop}

end Go.Cat

/-
  Lists of paths in order, peaks, and the numbers of Narayana.
-/
namespace Go.Cat
variable {K : Nat → List D → List D → Prop}
set_option maxRecDepth 100000

end Go.Cat

