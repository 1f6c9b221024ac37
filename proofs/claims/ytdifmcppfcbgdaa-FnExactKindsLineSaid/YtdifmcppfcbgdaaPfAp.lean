/-
  Lists of all paths, by running.
-/
import Derived.Test.YtdifmcppfcbgdaaPfPath
import Derived.Test.YtdifmcppfcbgdaaPfIn
import Derived.Test.YtdifmcppfcbgdaaPfNum
import Derived.Test.YtdifmcppfcbgdaaIrAllA
namespace Go.Cat
variable {K : Nat → List D → List D → Prop}
set_option maxRecDepth 100000

end Go.Cat

