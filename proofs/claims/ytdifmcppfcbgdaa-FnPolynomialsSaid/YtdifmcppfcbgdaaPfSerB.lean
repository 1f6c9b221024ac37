/-
  Series: binomials and Catalan numbers by running; sums.
-/
import Derived.Test.YtdifmcppfcbgdaaPfSerA
import Derived.Test.YtdifmcppfcbgdaaPfNum
import Derived.Test.YtdifmcppfcbgdaaPfCat
import Derived.Test.YtdifmcppfcbgdaaIrAllA
import Derived.Test.YtdifmcppfcbgdaaPfH
namespace Go.Cat
variable {K : Nat → List D → List D → Prop}
end Go.Cat

