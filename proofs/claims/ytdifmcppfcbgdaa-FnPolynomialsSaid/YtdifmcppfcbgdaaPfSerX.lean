/-
  Series: what inverses and reversions are.
-/
import Derived.Test.YtdifmcppfcbgdaaPfSerD
import Derived.Test.YtdifmcppfcbgdaaPfSerC
import Derived.Test.YtdifmcppfcbgdaaPfHank
namespace Go.Cat
variable {K : Nat → List D → List D → Prop}
set_option maxRecDepth 100000

end Go.Cat

