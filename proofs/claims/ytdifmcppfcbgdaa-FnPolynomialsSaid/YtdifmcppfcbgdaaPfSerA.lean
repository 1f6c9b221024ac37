/-
  Series: products.
-/
import Derived.Test.YtdifmcppfcbgdaaPfIn
import Derived.Test.YtdifmcppfcbgdaaIrAllA
namespace Go.Cat
variable {K : Nat → List D → List D → Prop}

end Go.Cat

