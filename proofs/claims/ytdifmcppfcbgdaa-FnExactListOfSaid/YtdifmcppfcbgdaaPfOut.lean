/-
  A path works a stack.
-/
import Derived.Test.YtdifmcppfcbgdaaPfSort
import Derived.Test.YtdifmcppfcbgdaaPfPath
import Derived.Test.YtdifmcppfcbgdaaIrAllA
namespace Go.Cat
variable {K : Nat → List D → List D → Prop}

end Go.Cat

