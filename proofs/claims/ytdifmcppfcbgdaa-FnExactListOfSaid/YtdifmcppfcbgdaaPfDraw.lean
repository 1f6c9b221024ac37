/-
  The source of drawn arguments: a cursor over the given bytes.
-/
import Derived.Test.YtdifmcppfcbgdaaCatFour
import Derived.Test.YtdifmcppfcbgdaaIrAllA
namespace Go.Cat
variable {K : Nat → List D → List D → Prop}

end Go.Cat

