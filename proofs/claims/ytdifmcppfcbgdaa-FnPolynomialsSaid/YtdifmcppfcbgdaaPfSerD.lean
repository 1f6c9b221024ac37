/-
  Series: inverses.
-/
import Derived.Test.YtdifmcppfcbgdaaPfSerB
import Derived.Test.YtdifmcppfcbgdaaIrAllA
namespace Go.Cat
variable {K : Nat → List D → List D → Prop}

end Go.Cat

/-
  Series: reversion.
-/
namespace Go.Cat
variable {K : Nat → List D → List D → Prop}

end Go.Cat

