/-
  Series: binomial sums, the Catalan series, inverses.
-/
import Derived.Test.YtdifmcppfcbgdaaPfSerB
namespace Go.Cat
variable {K : Nat → List D → List D → Prop}

end Go.Cat

