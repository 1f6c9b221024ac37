/-
  The path of a permutation, inversions, drawn permutations: the walks.
-/
import Derived.Test.YtdifmcppfcbgdaaPfM231
import Derived.Test.YtdifmcppfcbgdaaPfOut
import Derived.Test.YtdifmcppfcbgdaaPfDrawP
namespace Go.Cat
variable {K : Nat → List D → List D → Prop}
set_option maxRecDepth 100000

end Go.Cat

