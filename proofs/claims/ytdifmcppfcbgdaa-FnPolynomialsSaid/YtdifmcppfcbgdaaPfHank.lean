/-
  Determinants.
-/
import Derived.Test.YtdifmcppfcbgdaaPfSerB
import Derived.Test.YtdifmcppfcbgdaaPfPerm
import Derived.Test.YtdifmcppfcbgdaaPfSerD
import Derived.Test.YtdifmcppfcbgdaaIrAllA
namespace Go.Cat
variable {K : Nat → List D → List D → Prop}

end Go.Cat

/-
  The Hankel determinant: the law.
-/
namespace Go.Cat
variable {K : Nat → List D → List D → Prop}

end Go.Cat

