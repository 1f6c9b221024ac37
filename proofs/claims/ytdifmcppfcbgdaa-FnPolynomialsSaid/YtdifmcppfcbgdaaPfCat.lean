/-
  Catalan numbers by running.
-/
import Derived.Test.YtdifmcppfcbgdaaPfNum
namespace Go.Cat
variable {K : Nat → List D → List D → Prop}
set_option maxRecDepth 100000

end Go.Cat

