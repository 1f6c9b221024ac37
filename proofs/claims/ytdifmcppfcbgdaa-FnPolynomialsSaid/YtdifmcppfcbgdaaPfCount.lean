/-
  Counted words, by running.
-/
import Derived.Test.YtdifmcppfcbgdaaPfCat
import Derived.Test.YtdifmcppfcbgdaaIrAllA
namespace Go.Cat
variable {K : Nat → List D → List D → Prop}
set_option maxRecDepth 100000

abbrev tcwi : List (Nat × IF) := [(10, ir_impl_CountWords), (23, ir_impl_within), (25, ir_impl_choose)]
end Go.Cat

