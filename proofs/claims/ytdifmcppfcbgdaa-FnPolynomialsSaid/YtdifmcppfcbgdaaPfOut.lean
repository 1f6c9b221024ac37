/-
  A path works a stack.
-/
import Derived.Test.YtdifmcppfcbgdaaPfSort
import Derived.Test.YtdifmcppfcbgdaaPfPath
import Derived.Test.YtdifmcppfcbgdaaIrAllA
namespace Go.Cat
variable {K : Nat → List D → List D → Prop}

theorem dyck_walk {w : List Nat} (h : dyck w = true) : walkH w 0 = some 0 ∧ w.length ≤ 16 := by simpa [dyck] using h
end Go.Cat

