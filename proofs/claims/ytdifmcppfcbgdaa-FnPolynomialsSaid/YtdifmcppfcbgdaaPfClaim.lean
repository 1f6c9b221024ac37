/-
  Claims compared and copied.
-/
import Derived.Test.YtdifmcppfcbgdaaPfH
import Derived.Test.YtdifmcppfcbgdaaIrAllA
namespace Go.Cat
set_option linter.unusedSimpArgs false
variable {K : Nat → List D → List D → Prop}

theorem atL_in {m : List (List Int)} {i : Nat} (h : i < m.length) : atL m i ∈ m := by simp [atL, h]

end Go.Cat

