/-
  Stack sorting, once.
-/
import Derived.Test.YtdifmcppfcbgdaaPfPerm
import Derived.Test.YtdifmcppfcbgdaaPfH
import Derived.Test.YtdifmcppfcbgdaaIrAllA
namespace Go.Cat
variable {K : Nat → List D → List D → Prop}

theorem at_last {t : List Int} {y : Int} : atI (t ++ [y]) t.length = y := by simp [atI]
theorem sub_init {t : List Int} {y : Int} : sub (t ++ [y]) 0 t.length = t := by simp [sub]

end Go.Cat

