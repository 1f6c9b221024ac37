/-
  Paths and their ranks: the plain law, and the walks.
-/
import Derived.Test.YtdifmcppfcbgdaaPfRankB
import Derived.Test.YtdifmcppfcbgdaaPfPath
import Derived.Test.YtdifmcppfcbgdaaPfCat
namespace Go.Cat
variable {K : Nat → List D → List D → Prop}
set_option maxRecDepth 100000

theorem walkH_ge : ∀ {w : List Nat} {h k : Int}, walkH w h = some k → h ≤ k + w.length
  | [], h, k, e => by simp only [walkH, Option.some.injEq] at e; subst e; simp
  | c :: w, h, k, e => by
    simp only [walkH] at e
    simp only [List.length_cons]
    split at e
    · have := walkH_ge e; omega
    · split at e
      · split at e
        · cases e
        · have := walkH_ge e; omega
      · cases e

end Go.Cat

