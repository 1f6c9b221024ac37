/-
 Numbers of paths: heights, returns, area, peaks, places of valleys, runs, depth.
-/
import Derived.Test.YtgncagjobmbmaaaPfMat
import Derived.Test.YtgncagjobmbmaaaIrHas
set_option linter.unusedSimpArgs false
set_option linter.unusedVariables false
namespace Go.Cat
variable {K:Nat→List D→List D→Prop}
end Go.Cat
