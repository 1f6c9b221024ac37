/-
 Turns of matchings, of partitions, of triangulations.
-/
import Derived.Test.YtgncagjobmbmaaaPfAp2
import Derived.Test.YtgncagjobmbmaaaPfMat
import Derived.Test.YtgncagjobmbmaaaPfPart
import Derived.Test.YtgncagjobmbmaaaPfSrt
import Derived.Test.YtgncagjobmbmaaaPfTri2
import Derived.Test.YtgncagjobmbmaaaIrHas
set_option linter.unusedSimpArgs false
set_option linter.unusedVariables false
namespace Go.Cat
variable {K:Nat→List D→List D→Prop}
theorem srf_snoc {l:List (List Int)} {x:List Int}:srfF (l++[x])=(insV x (srfF l).reverse).reverse:=by
 simp only [srfF,srtV,List.foldl_append,List.foldl_cons,List.foldl_nil,List.reverse_reverse]
end Go.Cat
