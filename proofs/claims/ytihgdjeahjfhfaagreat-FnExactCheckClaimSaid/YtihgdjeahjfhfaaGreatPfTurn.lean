/-
 Turns of matchings, of partitions, of triangulations.
-/
import Derived.Test.YtihgdjeahjfhfaaGreatPfRdG
import Derived.Test.YtihgdjeahjfhfaaGreatPfMat
import Derived.Test.YtihgdjeahjfhfaaGreatPfPart
import Derived.Test.YtihgdjeahjfhfaaGreatPfSrt
import Derived.Test.YtihgdjeahjfhfaaGreatPfTri2
import Derived.Test.YtihgdjeahjfhfaaGreatIrHas
set_option linter.unusedSimpArgs false
set_option linter.unusedVariables false
namespace Go.Cat
variable {K:Nat→List D→List D→Prop}
theorem LL_toQ {rs:List (List Int)} {j:Int} (h:0≤j∧j≤rs.length):subD (LL rs) none (some (.n j))=some (LL (sub rs 0 j)):=sub_map LI bound_none (bound_some h.1) (by omega) (by omega)
end Go.Cat
