/-
 Objects of paths as texts: WriteAs of both sides.
-/
import Derived.Test.YtihgdjeahjfhfaaGreatPfMWalk
import Derived.Test.YtihgdjeahjfhfaaGreatPfTri2
import Derived.Test.YtihgdjeahjfhfaaGreatIrHas
import Derived.Test.YtihgdjeahjfhfaaGreatPfPart
import Derived.Test.YtihgdjeahjfhfaaGreatPfPath
import Derived.Test.YtihgdjeahjfhfaaGreatPfSort
import Derived.Test.YtihgdjeahjfhfaaGreatPfBT
import Derived.Test.YtihgdjeahjfhfaaGreatPfRankB
set_option linter.unusedSimpArgs false
set_option linter.unusedVariables false
namespace Go.Cat
variable {K:Nat→List D→List D→Prop}
end Go.Cat
namespace Go.Cat
variable {K:Nat→List D→List D→Prop}
end Go.Cat
namespace Go.Cat
variable {K:Nat→List D→List D→Prop}
end Go.Cat
namespace Go.Cat
variable {K:Nat→List D→List D→Prop}
end Go.Cat
namespace Go.Cat
variable {K:Nat→List D→List D→Prop}
end Go.Cat
