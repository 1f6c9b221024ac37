/-
 Ballot numbers: by running, the reference's.
-/
import Derived.Test.YtihgdjeahjfhfaaGreatPfPart
import Derived.Test.YtihgdjeahjfhfaaGreatIrHas
import Derived.Test.YtihgdjeahjfhfaaGreatPfSort
import Derived.Test.YtihgdjeahjfhfaaGreatPfPath
import Derived.Test.YtihgdjeahjfhfaaGreatCatFour
import Derived.Test.YtihgdjeahjfhfaaGreatPfStat
set_option linter.unusedSimpArgs false
set_option linter.unusedVariables false
namespace Go.Cat
variable {K:Nat→List D→List D→Prop}
set_option maxRecDepth 100000
end Go.Cat
namespace Go.Cat
variable {K:Nat→List D→List D→Prop}
set_option maxRecDepth 100000
end Go.Cat
namespace Go.Cat
variable {K:Nat→List D→List D→Prop}
set_option maxRecDepth 100000
end Go.Cat
namespace Go.Cat
variable {K:Nat→List D→List D→Prop}
set_option maxRecDepth 100000
end Go.Cat
namespace Go.Cat
variable {K:Nat→List D→List D→Prop}
end Go.Cat
namespace Go.Cat
variable {K:Nat→List D→List D→Prop}
end Go.Cat
namespace Go.Cat
variable {K:Nat→List D→List D→Prop}
set_option maxRecDepth 100000
end Go.Cat
namespace Go.Cat
variable {K:Nat→List D→List D→Prop}
end Go.Cat
