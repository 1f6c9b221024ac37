/-
 Partitions of a path: blocks, numbers of blocks.
-/
import Derived.Test.YtihgdjeahjfhfaaGreatPfStat
import Derived.Test.YtihgdjeahjfhfaaGreatPfMatP
import Derived.Test.YtihgdjeahjfhfaaGreatPfClaim
import Derived.Test.YtihgdjeahjfhfaaGreatIrHas
import Derived.Test.YtihgdjeahjfhfaaGreatPfH
import Derived.Test.YtihgdjeahjfhfaaGreatPfIn
import Derived.Test.YtihgdjeahjfhfaaGreatPfSort
set_option linter.unusedSimpArgs false
set_option linter.unusedVariables false
namespace Go.Cat
variable {K:Nat→List D→List D→Prop}
def nxF (p:List Int):Nat→Int
 | 0=>0
 | i+1=>max (nxF p i) (atI p i+1)
def ptV (p:List Int) (i:Nat):Prop:=∀ j:Nat,j<i→inR 0 (nxF p j) (atI p j)=true
instance {p:List Int} {i:Nat}:Decidable (ptV p i):=by unfold ptV; infer_instance
end Go.Cat
namespace Go.Cat
variable {K:Nat→List D→List D→Prop}
end Go.Cat
namespace Go.Cat
variable {K:Nat→List D→List D→Prop}
end Go.Cat
namespace Go.Cat
variable {K:Nat→List D→List D→Prop}
set_option maxRecDepth 100000
end Go.Cat
