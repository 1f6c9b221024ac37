/-
 Partitions of a path: blocks, numbers of blocks.
-/
import Derived.Test.YtgncagjobmbmaaaPfStat
import Derived.Test.YtgncagjobmbmaaaPfMatP
import Derived.Test.YtgncagjobmbmaaaPfClaim
import Derived.Test.YtgncagjobmbmaaaIrHas
set_option linter.unusedSimpArgs false
set_option linter.unusedVariables false
namespace Go.Cat
variable {K:Nat→List D→List D→Prop}
def nxF (p:List Int):Nat→Int
 | 0=>0
 | i+1=>max (nxF p i) (atI p i+1)
def ptV (p:List Int) (i:Nat):Prop:=∀ j:Nat,j<i→inR 0 (nxF p j) (atI p j)=true
instance {p:List Int} {i:Nat}:Decidable (ptV p i):=by unfold ptV; infer_instance
end Go.Cat
