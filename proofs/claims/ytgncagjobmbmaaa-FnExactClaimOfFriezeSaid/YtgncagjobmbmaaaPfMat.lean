/-
 Matchings: partners of points, crossings, loops.
-/
import Derived.Test.YtgncagjobmbmaaaPfHh
import Derived.Test.YtgncagjobmbmaaaPfIn
import Derived.Test.YtgncagjobmbmaaaIrHas
set_option linter.unusedSimpArgs false
set_option linter.unusedVariables false
namespace Go.Cat
variable {K:Nat→List D→List D→Prop}
def mtP (m:List Int) (i:Nat):Prop:=∀ j:Nat,j<i→inR 0 ((m.length:Int)-1) (atI m j)=true∧atI m j≠j∧atI m (atI m j)=j
instance {m:List Int} {i:Nat}:Decidable (mtP m i):=by unfold mtP; infer_instance
end Go.Cat
