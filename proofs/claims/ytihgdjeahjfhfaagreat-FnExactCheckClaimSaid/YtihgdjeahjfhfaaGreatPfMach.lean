/-
 Stack sorting, bubbles, patterns.
-/
import Derived.Test.YtihgdjeahjfhfaaGreatPfPerm
import Derived.Test.YtihgdjeahjfhfaaGreatPfH
import Derived.Test.YtihgdjeahjfhfaaGreatIrHas
set_option linter.unusedSimpArgs false
set_option linter.unusedVariables false
namespace Go.Cat
variable {K:Nat→List D→List D→Prop}
def pat (p:List Int) (i j k:Nat):Prop:=i<j∧j<k∧k<p.length∧atI p k<atI p i∧atI p i<atI p j
def first (p:List Int) (t:Nat×Nat×Nat):Prop:=pat p t.1 t.2.1 t.2.2∧∀ i j k,pat p i j k→¬ (i<t.1∨(i=t.1∧(j<t.2.1∨(j=t.2.1∧k<t.2.2))))
end Go.Cat
namespace Go.Cat
variable {K:Nat→List D→List D→Prop}
set_option maxRecDepth 100000
end Go.Cat
