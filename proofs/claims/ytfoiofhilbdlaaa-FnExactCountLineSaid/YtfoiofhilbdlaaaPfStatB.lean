/-
 Runs at the ends, depth of brackets.
-/
import Derived.Test.YtfoiofhilbdlaaaPfStat
import Derived.Test.YtfoiofhilbdlaaaPfIn
import Derived.Test.YtfoiofhilbdlaaaIrHas
set_option linter.unusedSimpArgs false
set_option linter.unusedVariables false
namespace Go.Cat
variable {K:Nat→List D→List D→Prop}
end Go.Cat
namespace Go.Cat
variable {K:Nat→List D→List D→Prop}
def permP (p:List Int) (i:Nat):Prop:=∀ j:Nat,j<i→inR 0 ((p.length:Int)-1) (atI p j)=true∧∀ k:Nat,k<j→atI p k≠atI p j
instance {p:List Int} {i:Nat}:Decidable (permP p i):=by unfold permP; infer_instance
end Go.Cat
