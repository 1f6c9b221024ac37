/-
 Words and their reflections.
-/
import Derived.Test.YtgncagjobmbmaaaPfPath
import Derived.Test.YtgncagjobmbmaaaIrHas
set_option linter.unusedSimpArgs false
set_option linter.unusedVariables false
namespace Go.Cat
variable {K:Nat→List D→List D→Prop}
def only (a b:Nat) (w:List Nat):Bool:=w.all fun x=>decide (x=a∨x=b)
end Go.Cat
