/-
 What the laws' own helpers do.
-/
import Derived.Test.YtgncagjobmbmaaaCatFour
import Derived.Test.YtgncagjobmbmaaaIrHas
set_option linter.unusedSimpArgs false
set_option linter.unusedVariables false
namespace Go.Cat
variable {K:Nat→List D→List D→Prop}
def digs:Nat→List Nat
 | 0=>[]
 | n+1=>digs ((n+1) / 10)++[48+(n+1) % 10]
decreasing_by omega
end Go.Cat
