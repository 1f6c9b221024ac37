/-
 Sorting of rows: insertion, as the library does it for short lists.
-/
import Derived.Test.YtfoiofhilbdlaaaPfIn
import Derived.Test.YtfoiofhilbdlaaaIrHas
import Derived.Test.YtfoiofhilbdlaaaCatFour
set_option linter.unusedSimpArgs false
set_option linter.unusedVariables false
namespace Go.Cat
variable {K:Nat→List D→List D→Prop}
end Go.Cat
namespace Go.Cat
variable {K:Nat→List D→List D→Prop}
def digs:Nat→List Nat
 | 0=>[]
 | n+1=>digs ((n+1) / 10)++[48+(n+1) % 10]
decreasing_by omega
end Go.Cat
