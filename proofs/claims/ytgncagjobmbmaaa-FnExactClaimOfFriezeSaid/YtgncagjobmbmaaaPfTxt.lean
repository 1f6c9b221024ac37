/-
 Texts of numbers, diagonals.
-/
import Derived.Test.YtgncagjobmbmaaaPfFmt
import Derived.Test.YtgncagjobmbmaaaPfClaim
import Derived.Test.YtgncagjobmbmaaaIrHas
set_option linter.unusedSimpArgs false
set_option linter.unusedVariables false
namespace Go.Cat
variable {K:Nat→List D→List D→Prop}
def glT (sep:List Nat) (ws:List (List Nat)):Nat→List Nat
 | 0=>[]
 | i+1=>glT sep ws i++(if 0<i then sep else [])++atS ws i
def glue (sep:List Nat) (ws:List (List Nat)):List Nat:=glT sep ws ws.length
end Go.Cat
