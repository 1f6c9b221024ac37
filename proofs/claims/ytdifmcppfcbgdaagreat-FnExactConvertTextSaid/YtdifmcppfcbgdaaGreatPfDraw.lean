/-
 The source of drawn arguments: a cursor over the given bytes.
-/
import Derived.Test.YtdifmcppfcbgdaaGreatCatThree
import Derived.Test.YtdifmcppfcbgdaaGreatIrHas
import Derived.Test.YtdifmcppfcbgdaaGreatPfRankU
import Derived.Test.YtdifmcppfcbgdaaGreatPfNum
set_option linter.unusedSimpArgs false
set_option linter.unusedVariables false
namespace Go.Cat
variable {K:Nat→List D→List D→Prop}
end Go.Cat
namespace Go.Cat
variable {K:Nat→List D→List D→Prop}
end Go.Cat
namespace Go.Cat
variable {K:Nat→List D→List D→Prop}
set_option maxRecDepth 100000
def szR (w:List Nat):Int:=if dyck w=true then (w.length:Int) / 2 else -1
end Go.Cat
