/-
 Counted words, by running.
-/
import Derived.Test.YthoilpmggmenbaaGreatPfCat
set_option linter.unusedSimpArgs false
set_option linter.unusedVariables false
namespace Go.Cat
variable{K:Nat->List D->List D->Prop}
set_option maxRecDepth 100000
end Go.Cat
