/-
 Triangulations: the triangles that the reference finds are those of the tree; by the kernel, over all triangulations.
-/
import Derived.Test.YthoilpmggmenbaaGreatPfLRank
set_option linter.unusedSimpArgs false
set_option linter.unusedVariables false
namespace Go.Cat
variable{K:Nat->List D->List D->Prop}
set_option maxRecDepth 100000
end Go.Cat
