/-
  The path of a permutation, inversions, drawn permutations: the walks.
-/
import Derived.Test.YtjofmcgipblojaaPfM231
import Derived.Test.YtjofmcgipblojaaPfOut
import Derived.Test.YtjofmcgipblojaaPfDrawP
namespace Go.Cat
variable {K : Nat → List D → List D → Prop}
set_option maxRecDepth 100000

end Go.Cat

