/-
  Drawn permutations.
-/
import Derived.Test.YtjofmcgipblojaaPfMWalk
namespace Go.Cat
variable {K : Nat → List D → List D → Prop}
set_option maxRecDepth 100000

end Go.Cat

