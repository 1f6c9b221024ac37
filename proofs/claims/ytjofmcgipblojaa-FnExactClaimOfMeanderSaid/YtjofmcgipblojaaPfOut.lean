/-
  A path works a stack.
-/
import Derived.Test.YtjofmcgipblojaaPfSort
import Derived.Test.YtjofmcgipblojaaPfPath
import Derived.Test.YtjofmcgipblojaaIrAllA
namespace Go.Cat
variable {K : Nat → List D → List D → Prop}

end Go.Cat

