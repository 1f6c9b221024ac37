/-
  Drawn paths.
-/
import Derived.Test.YtjofmcgipblojaaPfDraw
import Derived.Test.YtjofmcgipblojaaIrAllA
namespace Go.Cat
variable {K : Nat → List D → List D → Prop}

end Go.Cat

