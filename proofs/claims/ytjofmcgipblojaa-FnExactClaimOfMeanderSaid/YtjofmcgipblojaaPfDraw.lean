/-
  The source of drawn arguments: a cursor over the given bytes.
-/
import Derived.Test.YtjofmcgipblojaaCatFour
import Derived.Test.YtjofmcgipblojaaIrAllA
namespace Go.Cat
variable {K : Nat → List D → List D → Prop}

end Go.Cat

