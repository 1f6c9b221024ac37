/-
  What the laws' own helpers do.
-/
import Derived.Test.YtdifmcppfcbgdaaCatFour
import Derived.Test.YtdifmcppfcbgdaaIrAllA
namespace Go.Cat
variable {K : Nat → List D → List D → Prop}

/-- Decimal digits. -/
def digs : Nat → List Nat
  | 0 => []
  | n + 1 => digs ((n + 1) / 10) ++ [48 + (n + 1) % 10]
decreasing_by omega
end Go.Cat

