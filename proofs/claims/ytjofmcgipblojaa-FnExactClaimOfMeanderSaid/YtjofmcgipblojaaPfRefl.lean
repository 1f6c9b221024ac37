/-
  Words and their reflections.
-/
import Derived.Test.YtjofmcgipblojaaPfPath
import Derived.Test.YtjofmcgipblojaaIrAllA
namespace Go.Cat
variable {K : Nat → List D → List D → Prop}

def allud (w : List Nat) : Bool := w.all fun c => decide (c = 117 ∨ c = 100)
theorem allud_cons {c : Nat} {w : List Nat} : allud (c :: w) = (decide (c = 117 ∨ c = 100) && allud w) := rfl
def only (a b : Nat) (w : List Nat) : Bool := w.all fun x => decide (x = a ∨ x = b)
end Go.Cat

