/-
  Permutations.
-/
import Derived.Test.YtdifmcppfcbgdaaPfIn
import Derived.Test.YtdifmcppfcbgdaaIrAllA
namespace Go.Cat
variable {K : Nat → List D → List D → Prop}

/-- The first i numbers are within bounds, and no two of them are equal. -/
def permP (p : List Int) (i : Nat) : Prop := ∀ j : Nat, j < i → inR 0 ((p.length : Int) - 1) (atI p j) = true ∧ ∀ k : Nat, k < j → atI p k ≠ atI p j
instance {p : List Int} {i : Nat} : Decidable (permP p i) := by unfold permP; infer_instance
theorem copyInts_ok [Has K 75 ir_impl_copyInts] {p : List Int} (h : p.length ≤ 1000000000) : K 75 [LI p] [LI p] := by
  refine body_by (f := ir_impl_copyInts) rfl ?_; simp only [ir_impl_copyInts]
  simp (disch := first | omega | (simp only [vl]; omega)) only [vcd, LI_nil]
end Go.Cat

