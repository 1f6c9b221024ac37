/-
  Matchings: partners of points, crossings, loops.
-/
import Derived.Test.YtdifmcppfcbgdaaPfPar
import Derived.Test.YtdifmcppfcbgdaaPfIn
import Derived.Test.YtdifmcppfcbgdaaIrAllA
namespace Go.Cat
set_option linter.unusedSimpArgs false
variable {K : Nat → List D → List D → Prop}

/-- The first i points have partners, whose partners they are. -/
def mtP (m : List Int) (i : Nat) : Prop := ∀ j : Nat, j < i → inR 0 ((m.length : Int) - 1) (atI m j) = true ∧ atI m j ≠ j ∧ atI m (atI m j) = j
instance {m : List Int} {i : Nat} : Decidable (mtP m i) := by unfold mtP; infer_instance
/-! ### Crossings -/
def sumU (g : Nat → Nat) : Nat → Nat
  | 0 => 0
  | n + 1 => sumU g n + g n
theorem sumU_le {g : Nat → Nat} {b : Nat} (h : ∀ i, g i ≤ b) : ∀ n, sumU g n ≤ n * b
  | 0 => by simp [sumU]
  | n + 1 => by
    have := sumU_le h n
    have := h n
    simp only [sumU, Nat.succ_mul]; omega
theorem sumU_0 {g : Nat → Nat} : ∀ {n}, (∀ i, i < n → g i = 0) → sumU g n = 0
  | 0, _ => rfl
  | n + 1, h => by
    simp only [sumU]
    rw [sumU_0 fun i hi => h i (by omega), h n (by omega)]
end Go.Cat

