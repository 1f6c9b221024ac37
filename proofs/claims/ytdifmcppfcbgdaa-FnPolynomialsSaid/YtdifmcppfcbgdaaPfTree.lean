/-
  Binary trees as texts.
-/
import Derived.Test.YtdifmcppfcbgdaaPfIn
import Derived.Test.YtdifmcppfcbgdaaPfPath
import Derived.Test.YtdifmcppfcbgdaaIrAllA
namespace Go.Cat
set_option linter.unusedSimpArgs false
variable {K : Nat → List D → List D → Prop}

/-- Binary trees. -/
inductive BT
  | lf
  | nd (l r : BT)
/-- As data of the program. -/
def BT.d : BT → D
  | .lf => .z
  | .nd l r => .p [l.d, r.d]
/-- As a text. -/
def BT.t : BT → List Nat
  | .lf => [46]
  | .nd l r => 40 :: (l.t ++ (r.t ++ [41]))
/-- Its nodes. -/
def BT.n : BT → Nat
  | .lf => 0
  | .nd l r => l.n + r.n + 1
theorem BT.tl : ∀ x : BT, x.t.length = 3 * x.n + 1
  | .lf => rfl
  | .nd l r => by
    have := BT.tl l
    have := BT.tl r
    simp only [BT.t, BT.n, List.length_cons, List.length_append, List.length_nil]; omega
theorem BT.known_d {x : BT} : known x.d = some x.d := by cases x <;> rfl
theorem BT.one_d {x : BT} : x.d.one = true := by cases x <;> rfl
/-- A text begins with at most one tree. -/
theorem BT.pre : ∀ {x y : BT} {a b : List Nat}, x.t ++ a = y.t ++ b → x = y ∧ a = b
  | .lf, .lf, a, b, h => by simpa [BT.t] using h
  | .lf, .nd _ _, a, b, h => by simp [BT.t] at h
  | .nd _ _, .lf, a, b, h => by simp [BT.t] at h
  | .nd l r, .nd l' r', a, b, h => by
    simp only [BT.t, List.cons_append, List.append_assoc, List.cons.injEq, true_and] at h
    obtain ⟨h1, h2⟩ := BT.pre h
    obtain ⟨h3, h4⟩ := BT.pre h2
    subst h1; subst h3
    simpa using h4
theorem BT.inj {x y : BT} (h : x.t = y.t) : x = y := (BT.pre (a := []) (b := []) (by rw [h])).1

end Go.Cat

