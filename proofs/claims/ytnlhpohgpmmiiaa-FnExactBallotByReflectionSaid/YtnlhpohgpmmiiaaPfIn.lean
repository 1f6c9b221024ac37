import Derived.Test.YtnlhpohgpmmiiaaCatWp
import Derived.Test.YtnlhpohgpmmiiaaIrA
namespace Go.Cat
variable {K : Nat → List D → List D → Prop}

theorem within_ok [Has K 23 ir_impl_within] (x a b : Int) : K 23 [.n x, .n a, .n b] [.b (decide (a ≤ x) && decide (x ≤ b))] := by
  refine Has.h (f := ir_impl_within) _ _ ⟨rfl, ?_⟩
  by_cases h : a ≤ x <;> simp [ir_impl_within, h]

theorem l1In_ok [Has K 22 ir_spec_l1In] (x a b : Int) : K 22 [.n x, .n a, .n b] [.b (decide (a ≤ x) && decide (x ≤ b))] := by
  refine Has.h (f := ir_spec_l1In) _ _ ⟨rfl, ?_⟩
  by_cases h : a ≤ x <;> simp [ir_spec_l1In, h]

theorem within_t [Has K 23 ir_impl_within] {x a b : Int} (h : a ≤ x ∧ x ≤ b) : K 23 [.n x, .n a, .n b] [.b true] := by simpa [h] using within_ok (K := K) x a b
theorem within_f [Has K 23 ir_impl_within] {x a b : Int} (h : ¬ (a ≤ x ∧ x ≤ b)) : K 23 [.n x, .n a, .n b] [.b false] := by
  have e : (decide (a ≤ x) && decide (x ≤ b)) = false := by simpa using h
  simpa [e] using within_ok (K := K) x a b

theorem l1In_t [Has K 22 ir_spec_l1In] {x a b : Int} (h : a ≤ x ∧ x ≤ b) : K 22 [.n x, .n a, .n b] [.b true] := by simpa [h] using l1In_ok (K := K) x a b
theorem l1In_f [Has K 22 ir_spec_l1In] {x a b : Int} (h : ¬ (a ≤ x ∧ x ≤ b)) : K 22 [.n x, .n a, .n b] [.b false] := by
  have e : (decide (a ≤ x) && decide (x ≤ b)) = false := by simpa using h
  simpa [e] using l1In_ok (K := K) x a b

end Go.Cat
