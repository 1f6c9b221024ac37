/-
  Bad words, reflected.
-/
import Derived.Test.YtfjkbocblpjpjaaPfRefl
import Derived.Test.YtfjkbocblpjpjaaIrAllA
namespace Go.Cat
variable {K : Nat → List D → List D → Prop}

def rbR (w : List Nat) : List Nat := if badF w = true then refl w 0 else []
theorem badF_ud {w : List Nat} (h : badF w = true) : allud w = true := by
  simp only [badF, Bool.and_eq_true] at h
  exact h.1.1.2

theorem rb_i [Has K 40 ir_impl_IsBad] [Has K 65 ir_impl_areSteps] [Has K 66 ir_impl_count] [Has K 67 ir_impl_IsDyck] [Has K 77 ir_impl_reflected] [Has K 82 ir_impl_heights] [Has K 83 ir_impl_exchanged] [Has K 108 ir_impl_ReflectBad] {w : List Nat} (h : w.length ≤ 1000000000) : K 108 [.s w] [.s (rbR w), .b (badF w)] := by
  refine body_by (f := ir_impl_ReflectBad) rfl ?_; simp only [ir_impl_ReflectBad]
  simp (disch := first | omega | (simp only [vl]; omega)) only [vcd]
  cases hb : badF w
  · repeat (first | (refine call_by (bad_i (K := K) h) rfl ?_; try simp (disch := first | omega | (simp only [vl]; omega)) only [vcd, hb]))
    simp [rbR, hb]
  · have hu := badF_ud hb
    repeat (first | (refine call_by (bad_i (K := K) h) rfl ?_; try simp (disch := first | omega | (simp only [vl]; omega)) only [vcd, hb]) | (refine call_by (reflected_ok (K := K) h hu) rfl ?_; try simp (disch := first | omega | (simp only [vl]; omega)) only [vcd, hb]))
    simp [rbR, hb]

theorem rb_s [Has K 39 ir_spec_IsBad] [Has K 63 ir_spec_l29Word] [Has K 64 ir_spec_IsDyck] [Has K 76 ir_spec_l29Flip] [Has K 107 ir_spec_ReflectBad] {w : List Nat} (h : w.length ≤ 1000000000) : K 107 [.s w] [.s (rbR w), .b (badF w)] := by
  refine body_by (f := ir_spec_ReflectBad) rfl ?_; simp only [ir_spec_ReflectBad]
  simp (disch := first | omega | (simp only [vl]; omega)) only [vcd]
  cases hb : badF w
  all_goals repeat (first | (refine call_by (bad_s (K := K) h) rfl ?_; try simp (disch := first | omega | (simp only [vl]; omega)) only [vcd, hb]) | (refine call_by (flip_ok (K := K) h) rfl ?_; try simp (disch := first | omega | (simp only [vl]; omega)) only [vcd, hb]))
  all_goals simp [rbR, hb]

theorem rb_law [Has K 39 ir_spec_IsBad] [Has K 40 ir_impl_IsBad] [Has K 63 ir_spec_l29Word] [Has K 64 ir_spec_IsDyck] [Has K 65 ir_impl_areSteps] [Has K 66 ir_impl_count] [Has K 67 ir_impl_IsDyck] [Has K 76 ir_spec_l29Flip] [Has K 77 ir_impl_reflected] [Has K 82 ir_impl_heights] [Has K 83 ir_impl_exchanged] [Has K 90 ir_laws_FnExactReflectBad] [Has K 107 ir_spec_ReflectBad] [Has K 108 ir_impl_ReflectBad] (w : List Nat) : K 90 [.s w] [.b true] := by
  refine body_by (f := ir_laws_FnExactReflectBad) rfl ?_; simp only [ir_laws_FnExactReflectBad]
  by_cases h : w.length ≤ 1048576 <;> simp (disch := first | omega | (simp only [vl]; omega)) only [vcd]
  repeat (first | (refine call_by (rb_s (K := K) (by omega)) rfl ?_; try simp (disch := first | omega | (simp only [vl]; omega)) only [vcd]) | (refine call_by (rb_i (K := K) (by omega)) rfl ?_; try simp (disch := first | omega | (simp only [vl]; omega)) only [vcd]))
end Go.Cat

