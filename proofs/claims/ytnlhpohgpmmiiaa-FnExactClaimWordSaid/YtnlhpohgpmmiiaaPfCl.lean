import Derived.Test.YtnlhpohgpmmiiaaPfIn
namespace Go.Cat
variable {K : Nat → List D → List D → Prop}
set_option maxRecDepth 100000

abbrev tcl : List (Nat × IF) := [(1, ir_laws_FnExactClaimWord), (7, ir_spec_ClaimWord), (8, ir_impl_ClaimWord), (22, ir_spec_l1In), (23, ir_impl_within)]

theorem cl_out7 [Has K 7 ir_spec_ClaimWord] [Has K 22 ir_spec_l1In] {a : Int} (h : ¬ (1 ≤ a ∧ a ≤ 6)) : K 7 [.n a] [.s []] := by
  refine Has.h (f := ir_spec_ClaimWord) _ _ ⟨rfl, ?_⟩
  simp [ir_spec_ClaimWord]
  refine ⟨_, l1In_f h, rfl, ?_⟩
  simp

theorem cl_out8 [Has K 8 ir_impl_ClaimWord] [Has K 23 ir_impl_within] {a : Int} (h : ¬ (1 ≤ a ∧ a ≤ 6)) : K 8 [.n a] [.s []] := by
  refine Has.h (f := ir_impl_ClaimWord) _ _ ⟨rfl, ?_⟩
  simp [ir_impl_ClaimWord]
  refine ⟨_, within_f h, rfl, ?_⟩
  simp

theorem cl_at1 : isTrue (evF (tableOf tcl) 60 8 1 [.n 1]) = true := by kernel_rfl
theorem cl_at2 : isTrue (evF (tableOf tcl) 60 8 1 [.n 2]) = true := by kernel_rfl
theorem cl_at3 : isTrue (evF (tableOf tcl) 60 8 1 [.n 3]) = true := by kernel_rfl
theorem cl_at4 : isTrue (evF (tableOf tcl) 60 8 1 [.n 4]) = true := by kernel_rfl
theorem cl_at5 : isTrue (evF (tableOf tcl) 60 8 1 [.n 5]) = true := by kernel_rfl
theorem cl_at6 : isTrue (evF (tableOf tcl) 60 8 1 [.n 6]) = true := by kernel_rfl

theorem cl_law [HasAll K tcl] [Has K 1 ir_laws_FnExactClaimWord] [Has K 7 ir_spec_ClaimWord] [Has K 8 ir_impl_ClaimWord] [Has K 22 ir_spec_l1In] [Has K 23 ir_impl_within] (a : Int) : K 1 [.n a] [.b true] := by
  by_cases h : 1 ≤ a ∧ a ≤ 6
  · obtain ⟨h1, h2⟩ := h
    obtain ⟨n, rfl⟩ := Int.eq_ofNat_of_zero_le (show 0 ≤ a by omega)
    match n, h1, h2 with
    | 0, h1, _ => omega
    | 1, _, _ => exact run tcl 60 8 1 (isTrue_spec cl_at1)
    | 2, _, _ => exact run tcl 60 8 1 (isTrue_spec cl_at2)
    | 3, _, _ => exact run tcl 60 8 1 (isTrue_spec cl_at3)
    | 4, _, _ => exact run tcl 60 8 1 (isTrue_spec cl_at4)
    | 5, _, _ => exact run tcl 60 8 1 (isTrue_spec cl_at5)
    | 6, _, _ => exact run tcl 60 8 1 (isTrue_spec cl_at6)
    | n + 7, _, h2 => omega
  · refine Has.h (f := ir_laws_FnExactClaimWord) _ _ ⟨rfl, ?_⟩
    simp [ir_laws_FnExactClaimWord]
    refine ⟨_, cl_out7 h, rfl, ?_⟩
    simp
    refine ⟨_, cl_out8 h, rfl, ?_⟩
    simp [strD]

end Go.Cat
