import Derived.Test.YtnlhpohgpmmiiaaPfIn
namespace Go.Cat
variable {K : Nat → List D → List D → Prop}
set_option maxRecDepth 100000

abbrev tcb : List (Nat × IF) := [(6, ir_laws_FnExactCountBad), (20, ir_spec_CountBad), (21, ir_impl_CountBad), (22, ir_spec_l1In), (23, ir_impl_within), (9, ir_spec_CountWords), (10, ir_impl_CountWords), (24, ir_spec_l3Binomial), (25, ir_impl_choose), (27, ir_impl_BallotNumber), (28, ir_impl_CatalanNumber)]

theorem cb_out20 [Has K 20 ir_spec_CountBad] [Has K 22 ir_spec_l1In] {a : Int} (h : ¬ (0 ≤ a ∧ a ≤ 14)) : K 20 [.n a] [.n (-1)] := by
  refine Has.h (f := ir_spec_CountBad) _ _ ⟨rfl, ?_⟩
  simp [ir_spec_CountBad]
  refine ⟨_, l1In_f h, rfl, ?_⟩
  simp

theorem cb_out21 [Has K 21 ir_impl_CountBad] [Has K 23 ir_impl_within] {a : Int} (h : ¬ (0 ≤ a ∧ a ≤ 14)) : K 21 [.n a] [.n (-1)] := by
  refine Has.h (f := ir_impl_CountBad) _ _ ⟨rfl, ?_⟩
  simp [ir_impl_CountBad]
  refine ⟨_, within_f h, rfl, ?_⟩
  simp

theorem cb_at0 : isTrue (evF (tableOf tcb) 60 8 6 [.n 0]) = true := by kernel_rfl
theorem cb_at1 : isTrue (evF (tableOf tcb) 60 8 6 [.n 1]) = true := by kernel_rfl
theorem cb_at2 : isTrue (evF (tableOf tcb) 60 8 6 [.n 2]) = true := by kernel_rfl
theorem cb_at3 : isTrue (evF (tableOf tcb) 60 8 6 [.n 3]) = true := by kernel_rfl
theorem cb_at4 : isTrue (evF (tableOf tcb) 60 8 6 [.n 4]) = true := by kernel_rfl
theorem cb_at5 : isTrue (evF (tableOf tcb) 60 8 6 [.n 5]) = true := by kernel_rfl
theorem cb_at6 : isTrue (evF (tableOf tcb) 60 8 6 [.n 6]) = true := by kernel_rfl
theorem cb_at7 : isTrue (evF (tableOf tcb) 60 8 6 [.n 7]) = true := by kernel_rfl
theorem cb_at8 : isTrue (evF (tableOf tcb) 60 8 6 [.n 8]) = true := by kernel_rfl
theorem cb_at9 : isTrue (evF (tableOf tcb) 60 8 6 [.n 9]) = true := by kernel_rfl
theorem cb_at10 : isTrue (evF (tableOf tcb) 60 8 6 [.n 10]) = true := by kernel_rfl
theorem cb_at11 : isTrue (evF (tableOf tcb) 60 8 6 [.n 11]) = true := by kernel_rfl
theorem cb_at12 : isTrue (evF (tableOf tcb) 60 8 6 [.n 12]) = true := by kernel_rfl
theorem cb_at13 : isTrue (evF (tableOf tcb) 60 8 6 [.n 13]) = true := by kernel_rfl
theorem cb_at14 : isTrue (evF (tableOf tcb) 60 8 6 [.n 14]) = true := by kernel_rfl

theorem cb_law [HasAll K tcb] [Has K 6 ir_laws_FnExactCountBad] [Has K 20 ir_spec_CountBad] [Has K 21 ir_impl_CountBad] [Has K 22 ir_spec_l1In] [Has K 23 ir_impl_within] (a : Int) : K 6 [.n a] [.b true] := by
  by_cases h : 0 ≤ a ∧ a ≤ 14
  · obtain ⟨h1, h2⟩ := h
    obtain ⟨n, rfl⟩ := Int.eq_ofNat_of_zero_le (show 0 ≤ a by omega)
    match n, h1, h2 with
    | 0, _, _ => exact run tcb 60 8 6 (isTrue_spec cb_at0)
    | 1, _, _ => exact run tcb 60 8 6 (isTrue_spec cb_at1)
    | 2, _, _ => exact run tcb 60 8 6 (isTrue_spec cb_at2)
    | 3, _, _ => exact run tcb 60 8 6 (isTrue_spec cb_at3)
    | 4, _, _ => exact run tcb 60 8 6 (isTrue_spec cb_at4)
    | 5, _, _ => exact run tcb 60 8 6 (isTrue_spec cb_at5)
    | 6, _, _ => exact run tcb 60 8 6 (isTrue_spec cb_at6)
    | 7, _, _ => exact run tcb 60 8 6 (isTrue_spec cb_at7)
    | 8, _, _ => exact run tcb 60 8 6 (isTrue_spec cb_at8)
    | 9, _, _ => exact run tcb 60 8 6 (isTrue_spec cb_at9)
    | 10, _, _ => exact run tcb 60 8 6 (isTrue_spec cb_at10)
    | 11, _, _ => exact run tcb 60 8 6 (isTrue_spec cb_at11)
    | 12, _, _ => exact run tcb 60 8 6 (isTrue_spec cb_at12)
    | 13, _, _ => exact run tcb 60 8 6 (isTrue_spec cb_at13)
    | 14, _, _ => exact run tcb 60 8 6 (isTrue_spec cb_at14)
    | n + 15, _, h2 => omega
  · refine Has.h (f := ir_laws_FnExactCountBad) _ _ ⟨rfl, ?_⟩
    simp [ir_laws_FnExactCountBad]
    refine ⟨_, cb_out20 h, rfl, ?_⟩
    simp
    refine ⟨_, cb_out21 h, rfl, ?_⟩
    simp

end Go.Cat
