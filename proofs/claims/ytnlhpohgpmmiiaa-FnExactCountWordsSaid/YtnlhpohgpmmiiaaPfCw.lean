import Derived.Test.YtnlhpohgpmmiiaaPfIn
namespace Go.Cat
variable {K : Nat → List D → List D → Prop}

abbrev tCountWords : List (Nat × IF) := [(2, ir_laws_FnExactCountWords), (9, ir_spec_CountWords), (10, ir_impl_CountWords), (22, ir_spec_l1In), (23, ir_impl_within), (24, ir_spec_l3Binomial), (25, ir_impl_choose)]

theorem countWords_out_impl [Has K 10 ir_impl_CountWords] [Has K 23 ir_impl_within] {a b : Int} (h : ¬ (0 ≤ a ∧ a ≤ 15 ∧ 0 ≤ b ∧ b ≤ 15)) : K 10 [.n a, .n b] [.n (-1)] := by
  refine Has.h (f := ir_impl_CountWords) _ _ ⟨rfl, ?_⟩
  simp [ir_impl_CountWords]
  by_cases h1 : 0 ≤ a ∧ a ≤ 15
  · refine ⟨_, within_t h1, rfl, ?_⟩
    simp
    refine ⟨_, within_f (fun h2 => h ⟨h1.1, h1.2, h2⟩), rfl, ?_⟩
    simp
  · refine ⟨_, within_f h1, rfl, ?_⟩
    simp

theorem countWords_out_spec [Has K 9 ir_spec_CountWords] [Has K 22 ir_spec_l1In] {a b : Int} (h : ¬ (0 ≤ a ∧ a ≤ 15 ∧ 0 ≤ b ∧ b ≤ 15)) : K 9 [.n a, .n b] [.n (-1)] := by
  refine Has.h (f := ir_spec_CountWords) _ _ ⟨rfl, ?_⟩
  simp [ir_spec_CountWords]
  by_cases h1 : 0 ≤ a ∧ a ≤ 15
  · refine ⟨_, l1In_t h1, rfl, ?_⟩
    simp
    refine ⟨_, l1In_f (fun h2 => h ⟨h1.1, h1.2, h2⟩), rfl, ?_⟩
    simp
  · refine ⟨_, l1In_f h1, rfl, ?_⟩
    simp

set_option maxRecDepth 100000
theorem cw0 : allB 16 (fun b => isTrue (evF (tableOf tCountWords) 40 5 2 [.n 0, .n b])) = true := by kernel_rfl
theorem cw1 : allB 16 (fun b => isTrue (evF (tableOf tCountWords) 40 5 2 [.n 1, .n b])) = true := by kernel_rfl
theorem cw2 : allB 16 (fun b => isTrue (evF (tableOf tCountWords) 40 5 2 [.n 2, .n b])) = true := by kernel_rfl
theorem cw3 : allB 16 (fun b => isTrue (evF (tableOf tCountWords) 40 5 2 [.n 3, .n b])) = true := by kernel_rfl
theorem cw4 : allB 16 (fun b => isTrue (evF (tableOf tCountWords) 40 5 2 [.n 4, .n b])) = true := by kernel_rfl
theorem cw5 : allB 16 (fun b => isTrue (evF (tableOf tCountWords) 40 5 2 [.n 5, .n b])) = true := by kernel_rfl
theorem cw6 : allB 16 (fun b => isTrue (evF (tableOf tCountWords) 40 5 2 [.n 6, .n b])) = true := by kernel_rfl
theorem cw7 : allB 16 (fun b => isTrue (evF (tableOf tCountWords) 40 5 2 [.n 7, .n b])) = true := by kernel_rfl
theorem cw8 : allB 16 (fun b => isTrue (evF (tableOf tCountWords) 40 5 2 [.n 8, .n b])) = true := by kernel_rfl
theorem cw9 : allB 16 (fun b => isTrue (evF (tableOf tCountWords) 40 5 2 [.n 9, .n b])) = true := by kernel_rfl
theorem cw10 : allB 16 (fun b => isTrue (evF (tableOf tCountWords) 40 5 2 [.n 10, .n b])) = true := by kernel_rfl
theorem cw11 : allB 16 (fun b => isTrue (evF (tableOf tCountWords) 40 5 2 [.n 11, .n b])) = true := by kernel_rfl
theorem cw12 : allB 16 (fun b => isTrue (evF (tableOf tCountWords) 40 5 2 [.n 12, .n b])) = true := by kernel_rfl
theorem cw13 : allB 16 (fun b => isTrue (evF (tableOf tCountWords) 40 5 2 [.n 13, .n b])) = true := by kernel_rfl
theorem cw14 : allB 16 (fun b => isTrue (evF (tableOf tCountWords) 40 5 2 [.n 14, .n b])) = true := by kernel_rfl
theorem cw15 : allB 16 (fun b => isTrue (evF (tableOf tCountWords) 40 5 2 [.n 15, .n b])) = true := by kernel_rfl

theorem countWords_law [HasAll K tCountWords] [Has K 2 ir_laws_FnExactCountWords] [Has K 10 ir_impl_CountWords] [Has K 23 ir_impl_within] [Has K 9 ir_spec_CountWords] [Has K 22 ir_spec_l1In] (a b : Int) : K 2 [.n a, .n b] [.b true] := by
  by_cases h : 0 ≤ a ∧ a ≤ 15 ∧ 0 ≤ b ∧ b ≤ 15
  · obtain ⟨h1, h2, h3, h4⟩ := h
    obtain ⟨n, rfl⟩ := Int.eq_ofNat_of_zero_le h1
    match n, h2 with
    | 0, _ => exact runRow tCountWords cw0 h3 (by omega)
    | 1, _ => exact runRow tCountWords cw1 h3 (by omega)
    | 2, _ => exact runRow tCountWords cw2 h3 (by omega)
    | 3, _ => exact runRow tCountWords cw3 h3 (by omega)
    | 4, _ => exact runRow tCountWords cw4 h3 (by omega)
    | 5, _ => exact runRow tCountWords cw5 h3 (by omega)
    | 6, _ => exact runRow tCountWords cw6 h3 (by omega)
    | 7, _ => exact runRow tCountWords cw7 h3 (by omega)
    | 8, _ => exact runRow tCountWords cw8 h3 (by omega)
    | 9, _ => exact runRow tCountWords cw9 h3 (by omega)
    | 10, _ => exact runRow tCountWords cw10 h3 (by omega)
    | 11, _ => exact runRow tCountWords cw11 h3 (by omega)
    | 12, _ => exact runRow tCountWords cw12 h3 (by omega)
    | 13, _ => exact runRow tCountWords cw13 h3 (by omega)
    | 14, _ => exact runRow tCountWords cw14 h3 (by omega)
    | 15, _ => exact runRow tCountWords cw15 h3 (by omega)
    | n + 16, h2 => omega
  · refine Has.h (f := ir_laws_FnExactCountWords) _ _ ⟨rfl, ?_⟩
    simp [ir_laws_FnExactCountWords]
    refine ⟨_, countWords_out_spec h, rfl, ?_⟩
    simp
    refine ⟨_, countWords_out_impl h, rfl, ?_⟩
    simp

end Go.Cat
