import Derived.Test.YtnlhpohgpmmiiaaPfIn
namespace Go.Cat
variable {K : Nat → List D → List D → Prop}
set_option maxRecDepth 100000

abbrev tbr : List (Nat × IF) := [(5, ir_laws_FnExactBallotByReflection), (18, ir_spec_BallotByReflection), (19, ir_impl_BallotByReflection), (22, ir_spec_l1In), (23, ir_impl_within), (9, ir_spec_CountWords), (24, ir_spec_l3Binomial), (27, ir_impl_BallotNumber)]

theorem br_out18 [Has K 18 ir_spec_BallotByReflection] [Has K 22 ir_spec_l1In] {a b : Int} (h : ¬ (0 ≤ a ∧ a ≤ 14 ∧ a ≤ b ∧ b ≤ 14)) : K 18 [.n a, .n b] [.n 0] := by
  refine Has.h (f := ir_spec_BallotByReflection) _ _ ⟨rfl, ?_⟩
  simp [ir_spec_BallotByReflection]
  by_cases h1 : 0 ≤ a ∧ a ≤ 14
  · refine ⟨_, l1In_t h1, rfl, ?_⟩
    simp
    refine ⟨_, l1In_f (fun h2 => h ⟨h1.1, h1.2, h2.1, h2.2⟩), rfl, ?_⟩
    simp
  · refine ⟨_, l1In_f h1, rfl, ?_⟩
    simp

theorem br_out19 [Has K 19 ir_impl_BallotByReflection] [Has K 23 ir_impl_within] {a b : Int} (h : ¬ (0 ≤ a ∧ a ≤ 14 ∧ a ≤ b ∧ b ≤ 14)) : K 19 [.n a, .n b] [.n 0] := by
  refine Has.h (f := ir_impl_BallotByReflection) _ _ ⟨rfl, ?_⟩
  simp [ir_impl_BallotByReflection]
  by_cases h1 : 0 ≤ a ∧ a ≤ 14
  · refine ⟨_, within_t h1, rfl, ?_⟩
    simp
    refine ⟨_, within_f (fun h2 => h ⟨h1.1, h1.2, h2.1, h2.2⟩), rfl, ?_⟩
    simp
  · refine ⟨_, within_f h1, rfl, ?_⟩
    simp

theorem br_at0 : allB 15 (fun b => isTrue (evF (tableOf tbr) 60 8 5 [.n 0, .n b])) = true := by kernel_rfl
theorem br_at1 : allB 15 (fun b => isTrue (evF (tableOf tbr) 60 8 5 [.n 1, .n b])) = true := by kernel_rfl
theorem br_at2 : allB 15 (fun b => isTrue (evF (tableOf tbr) 60 8 5 [.n 2, .n b])) = true := by kernel_rfl
theorem br_at3 : allB 15 (fun b => isTrue (evF (tableOf tbr) 60 8 5 [.n 3, .n b])) = true := by kernel_rfl
theorem br_at4 : allB 15 (fun b => isTrue (evF (tableOf tbr) 60 8 5 [.n 4, .n b])) = true := by kernel_rfl
theorem br_at5 : allB 15 (fun b => isTrue (evF (tableOf tbr) 60 8 5 [.n 5, .n b])) = true := by kernel_rfl
theorem br_at6 : allB 15 (fun b => isTrue (evF (tableOf tbr) 60 8 5 [.n 6, .n b])) = true := by kernel_rfl
theorem br_at7 : allB 15 (fun b => isTrue (evF (tableOf tbr) 60 8 5 [.n 7, .n b])) = true := by kernel_rfl
theorem br_at8 : allB 15 (fun b => isTrue (evF (tableOf tbr) 60 8 5 [.n 8, .n b])) = true := by kernel_rfl
theorem br_at9 : allB 15 (fun b => isTrue (evF (tableOf tbr) 60 8 5 [.n 9, .n b])) = true := by kernel_rfl
theorem br_at10 : allB 15 (fun b => isTrue (evF (tableOf tbr) 60 8 5 [.n 10, .n b])) = true := by kernel_rfl
theorem br_at11 : allB 15 (fun b => isTrue (evF (tableOf tbr) 60 8 5 [.n 11, .n b])) = true := by kernel_rfl
theorem br_at12 : allB 15 (fun b => isTrue (evF (tableOf tbr) 60 8 5 [.n 12, .n b])) = true := by kernel_rfl
theorem br_at13 : allB 15 (fun b => isTrue (evF (tableOf tbr) 60 8 5 [.n 13, .n b])) = true := by kernel_rfl
theorem br_at14 : allB 15 (fun b => isTrue (evF (tableOf tbr) 60 8 5 [.n 14, .n b])) = true := by kernel_rfl

theorem br_law [HasAll K tbr] [Has K 5 ir_laws_FnExactBallotByReflection] [Has K 18 ir_spec_BallotByReflection] [Has K 19 ir_impl_BallotByReflection] [Has K 22 ir_spec_l1In] [Has K 23 ir_impl_within] (a b : Int) : K 5 [.n a, .n b] [.b true] := by
  by_cases h : 0 ≤ a ∧ a ≤ 14 ∧ a ≤ b ∧ b ≤ 14
  · obtain ⟨h1, h2, h3, h4⟩ := h
    have hb0 : 0 ≤ b := by omega
    have hb1 : b < (15 : Nat) := by omega
    obtain ⟨n, rfl⟩ := Int.eq_ofNat_of_zero_le h1
    match n, h2 with
    | 0, _ => exact runRow tbr br_at0 hb0 hb1
    | 1, _ => exact runRow tbr br_at1 hb0 hb1
    | 2, _ => exact runRow tbr br_at2 hb0 hb1
    | 3, _ => exact runRow tbr br_at3 hb0 hb1
    | 4, _ => exact runRow tbr br_at4 hb0 hb1
    | 5, _ => exact runRow tbr br_at5 hb0 hb1
    | 6, _ => exact runRow tbr br_at6 hb0 hb1
    | 7, _ => exact runRow tbr br_at7 hb0 hb1
    | 8, _ => exact runRow tbr br_at8 hb0 hb1
    | 9, _ => exact runRow tbr br_at9 hb0 hb1
    | 10, _ => exact runRow tbr br_at10 hb0 hb1
    | 11, _ => exact runRow tbr br_at11 hb0 hb1
    | 12, _ => exact runRow tbr br_at12 hb0 hb1
    | 13, _ => exact runRow tbr br_at13 hb0 hb1
    | 14, _ => exact runRow tbr br_at14 hb0 hb1
    | n + 15, h2 => omega
  · refine Has.h (f := ir_laws_FnExactBallotByReflection) _ _ ⟨rfl, ?_⟩
    simp [ir_laws_FnExactBallotByReflection]
    refine ⟨_, br_out18 h, rfl, ?_⟩
    simp
    refine ⟨_, br_out19 h, rfl, ?_⟩
    simp

end Go.Cat
