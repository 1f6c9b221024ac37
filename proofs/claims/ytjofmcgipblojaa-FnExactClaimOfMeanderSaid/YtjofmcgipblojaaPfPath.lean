/-
  Words of u and d: counting letters, paths.
-/
import Derived.Test.YtjofmcgipblojaaCatFour
import Derived.Test.YtjofmcgipblojaaIrAllA
namespace Go.Cat
variable {K : Nat → List D → List D → Prop}

/-- How often c stands in w. -/
def cnt (w : List Nat) (c : Nat) : Nat := w.count c
theorem cnt_cons {a c : Nat} {w : List Nat} : cnt (a :: w) c = cnt w c + (if a = c then 1 else 0) := by
  simp only [cnt, List.count_cons]; congr 1
  by_cases h : a = c <;> simp [h]
theorem cnt_le {w : List Nat} {c : Nat} : cnt w c ≤ w.length := List.count_le_length

/-- The height at the end, where it never falls below 0. -/
def walkH : List Nat → Int → Option Int
  | [], h => some h
  | c :: w, h => if c = 117 then walkH w (h + 1) else if c = 100 then (if h - 1 < 0 then none else walkH w (h - 1)) else none
def dyck (w : List Nat) : Bool := decide (walkH w 0 = some 0) && decide (w.length ≤ 16)

theorem dyck_s [Has K 64 ir_spec_IsDyck] {w : List Nat} (h : w.length ≤ 1000000000) : K 64 [.s w] [.b (dyck w)] := by
  refine body_by (f := ir_spec_IsDyck) rfl ?_; simp only [ir_spec_IsDyck]
  simp (disch := first | omega | (simp only [vl]; omega)) only [vcd]
  refine loop_up (fun i (x : Int) => 0 ≤ x ∧ x ≤ i ∧ walkH w 0 = walkH (w.drop i) x) (fun i x => [.s w, .u, .n x, .n i, .u, .u, .u, .u, .u]) w.length 0 ⟨by simp, by simp, by simp⟩ rfl (fun i hh hi hP => ?_) (fun hh hP => ?_)
  · obtain ⟨h1, h2, h4⟩ := hP
    rw [dropB hi] at h4
    simp only [walkH] at h4
    by_cases hu : atB w i = 117
    · rw [if_pos hu] at h4
      simp (disch := first | omega | (simp only [vl]; omega)) only [vcd]
      exact ⟨hh + 1, ⟨by omega, by omega, h4⟩, rfl⟩
    · rw [if_neg hu] at h4
      by_cases hd : atB w i = 100
      · rw [if_pos hd] at h4
        by_cases hn : hh - 1 < 0
        · rw [if_pos hn] at h4
          simp (disch := first | omega | (simp only [vl]; omega)) only [vcd]
          simp [dyck, h4]
        · rw [if_neg hn] at h4
          simp (disch := first | omega | (simp only [vl]; omega)) only [vcd]
          exact ⟨hh - 1, ⟨by omega, by omega, h4⟩, rfl⟩
      · rw [if_neg hd] at h4
        simp (disch := first | omega | (simp only [vl]; omega)) only [vcd]
        simp [dyck, h4]
  · obtain ⟨h1, h2, h4⟩ := hP
    rw [List.drop_length] at h4
    simp only [walkH] at h4
    by_cases h0 : hh = 0
    · simp (disch := first | omega | (simp only [vl]; omega)) only [vcd]
      simp only [dyck, h4, h0]; simp; omega
    · simp (disch := first | omega | (simp only [vl]; omega)) only [vcd]
      simp [dyck, h4, h0]
end Go.Cat

