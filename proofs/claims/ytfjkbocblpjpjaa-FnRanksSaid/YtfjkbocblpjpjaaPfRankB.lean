/-
  Ballot numbers: by running, the reference's.
-/
import Derived.Test.YtfjkbocblpjpjaaPfRankA
import Derived.Test.YtfjkbocblpjpjaaIrAllA
namespace Go.Cat
variable {K : Nat → List D → List D → Prop}
set_option maxRecDepth 100000

abbrev tblw : List (Nat × IF) := [(84, ir_spec_l3Ways)]
noncomputable def blU (u d : Nat) : Bool := isN (evF (tableOf tblw) 60 8 84 [.n u, .n d]) (bw u d)
theorem bs8 : allB 9 (fun d => allB (d + 1) fun u => blU u d) = true := by kernel_rfl
theorem bs12 : allB 4 (fun d => allB 4 fun k => blU (d + 9 - k) (d + 9)) = true := by kernel_rfl
theorem bs15 : allB 3 (fun d => allB 4 fun k => blU (d + 13 - k) (d + 13)) = true := by kernel_rfl
theorem bl_w [Has K 84 ir_spec_l3Ways] {u d : Nat} (h : u ≤ d) (hd : d < 9) : K 84 [.n u, .n d] [.n (bw u d)] :=
  run tblw 60 8 84 (isN_spec (allB_spec (allB_spec bs8 d hd) u (by omega)))
theorem bl_x [Has K 84 ir_spec_l3Ways] {u d : Nat} (h : u ≤ d) (hk : d ≤ u + 3) (hd : d < 16) : K 84 [.n u, .n d] [.n (bw u d)] := by
  rcases Nat.lt_or_ge d 9 with q | q
  · exact bl_w h q
  · rcases Nat.lt_or_ge d 13 with q2 | q2
    · have := allB_spec (allB_spec bs12 (d - 9) (by omega)) (d - u) (by omega)
      rw [show d - 9 + 9 - (d - u) = u by omega, show d - 9 + 9 = d by omega] at this
      exact run tblw 60 8 84 (isN_spec this)
    · have := allB_spec (allB_spec bs15 (d - 13) (by omega)) (d - u) (by omega)
      rw [show d - 13 + 13 - (d - u) = u by omega, show d - 13 + 13 = d by omega] at this
      exact run tblw 60 8 84 (isN_spec this)
theorem bl_s [Has K 22 ir_spec_l1In] [Has K 84 ir_spec_l3Ways] [Has K 285 ir_spec_BallotNumber] {u d : Nat} (h : u ≤ d) (hk : d ≤ u + 3) (hd : d < 16) : K 285 [.n u, .n d] [.n (bw u d)] := by
  refine body_by (f := ir_spec_BallotNumber) rfl ?_; simp only [ir_spec_BallotNumber]
  have e1 : inR 0 15 (u : Int) = true := inR_iff.2 (by omega)
  have e2 : inR (u : Int) 15 (d : Int) = true := inR_iff.2 (by omega)
  simp (disch := first | omega | (simp only [vl]; omega)) only [vcd]
  repeat (first | (refine call_by (l1In_ok (K := K)) rfl ?_; try simp (disch := first | omega | (simp only [vl]; omega)) only [vcd, e1, e2]))
  refine call_by (bl_x (K := K) h hk hd) rfl ?_
  simp (disch := first | omega | (simp only [vl]; omega)) only [vcd]
theorem bs_out [Has K 22 ir_spec_l1In] [Has K 285 ir_spec_BallotNumber] {a b : Int} (h : ¬ ((0 ≤ a ∧ a ≤ 15) ∧ a ≤ b ∧ b ≤ 15)) : K 285 [.n a, .n b] [.n 0] := by
  refine body_by (f := ir_spec_BallotNumber) rfl ?_; simp only [ir_spec_BallotNumber]
  have h1 := inR_iff (lo := 0) (hi := 15) (x := a)
  have h2 := inR_iff (lo := a) (hi := 15) (x := b)
  cases e1 : inR 0 15 a <;> cases e2 : inR a 15 b <;> rw [e1] at h1 <;> rw [e2] at h2
  · simp (disch := first | omega | (simp only [vl]; omega)) only [vcd]
    repeat (first | (refine call_by (l1In_ok (K := K)) rfl ?_; try simp (disch := first | omega | (simp only [vl]; omega)) only [vcd, e1]))
  · simp (disch := first | omega | (simp only [vl]; omega)) only [vcd]
    repeat (first | (refine call_by (l1In_ok (K := K)) rfl ?_; try simp (disch := first | omega | (simp only [vl]; omega)) only [vcd, e1]))
  · simp (disch := first | omega | (simp only [vl]; omega)) only [vcd]
    repeat (first | (refine call_by (l1In_ok (K := K)) rfl ?_; try simp (disch := first | omega | (simp only [vl]; omega)) only [vcd, e1, e2]))
  · exact absurd ⟨h1.1 rfl, h2.1 rfl⟩ h

end Go.Cat

