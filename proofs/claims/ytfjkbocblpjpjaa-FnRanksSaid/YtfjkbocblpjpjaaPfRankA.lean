/-
  Ballot numbers: by running, the program's.
-/
import Derived.Test.YtfjkbocblpjpjaaPfNum
import Derived.Test.YtfjkbocblpjpjaaIrAllA
namespace Go.Cat
variable {K : Nat → List D → List D → Prop}
set_option maxRecDepth 100000

def wrow (f : Nat → Nat) (u : Nat) : Nat → Nat
  | 0 => 0
  | d + 1 => if d < u then 0 else f (d + 1) + wrow f u d
/-- Words of u letters u and d letters d that begin at height d - u and never go below 0. -/
def bw : Nat → Nat → Nat
  | 0 => fun _ => 1
  | u + 1 => wrow (bw u) u

abbrev tbln : List (Nat × IF) := [(27, ir_impl_BallotNumber), (23, ir_impl_within)]
noncomputable def blT (u d : Nat) : Bool := isN (evF (tableOf tbln) 60 8 27 [.n u, .n d]) (bw u d)
theorem bl8 : allB 9 (fun d => allB (d + 1) fun u => blT u d) = true := by kernel_rfl
theorem bl12 : allB 4 (fun d => allB 4 fun k => blT (d + 9 - k) (d + 9)) = true := by kernel_rfl
theorem bl15 : allB 3 (fun d => allB 4 fun k => blT (d + 13 - k) (d + 13)) = true := by kernel_rfl
theorem bl_i [Has K 23 ir_impl_within] [Has K 27 ir_impl_BallotNumber] {u d : Nat} (h : u ≤ d) (hd : d < 9) : K 27 [.n u, .n d] [.n (bw u d)] :=
  run tbln 60 8 27 (isN_spec (allB_spec (allB_spec bl8 d hd) u (by omega)))
theorem bl_j [Has K 23 ir_impl_within] [Has K 27 ir_impl_BallotNumber] {u d : Nat} (h : u ≤ d) (hk : d ≤ u + 3) (hd : d < 16) : K 27 [.n u, .n d] [.n (bw u d)] := by
  rcases Nat.lt_or_ge d 9 with q | q
  · exact bl_i h q
  · rcases Nat.lt_or_ge d 13 with q2 | q2
    · have := allB_spec (allB_spec bl12 (d - 9) (by omega)) (d - u) (by omega)
      rw [show d - 9 + 9 - (d - u) = u by omega, show d - 9 + 9 = d by omega] at this
      exact run tbln 60 8 27 (isN_spec this)
    · have := allB_spec (allB_spec bl15 (d - 13) (by omega)) (d - u) (by omega)
      rw [show d - 13 + 13 - (d - u) = u by omega, show d - 13 + 13 = d by omega] at this
      exact run tbln 60 8 27 (isN_spec this)
theorem bl_out [Has K 23 ir_impl_within] [Has K 27 ir_impl_BallotNumber] {a b : Int} (h : ¬ ((0 ≤ a ∧ a ≤ 15) ∧ a ≤ b ∧ b ≤ 15)) : K 27 [.n a, .n b] [.n 0] := by
  refine body_by (f := ir_impl_BallotNumber) rfl ?_; simp only [ir_impl_BallotNumber]
  have h1 := inR_iff (lo := 0) (hi := 15) (x := a)
  have h2 := inR_iff (lo := a) (hi := 15) (x := b)
  cases e1 : inR 0 15 a <;> cases e2 : inR a 15 b <;> rw [e1] at h1 <;> rw [e2] at h2
  · simp (disch := first | omega | (simp only [vl]; omega)) only [vcd]
    repeat (first | (refine call_by (within_ok (K := K)) rfl ?_; try simp (disch := first | omega | (simp only [vl]; omega)) only [vcd, e1]))
  · simp (disch := first | omega | (simp only [vl]; omega)) only [vcd]
    repeat (first | (refine call_by (within_ok (K := K)) rfl ?_; try simp (disch := first | omega | (simp only [vl]; omega)) only [vcd, e1]))
  · simp (disch := first | omega | (simp only [vl]; omega)) only [vcd]
    repeat (first | (refine call_by (within_ok (K := K)) rfl ?_; try simp (disch := first | omega | (simp only [vl]; omega)) only [vcd, e1, e2]))
  · exact absurd ⟨h1.1 rfl, h2.1 rfl⟩ h
end Go.Cat

