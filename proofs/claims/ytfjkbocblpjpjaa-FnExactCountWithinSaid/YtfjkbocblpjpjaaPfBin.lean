/-
  Binomials.
-/
import Derived.Test.YtfjkbocblpjpjaaPfIn
import Derived.Test.YtfjkbocblpjpjaaIrAllA
namespace Go.Cat
variable {K : Nat → List D → List D → Prop}

/-- Binomials. -/
def bin : Nat → Nat → Nat
  | _, 0 => 1
  | 0, _ + 1 => 0
  | n + 1, k + 1 => bin n k + bin n (k + 1)

theorem bin_0 {n : Nat} : bin n 0 = 1 := by cases n <;> rfl
theorem bin_1 : ∀ {n : Nat}, bin n 1 = n
  | 0 => rfl
  | n + 1 => by rw [bin, bin_0, bin_1]; omega
theorem bin_absorb : ∀ (n k : Nat), bin (n + 1) (k + 1) * (k + 1) = (n + 1) * bin n k
  | 0, 0 => rfl
  | 0, k + 1 => by simp [bin]
  | n + 1, 0 => by rw [bin_1, bin_0]
  | n + 1, k + 1 => by
    have h1 := bin_absorb n k
    have h2 := bin_absorb n (k + 1)
    have e : bin (n + 2) (k + 2) = bin (n + 1) (k + 1) + bin (n + 1) (k + 2) := rfl
    have e2 : bin (n + 1) (k + 1) = bin n k + bin n (k + 1) := rfl
    calc bin (n + 2) (k + 2) * (k + 2) = bin (n + 1) (k + 1) * (k + 1) + bin (n + 1) (k + 1) + bin (n + 1) (k + 2) * (k + 1 + 1) := by
          rw [e, Nat.add_mul]
          simp only [Nat.mul_add, Nat.mul_one]
          omega
      _ = (n + 1) * bin n k + (n + 1) * bin n (k + 1) + bin (n + 1) (k + 1) := by rw [h1, h2]; omega
      _ = (n + 1 + 1) * bin (n + 1) (k + 1) := by rw [← Nat.mul_add, ← e2, Nat.add_mul (n + 1) 1, Nat.one_mul]
theorem bin_next {n k : Nat} (h : k ≤ n) : bin n k * (n - k) = bin n (k + 1) * (k + 1) := by
  have h1 := bin_absorb n k
  have e : bin (n + 1) (k + 1) = bin n k + bin n (k + 1) := rfl
  rw [e, Nat.add_mul] at h1
  have h2 : (n + 1) * bin n k = bin n k * (n - k) + bin n k * (k + 1) := by
    rw [← Nat.mul_add, Nat.mul_comm]; congr 1; omega
  omega
theorem bin_up {n k : Nat} : bin n k * (n + 1) = bin (n + 1) (k + 1) * (k + 1) := by rw [bin_absorb, Nat.mul_comm]
theorem bin_le : ∀ (n k : Nat), bin n k ≤ 2 ^ n
  | n, 0 => by rw [bin_0]; exact Nat.one_le_two_pow
  | 0, k + 1 => by simp [bin]
  | n + 1, k + 1 => by
    have h1 := bin_le n k
    have h2 := bin_le n (k + 1)
    rw [bin, Nat.pow_succ]; omega
theorem bin_le30 {n k : Nat} (h : n ≤ 30) : bin n k ≤ 1073741824 := Nat.le_trans (bin_le n k) (Nat.le_trans (Nat.pow_le_pow_right (by omega) h) (by decide))

theorem bin_s [Has K 24 ir_spec_l3Binomial] {n k : Nat} (h : n ≤ 30) (hk : k ≤ n) : K 24 [.n n, .n k] [.n (bin n k)] := by
  refine body_by (f := ir_spec_l3Binomial) rfl ?_; simp only [ir_spec_l3Binomial]
  simp (disch := first | omega | (simp only [vl]; omega)) only [vcd]
  refine loop_up (fun i (x : Int) => x = bin n i) (fun i x => [.n n, .n k, .u, .n x, .n i, .u]) k 1 (by rw [bin_0]; rfl) rfl (fun i x hi hP => ?_) (fun x hP => ?_)
  · subst hP
    have hb := bin_le30 (n := n) (k := i) h
    have hm : (bin n i : Int) * ((n : Int) - i) = (bin n (i + 1) : Int) * ((i : Int) + 1) := by
      have h1 := bin_next (n := n) (k := i) (by omega)
      have h2 : ((n - i : Nat) : Int) = (n : Int) - i := by omega
      rw [← h2]
      exact_mod_cast h1
    have hb2 := bin_le30 (n := n) (k := i + 1) h
    have hb3 : (bin n (i + 1) : Int) * ((i : Int) + 1) ≤ 1073741824 * 31 := Int.mul_le_mul (by omega) (by omega) (by omega) (by omega)
    have hb4 : 0 ≤ (bin n (i + 1) : Int) * ((i : Int) + 1) := Int.mul_nonneg (by omega) (by omega)
    have hd : (bin n (i + 1) : Int) * ((i : Int) + 1) / ((i : Int) + 1) = bin n (i + 1) := Int.mul_ediv_cancel _ (by omega)
    simp (disch := first | omega | (simp only [vl]; omega)) only [vcd, hm]
    refine ⟨_, rfl, ?_⟩
    rw [hd]
  · simp (disch := first | omega | (simp only [vl]; omega)) only [vcd]
    rw [hP]

theorem bin_i [Has K 25 ir_impl_choose] {n k : Nat} (h : n ≤ 30) (hk : k ≤ n) : K 25 [.n n, .n k] [.n (bin n k)] := by
  refine body_by (f := ir_impl_choose) rfl ?_; simp only [ir_impl_choose]
  simp (disch := first | omega | (simp only [vl]; omega)) only [vcd]
  refine loop_up (fun i (x : Int) => x = bin (n - k + i) i) (fun i x => [.n n, .n k, .u, .n x, .n ((i : Int) + 1), .u, .u]) k 1 (by rw [bin_0]; rfl) rfl (fun i x hi hP => ?_) (fun x hP => ?_)
  · subst hP
    have hb := bin_le30 (n := n - k + i) (k := i) (by omega)
    have hm : (bin (n - k + i) i : Int) * ((n : Int) - k + (i + 1)) = (bin (n - k + (i + 1)) (i + 1) : Int) * ((i : Int) + 1) := by
      have h1 := bin_up (n := n - k + i) (k := i)
      have h2 : ((n - k + i + 1 : Nat) : Int) = (n : Int) - k + (i + 1) := by omega
      rw [← h2]
      exact_mod_cast h1
    have hb2 := bin_le30 (n := n - k + (i + 1)) (k := i + 1) (by omega)
    have hb3 : (bin (n - k + (i + 1)) (i + 1) : Int) * ((i : Int) + 1) ≤ 1073741824 * 31 := Int.mul_le_mul (by omega) (by omega) (by omega) (by omega)
    have hb4 : 0 ≤ (bin (n - k + (i + 1)) (i + 1) : Int) * ((i : Int) + 1) := Int.mul_nonneg (by omega) (by omega)
    have hd : (bin (n - k + (i + 1)) (i + 1) : Int) * ((i : Int) + 1) / ((i : Int) + 1) = bin (n - k + (i + 1)) (i + 1) := Int.mul_ediv_cancel _ (by omega)
    simp (disch := first | omega | (simp only [vl]; omega)) only [vcd, hm]
    refine ⟨_, rfl, ?_⟩
    rw [hd]
  · simp (disch := first | omega | (simp only [vl]; omega)) only [vcd]
    rw [hP, show n - k + k = n by omega]
end Go.Cat

