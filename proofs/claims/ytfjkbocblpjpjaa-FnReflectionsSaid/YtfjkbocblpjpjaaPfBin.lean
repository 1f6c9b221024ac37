/-
  Binomials.
-/
import Derived.Test.YtfjkbocblpjpjaaPfIn
import Derived.Test.YtfjkbocblpjpjaaIrAllA
namespace Go.Cat
variable {K : Nat → List D → List D → Prop}

/-- Binomials. -/
def bnm : Nat → Nat → Nat
  | _, 0 => 1
  | 0, _ + 1 => 0
  | n + 1, k + 1 => bnm n k + bnm n (k + 1)

theorem bnm_0 {n : Nat} : bnm n 0 = 1 := by cases n <;> rfl
theorem bnm_1 : ∀ {n : Nat}, bnm n 1 = n
  | 0 => rfl
  | n + 1 => by rw [bnm, bnm_0, bnm_1]; omega
theorem bnm_absorb : ∀ (n k : Nat), bnm (n + 1) (k + 1) * (k + 1) = (n + 1) * bnm n k
  | 0, 0 => rfl
  | 0, k + 1 => by simp [bnm]
  | n + 1, 0 => by rw [bnm_1, bnm_0]
  | n + 1, k + 1 => by
    have h1 := bnm_absorb n k
    have h2 := bnm_absorb n (k + 1)
    have e : bnm (n + 2) (k + 2) = bnm (n + 1) (k + 1) + bnm (n + 1) (k + 2) := rfl
    have e2 : bnm (n + 1) (k + 1) = bnm n k + bnm n (k + 1) := rfl
    calc bnm (n + 2) (k + 2) * (k + 2) = bnm (n + 1) (k + 1) * (k + 1) + bnm (n + 1) (k + 1) + bnm (n + 1) (k + 2) * (k + 1 + 1) := by
          rw [e, Nat.add_mul]
          simp only [Nat.mul_add, Nat.mul_one]
          omega
      _ = (n + 1) * bnm n k + (n + 1) * bnm n (k + 1) + bnm (n + 1) (k + 1) := by rw [h1, h2]; omega
      _ = (n + 1 + 1) * bnm (n + 1) (k + 1) := by rw [← Nat.mul_add, ← e2, Nat.add_mul (n + 1) 1, Nat.one_mul]
theorem bnm_next {n k : Nat} (h : k ≤ n) : bnm n k * (n - k) = bnm n (k + 1) * (k + 1) := by
  have h1 := bnm_absorb n k
  have e : bnm (n + 1) (k + 1) = bnm n k + bnm n (k + 1) := rfl
  rw [e, Nat.add_mul] at h1
  have h2 : (n + 1) * bnm n k = bnm n k * (n - k) + bnm n k * (k + 1) := by
    rw [← Nat.mul_add, Nat.mul_comm]; congr 1; omega
  omega
theorem bnm_up {n k : Nat} : bnm n k * (n + 1) = bnm (n + 1) (k + 1) * (k + 1) := by rw [bnm_absorb, Nat.mul_comm]
theorem bnm_le : ∀ (n k : Nat), bnm n k ≤ 2 ^ n
  | n, 0 => by rw [bnm_0]; exact Nat.one_le_two_pow
  | 0, k + 1 => by simp [bnm]
  | n + 1, k + 1 => by
    have h1 := bnm_le n k
    have h2 := bnm_le n (k + 1)
    rw [bnm, Nat.pow_succ]; omega
theorem bnm_le30 {n k : Nat} (h : n ≤ 30) : bnm n k ≤ 1073741824 := Nat.le_trans (bnm_le n k) (Nat.le_trans (Nat.pow_le_pow_right (by omega) h) (by decide))

theorem bnm_s [Has K 24 ir_spec_l3Binomial] {n k : Nat} (h : n ≤ 30) (hk : k ≤ n) : K 24 [.n n, .n k] [.n (bnm n k)] := by
  refine body_by (f := ir_spec_l3Binomial) rfl ?_; simp only [ir_spec_l3Binomial]
  simp (disch := first | omega | (simp only [vl]; omega)) only [vcd]
  refine loop_up (fun i (x : Int) => x = bnm n i) (fun i x => [.n n, .n k, .u, .n x, .n i, .u]) k 1 (by rw [bnm_0]; rfl) rfl (fun i x hi hP => ?_) (fun x hP => ?_)
  · subst hP
    have hb := bnm_le30 (n := n) (k := i) h
    have hm : (bnm n i : Int) * ((n : Int) - i) = (bnm n (i + 1) : Int) * ((i : Int) + 1) := by
      have h1 := bnm_next (n := n) (k := i) (by omega)
      have h2 : ((n - i : Nat) : Int) = (n : Int) - i := by omega
      rw [← h2]
      exact_mod_cast h1
    have hb2 := bnm_le30 (n := n) (k := i + 1) h
    have hb3 : (bnm n (i + 1) : Int) * ((i : Int) + 1) ≤ 1073741824 * 31 := Int.mul_le_mul (by omega) (by omega) (by omega) (by omega)
    have hb4 : 0 ≤ (bnm n (i + 1) : Int) * ((i : Int) + 1) := Int.mul_nonneg (by omega) (by omega)
    have hd : (bnm n (i + 1) : Int) * ((i : Int) + 1) / ((i : Int) + 1) = bnm n (i + 1) := Int.mul_ediv_cancel _ (by omega)
    simp (disch := first | omega | (simp only [vl]; omega)) only [vcd, hm]
    refine ⟨_, rfl, ?_⟩
    rw [hd]
  · simp (disch := first | omega | (simp only [vl]; omega)) only [vcd]
    rw [hP]

theorem bnm_i [Has K 25 ir_impl_choose] {n k : Nat} (h : n ≤ 30) (hk : k ≤ n) : K 25 [.n n, .n k] [.n (bnm n k)] := by
  refine body_by (f := ir_impl_choose) rfl ?_; simp only [ir_impl_choose]
  simp (disch := first | omega | (simp only [vl]; omega)) only [vcd]
  refine loop_up (fun i (x : Int) => x = bnm (n - k + i) i) (fun i x => [.n n, .n k, .u, .n x, .n ((i : Int) + 1), .u, .u]) k 1 (by rw [bnm_0]; rfl) rfl (fun i x hi hP => ?_) (fun x hP => ?_)
  · subst hP
    have hb := bnm_le30 (n := n - k + i) (k := i) (by omega)
    have hm : (bnm (n - k + i) i : Int) * ((n : Int) - k + (i + 1)) = (bnm (n - k + (i + 1)) (i + 1) : Int) * ((i : Int) + 1) := by
      have h1 := bnm_up (n := n - k + i) (k := i)
      have h2 : ((n - k + i + 1 : Nat) : Int) = (n : Int) - k + (i + 1) := by omega
      rw [← h2]
      exact_mod_cast h1
    have hb2 := bnm_le30 (n := n - k + (i + 1)) (k := i + 1) (by omega)
    have hb3 : (bnm (n - k + (i + 1)) (i + 1) : Int) * ((i : Int) + 1) ≤ 1073741824 * 31 := Int.mul_le_mul (by omega) (by omega) (by omega) (by omega)
    have hb4 : 0 ≤ (bnm (n - k + (i + 1)) (i + 1) : Int) * ((i : Int) + 1) := Int.mul_nonneg (by omega) (by omega)
    have hd : (bnm (n - k + (i + 1)) (i + 1) : Int) * ((i : Int) + 1) / ((i : Int) + 1) = bnm (n - k + (i + 1)) (i + 1) := Int.mul_ediv_cancel _ (by omega)
    simp (disch := first | omega | (simp only [vl]; omega)) only [vcd, hm]
    refine ⟨_, rfl, ?_⟩
    rw [hd]
  · simp (disch := first | omega | (simp only [vl]; omega)) only [vcd]
    rw [hP, show n - k + k = n by omega]
end Go.Cat

