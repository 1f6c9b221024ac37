/-
  The law of CountWithin: both sums as plain functions, compared inside the bounds by the kernel.
-/
import Derived.Test.YtfjkbocblpjpjaaPfBin
import Derived.Test.YtfjkbocblpjpjaaIrAllA
namespace Go.Cat
variable {K : Nat → List D → List D → Prop}

def spA (n h t : Nat) : Int := (n : Int) + ((t : Int) - n - 1) * ((h : Int) + 2)
def spStep (n h t : Nat) (x : Int) : Int :=
  (if inR 0 (2 * (n : Int)) (spA n h t) = true then x + (bnm (2 * n) (spA n h t).toNat : Int) else x) - (if inR 0 (2 * (n : Int)) (spA n h t + 1) = true then (bnm (2 * n) (spA n h t + 1).toNat : Int) else 0)
def spW (n h : Nat) : Int := iter (spStep n h) (2 * n + 3) 0

def imK (row : List Int) (k : Nat) (nx : List Int) : List Int :=
  if 0 < k then seI (seI nx k (atI row ((k : Int) + 1))) k (IntKind.i64.wrap (atI (seI nx k (atI row ((k : Int) + 1))) k + atI row ((k : Int) - 1))) else seI nx k (atI row ((k : Int) + 1))
def imR (h : Nat) (row : List Int) : List Int := iter (imK row) (h + 1) (rep ((h : Int) + 2) 0)
def imW (n h : Nat) : Int := atI (iter (fun _ row => imR h row) (2 * n) (seI (rep ((h : Int) + 2) 0) 0 1)) 0

theorem spA_bd {n h t : Nat} (hn : n ≤ 14) (hh : h ≤ 15) (ht : t < 2 * n + 3) : -255 ≤ ((t : Int) - n - 1) * ((h : Int) + 2) ∧ ((t : Int) - n - 1) * ((h : Int) + 2) ≤ 255 := by
  have h1 : ((t : Int) - n - 1) * ((h : Int) + 2) ≤ 15 * ((h : Int) + 2) := Int.mul_le_mul_of_nonneg_right (by omega) (by omega)
  have h2 : -15 * ((h : Int) + 2) ≤ ((t : Int) - n - 1) * ((h : Int) + 2) := Int.mul_le_mul_of_nonneg_right (by omega) (by omega)
  omega

theorem ci_s1 [Has K 11 ir_spec_CountWithin] [Has K 22 ir_spec_l1In] [Has K 24 ir_spec_l3Binomial] {n h : Nat} (hn : n ≤ 14) (hh : h ≤ 15) : K 11 [.n n, .n h] [.n (spW n h)] := by
  refine body_by (f := ir_spec_CountWithin) rfl ?_; simp only [ir_spec_CountWithin]
  have r1 : inR 0 14 n = true := inR_iff.2 ⟨by omega, by omega⟩
  have r2 : inR 0 15 h = true := inR_iff.2 ⟨by omega, by omega⟩
  simp (disch := first | omega | (simp only [vl]; omega)) only [vcd]
  repeat (first | (refine call_by (l1In_ok (K := K)) rfl ?_; try simp (disch := first | omega | (simp only [vl]; omega)) only [vcd, r1, r2]))
  refine loop_fold (spStep n h) (fun t x => -((t : Int) * 4294967296) ≤ x ∧ x ≤ (t : Int) * 4294967296) (fun t x => [.n n, .n h, .u, .n x, .n ((t : Int) - n - 1), .u, .u, .u, .u, .u, .u]) (2 * n + 3) 0 (by simp) rfl (fun t x ht hx => ?_) (fun t x ht hx _ => ?_) (fun x hx _ => ?_)
  · have b1 := bnm_le30 (n := 2 * n) (k := (spA n h t).toNat) (by omega)
    have b2 := bnm_le30 (n := 2 * n) (k := (spA n h t + 1).toNat) (by omega)
    simp only [spStep]
    split <;> split <;> omega
  · have hA := spA_bd hn hh ht
    have b1 := bnm_le30 (n := 2 * n) (k := (spA n h t).toNat) (by omega)
    have b2 := bnm_le30 (n := 2 * n) (k := (spA n h t + 1).toNat) (by omega)
    have e0 : (n : Int) + ((t : Int) - n - 1) * ((h : Int) + 2) = spA n h t := rfl
    have e1 : (t : Int) - n - 1 + 1 = (t : Int) + 1 - n - 1 := by omega
    have e2 : ((2 * n : Nat) : Int) = 2 * (n : Int) := by omega
    cases c1 : inR 0 (2 * (n : Int)) (spA n h t) <;> cases c2 : inR 0 (2 * (n : Int)) (spA n h t + 1)
    all_goals simp (disch := first | omega | (simp only [vl]; omega)) only [vcd, e0]
    · repeat (first | (refine call_by (l1In_ok (K := K)) rfl ?_; try simp (disch := first | omega | (simp only [vl]; omega)) only [vcd, c1, c2, e1]))
      simp [spStep, c1, c2]
    · have c2' := inR_iff.1 c2
      have hb := bnm_s (K := K) (n := 2 * n) (k := (spA n h t + 1).toNat) (by omega) (by omega)
      rw [e2, Int.toNat_of_nonneg (by omega)] at hb
      repeat (first | (refine call_by (l1In_ok (K := K)) rfl ?_; try simp (disch := first | omega | (simp only [vl]; omega)) only [vcd, c1, c2, e1]) | (refine call_by (hb) rfl ?_; try simp (disch := first | omega | (simp only [vl]; omega)) only [vcd, c1, c2, e1]))
      simp [spStep, c1, c2]
    · have c1' := inR_iff.1 c1
      have hb := bnm_s (K := K) (n := 2 * n) (k := (spA n h t).toNat) (by omega) (by omega)
      rw [e2, Int.toNat_of_nonneg (by omega)] at hb
      repeat (first | (refine call_by (l1In_ok (K := K)) rfl ?_; try simp (disch := first | omega | (simp only [vl]; omega)) only [vcd, c1, c2, e1]) | (refine call_by (hb) rfl ?_; try simp (disch := first | omega | (simp only [vl]; omega)) only [vcd, c1, c2, e1]))
      simp [spStep, c1, c2]
    · have c1' := inR_iff.1 c1
      have c2' := inR_iff.1 c2
      have hb := bnm_s (K := K) (n := 2 * n) (k := (spA n h t).toNat) (by omega) (by omega)
      rw [e2, Int.toNat_of_nonneg (by omega)] at hb
      have hb2 := bnm_s (K := K) (n := 2 * n) (k := (spA n h t + 1).toNat) (by omega) (by omega)
      rw [e2, Int.toNat_of_nonneg (by omega)] at hb2
      repeat (first | (refine call_by (l1In_ok (K := K)) rfl ?_; try simp (disch := first | omega | (simp only [vl]; omega)) only [vcd, c1, c2, e1, spStep]) | (refine call_by (hb) rfl ?_; try simp (disch := first | omega | (simp only [vl]; omega)) only [vcd, c1, c2, e1, spStep]) | (refine call_by (hb2) rfl ?_; try simp (disch := first | omega | (simp only [vl]; omega)) only [vcd, c1, c2, e1, spStep]))
  · simp (disch := first | omega | (simp only [vl]; omega)) only [vcd]
    rw [hx]; rfl

theorem LI_set0 {zs : List Int} {x : Int} (h : 0 < zs.length) : setP [0] (LI zs) (.n x) = some (LI (seI zs 0 x)) := LI_set (i := 0) (by omega)
theorem imK_len {row nx : List Int} {k : Nat} : (imK row k nx).length = nx.length := by unfold imK; split <;> simp [seI]
theorem rep_len' {h : Nat} : (rep ((h : Int) + 2) (0 : Int)).length = h + 2 := by simp [rep]; omega
theorem imR_len {h : Nat} {row : List Int} : (imR h row).length = h + 2 := iter_inv (fun (s : List Int) => s.length = h + 2) rep_len' (fun i s q => by rw [imK_len, q]) _

theorem ci_i1 [Has K 12 ir_impl_CountWithin] [Has K 23 ir_impl_within] {n h : Nat} (hn : n ≤ 14) (hh : h ≤ 15) : K 12 [.n n, .n h] [.n (imW n h)] := by
  refine body_by (f := ir_impl_CountWithin) rfl ?_; simp only [ir_impl_CountWithin]
  have r1 : inR 0 14 n = true := inR_iff.2 ⟨by omega, by omega⟩
  have r2 : inR 0 15 h = true := inR_iff.2 ⟨by omega, by omega⟩
  have hl := rep_len' (h := h)
  simp (disch := first | omega | (simp only [vl]; omega)) only [vcd]
  repeat (first | (refine call_by (within_ok (K := K)) rfl ?_; try simp (disch := first | omega | (simp only [vl]; omega)) only [vcd, r1, r2, LI_set0]))
  refine loop_fold (fun _ row => imR h row) (fun _ (r : List Int) => r.length = h + 2) (fun i r => [.u, .n h, .u, LI r, .u, .u, .u, .n (2 * (n : Int)), .n i, .u, .u, .u]) (2 * n) (seI (rep ((h : Int) + 2) 0) 0 1) (by simp [seI, hl]) rfl (fun i r _ _ => imR_len) (fun i r hi hr _ => ?_) (fun r hr1 hr => ?_)
  · simp (disch := first | omega | (simp only [vl]; omega)) only [vcd]
    refine loop_fold (imK r) (fun _ (r : List Int) => r.length = h + 2) (fun k x => [.u, .n h, .u, LI r, LI x, .n k, .u, .n (2 * (n : Int)), .n i, .u, .u, .u]) (h + 1) (rep ((h : Int) + 2) 0) hl rfl (fun i r _ q => by rw [imK_len, q]) (fun k x hk hx _ => ?_) (fun x hx _ => ?_)
    · rcases Nat.eq_zero_or_pos k with q | q
      · subst q
        simp (disch := first | omega | (simp only [vl]; omega)) only [vcd]
        simp [imK]
      · simp (disch := first | omega | (simp only [vl]; omega)) only [vcd]
        simp [imK, q]
    · simp (disch := first | omega | (simp only [vl]; omega)) only [vcd]
      rw [hx]; rfl
  · simp (disch := first | omega | (simp only [vl]; omega)) only [vcd]
    rw [hr1]; rfl

/-! ### The sums by running -/

def binF (n k : Nat) : Nat := iter (fun i x => x * (n - i) / (i + 1)) k 1
theorem bnm_fast {n : Nat} : ∀ {k : Nat}, k ≤ n → bnm n k = binF n k
  | 0, _ => bnm_0
  | k + 1, h => by
    show _ = binF n k * (n - k) / (k + 1)
    rw [← bnm_fast (by omega), bnm_next (by omega), Nat.mul_div_cancel _ (by omega)]
def spS (n h t : Nat) (x : Int) : Int :=
  (if inR 0 (2 * (n : Int)) (spA n h t) = true then x + (binF (2 * n) (spA n h t).toNat : Int) else x) - (if inR 0 (2 * (n : Int)) (spA n h t + 1) = true then (binF (2 * n) (spA n h t + 1).toNat : Int) else 0)
theorem spS_eq {n h : Nat} : spStep n h = spS n h := by
  funext t x
  unfold spStep spS
  congr 1
  · split
    · rename_i q
      have := inR_iff.1 q
      rw [bnm_fast (by omega)]
    · rfl
  · split
    · rename_i q
      have := inR_iff.1 q
      rw [bnm_fast (by omega)]
    · rfl
theorem ci_eq0 : allB 15 (fun n => allB 16 fun h => decide (imW n h = iter (spS n h) (2 * n + 3) 0)) = true := by kernel_rfl
theorem ci_eq {n h : Nat} (hn : n < 15) (hh : h < 16) : imW n h = spW n h := by
  have := allB_spec (allB_spec ci_eq0 n hn) h hh
  rw [spW, spS_eq]
  exact of_decide_eq_true this

def ciV (a b : Int) : Int := if inR 0 14 a = true ∧ inR 0 15 b = true then spW a.toNat b.toNat else -1

theorem ci_s [Has K 11 ir_spec_CountWithin] [Has K 22 ir_spec_l1In] [Has K 24 ir_spec_l3Binomial] {a b : Int} : K 11 [.n a, .n b] [.n (ciV a b)] := by
  cases h1 : inR 0 14 a
  · refine body_by (f := ir_spec_CountWithin) rfl ?_; simp only [ir_spec_CountWithin]
    simp (disch := first | omega | (simp only [vl]; omega)) only [vcd]
    repeat (first | (refine call_by (l1In_ok (K := K)) rfl ?_; try simp (disch := first | omega | (simp only [vl]; omega)) only [vcd, h1]))
    simp [ciV, h1]
  cases h2 : inR 0 15 b
  · refine body_by (f := ir_spec_CountWithin) rfl ?_; simp only [ir_spec_CountWithin]
    simp (disch := first | omega | (simp only [vl]; omega)) only [vcd]
    repeat (first | (refine call_by (l1In_ok (K := K)) rfl ?_; try simp (disch := first | omega | (simp only [vl]; omega)) only [vcd, h1, h2]) | (refine call_by (l1In_ok (K := K)) rfl ?_; try simp (disch := first | omega | (simp only [vl]; omega)) only [vcd, h1, h2]))
    simp [ciV, h2]
  have b1 := inR_iff.1 h1
  have b2 := inR_iff.1 h2
  obtain ⟨n, rfl⟩ := Int.eq_ofNat_of_zero_le (show 0 ≤ a by omega)
  obtain ⟨h, rfl⟩ := Int.eq_ofNat_of_zero_le (show 0 ≤ b by omega)
  have := ci_s1 (K := K) (n := n) (h := h) (by omega) (by omega)
  simpa [ciV, h1, h2] using this

theorem ci_i [Has K 12 ir_impl_CountWithin] [Has K 23 ir_impl_within] {a b : Int} : K 12 [.n a, .n b] [.n (ciV a b)] := by
  cases h1 : inR 0 14 a
  · refine body_by (f := ir_impl_CountWithin) rfl ?_; simp only [ir_impl_CountWithin]
    simp (disch := first | omega | (simp only [vl]; omega)) only [vcd]
    repeat (first | (refine call_by (within_ok (K := K)) rfl ?_; try simp (disch := first | omega | (simp only [vl]; omega)) only [vcd, h1]))
    simp [ciV, h1]
  cases h2 : inR 0 15 b
  · refine body_by (f := ir_impl_CountWithin) rfl ?_; simp only [ir_impl_CountWithin]
    simp (disch := first | omega | (simp only [vl]; omega)) only [vcd]
    repeat (first | (refine call_by (within_ok (K := K)) rfl ?_; try simp (disch := first | omega | (simp only [vl]; omega)) only [vcd, h1, h2]) | (refine call_by (within_ok (K := K)) rfl ?_; try simp (disch := first | omega | (simp only [vl]; omega)) only [vcd, h1, h2]))
    simp [ciV, h2]
  have b1 := inR_iff.1 h1
  have b2 := inR_iff.1 h2
  obtain ⟨n, rfl⟩ := Int.eq_ofNat_of_zero_le (show 0 ≤ a by omega)
  obtain ⟨h, rfl⟩ := Int.eq_ofNat_of_zero_le (show 0 ≤ b by omega)
  have := ci_i1 (K := K) (n := n) (h := h) (by omega) (by omega)
  rw [ci_eq (by omega) (by omega)] at this
  simpa [ciV, h1, h2] using this

theorem ci_law [Has K 3 ir_laws_FnExactCountWithin] [Has K 11 ir_spec_CountWithin] [Has K 12 ir_impl_CountWithin] [Has K 22 ir_spec_l1In] [Has K 23 ir_impl_within] [Has K 24 ir_spec_l3Binomial] (a b : Int) : K 3 [.n a, .n b] [.b true] := by
  refine body_by (f := ir_laws_FnExactCountWithin) rfl ?_; simp only [ir_laws_FnExactCountWithin]
  simp (disch := first | omega | (simp only [vl]; omega)) only [vcd]
  repeat (first | (refine call_by (ci_s (K := K)) rfl ?_; try simp (disch := first | omega | (simp only [vl]; omega)) only [vcd]) | (refine call_by (ci_i (K := K)) rfl ?_; try simp (disch := first | omega | (simp only [vl]; omega)) only [vcd]))
end Go.Cat

