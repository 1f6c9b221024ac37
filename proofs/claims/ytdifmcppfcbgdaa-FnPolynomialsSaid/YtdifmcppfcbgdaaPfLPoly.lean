/-
  FnPolynomials holds.
-/
import Derived.Test.YtdifmcppfcbgdaaPfPolyA
import Derived.Test.YtdifmcppfcbgdaaPfPolyL
import Derived.Test.YtdifmcppfcbgdaaPfLSer
import Derived.Test.YtdifmcppfcbgdaaIrAllA
namespace Go.Cat
set_option linter.unusedSimpArgs false
set_option maxRecDepth 100000
variable {K : Nat → List D → List D → Prop}

/-! ### Draws -/
theorem l14Any_ok [Has K 289 ir_spec_l1Below] [Has K 307 ir_spec_l1Once] [Has K 313 ir_spec_l1PickInt] [Has K 316 ir_spec_l1Byte] [Has K 459 ir_spec_l14Any] [Has K 463 ir_spec_l14Trim] {d : D} (hd : Cur d) : ∃ rs, (∃ x d', rs = [LI x, d'] ∧ x.length ≤ 8 ∧ Cur d') ∧ K 459 [d] rs := by
  refine body_ex (f := ir_spec_l14Any) rfl ?_; simp only [ir_spec_l14Any]
  obtain ⟨_, ⟨n, d1, rfl, hn, hd1⟩, k1⟩ := l1Below_ok (K := K) hd (n := 6)
  have hn := hn.2 (by omega)
  simp (disch := first | omega | (simp only [vl]; omega)) only [vcd, LI_nil]
  refine call_by (k1) rfl ?_
  simp (disch := first | omega | (simp only [vl]; omega)) only [vcd]
  refine loop_wh (fun (q : D × List Int × Int) => Cur q.1 ∧ (0 ≤ q.2.2 ∧ (q.2.1.length : Int) + q.2.2 ≤ 6)) (fun q => [q.1, .u, LI q.2.1, .n q.2.2, .u, .u]) (fun q => q.2.2.toNat) (d1, [], n) ⟨hd1, by simp; omega⟩ rfl ?_
  rintro ⟨d4, x, r⟩ ⟨hd4, hr⟩
  simp only at hd4 hr ⊢
  by_cases hr0 : 0 < r
  · obtain ⟨_, ⟨y, d5, rfl, hy, hd5⟩, k4⟩ := l1Below_ok (K := K) hd4 (n := 7)
    have hy := hy.2 (by omega)
    simp (disch := first | omega | (simp only [vl]; omega)) only [vcd]
    refine call_by (k4) rfl ?_
    simp (disch := first | omega | (simp only [vl]; omega)) only [vcd]
    exact ⟨(d5, x ++ [y - 3], r - 1), by show (r - 1).toNat < r.toNat; omega, ⟨hd5, by simp; omega⟩, rfl⟩
  · obtain ⟨_, ⟨b, d5, rfl, hd5⟩, k4⟩ := l1Once_ok (K := K) hd4 (n := 8)
    simp (disch := first | omega | (simp only [vl]; omega)) only [vcd]
    refine call_by (k4) rfl ?_
    cases b
    · have ht := trimF_len (p := x)
      have ht2 := trN_le (p := x) x.length
      simp (disch := first | omega | (simp only [vl]; omega)) only [vcd]
      refine call_by (trim_s (K := K) (p := x) (by omega)) rfl ?_
      simp (disch := first | omega | (simp only [vl]; omega)) only [vcd]
      exact ⟨_, _, rfl, by omega, hd5⟩
    · obtain ⟨_, ⟨a0, d6, rfl, hd6⟩, k5⟩ := l1PickInt_ok (K := K) hd5 (l := [0, 100001, 1000000000, 1000000001, -9223372036854775808]) (by simp) (by simp)
      simp (disch := first | omega | (simp only [vl]; omega)) only [vcd, liI_c, consS_LI]
      refine call_by (k5) rfl ?_
      simp (disch := first | omega | (simp only [vl]; omega)) only [vcd]
      exact ⟨_, _, rfl, by simp; omega, hd6⟩
theorem DrawDivide_ok [Has K 288 ir_spec_l1New] [Has K 289 ir_spec_l1Below] [Has K 307 ir_spec_l1Once] [Has K 313 ir_spec_l1PickInt] [Has K 316 ir_spec_l1Byte] [Has K 402 ir_spec_DrawDividePolynomials] [Has K 459 ir_spec_l14Any] [Has K 463 ir_spec_l14Trim] {code : List Nat} (h : code.length ≤ 1048576) : ∃ rs, (∃ x y, rs = [LI x, LI y] ∧ x.length ≤ 8 ∧ y.length ≤ 8) ∧ K 402 [LB code] rs := by
  refine body_ex (f := ir_spec_DrawDividePolynomials) rfl ?_; simp only [ir_spec_DrawDividePolynomials]
  obtain ⟨_, ⟨d, rfl, hd⟩, k1⟩ := l1New_ok (K := K) h
  obtain ⟨_, ⟨x, d1, rfl, hx, hd1⟩, k2⟩ := l14Any_ok (K := K) hd
  obtain ⟨_, ⟨b, d2, rfl, hd2⟩, k3⟩ := l1Once_ok (K := K) hd1 (n := 4)
  simp (disch := first | omega | (simp only [vl]; omega)) only [vcd]
  refine call_by (k1) rfl ?_
  simp (disch := first | omega | (simp only [vl]; omega)) only [vcd]
  refine call_by (k2) rfl ?_
  simp (disch := first | omega | (simp only [vl]; omega)) only [vcd]
  refine call_by (k3) rfl ?_
  cases b
  · obtain ⟨_, ⟨n, d3, rfl, hn, hd3⟩, k4⟩ := l1Below_ok (K := K) hd2 (n := 4)
    have hn := hn.2 (by omega)
    simp (disch := first | omega | (simp only [vl]; omega)) only [vcd, LI_nil]
    refine call_by (k4) rfl ?_
    simp (disch := first | omega | (simp only [vl]; omega)) only [vcd]
    refine loop_wh (fun (q : D × List Int × Int) => Cur q.1 ∧ (0 ≤ q.2.2 ∧ (q.2.1.length : Int) + q.2.2 ≤ 6)) (fun q => [.u, .u, .u, q.1, LI x, LI q.2.1, .n q.2.2, .u, .u]) (fun q => q.2.2.toNat) (d3, [], n) ⟨hd3, by simp; omega⟩ rfl ?_
    rintro ⟨d4, y, r⟩ ⟨hd4, hr⟩
    simp only at hd4 hr ⊢
    by_cases hr0 : 0 < r
    · obtain ⟨_, ⟨z, d5, rfl, hz, hd5⟩, k5⟩ := l1Below_ok (K := K) hd4 (n := 3)
      have hz := hz.2 (by omega)
      simp (disch := first | omega | (simp only [vl]; omega)) only [vcd]
      refine call_by (k5) rfl ?_
      simp (disch := first | omega | (simp only [vl]; omega)) only [vcd]
      exact ⟨(d5, y ++ [z - 1], r - 1), by show (r - 1).toNat < r.toNat; omega, ⟨hd5, by simp; omega⟩, rfl⟩
    · simp (disch := first | omega | (simp only [vl]; omega)) only [vcd]
      exact ⟨_, _, rfl, hx, by simp; omega⟩
  · obtain ⟨_, ⟨y, d3, rfl, hy, hd3⟩, k4⟩ := l14Any_ok (K := K) hd2
    simp (disch := first | omega | (simp only [vl]; omega)) only [vcd]
    refine call_by (k4) rfl ?_
    simp (disch := first | omega | (simp only [vl]; omega)) only [vcd]
    exact ⟨_, _, rfl, hx, hy⟩
theorem l14Two_ok [Has K 288 ir_spec_l1New] [Has K 289 ir_spec_l1Below] [Has K 307 ir_spec_l1Once] [Has K 313 ir_spec_l1PickInt] [Has K 316 ir_spec_l1Byte] [Has K 459 ir_spec_l14Any] [Has K 463 ir_spec_l14Trim] [Has K 468 ir_spec_l14Two] {code : List Nat} (h : code.length ≤ 1048576) : ∃ rs, (∃ x y, rs = [LI x, LI y] ∧ x.length ≤ 8 ∧ y.length ≤ 8) ∧ K 468 [LB code] rs := by
  refine body_ex (f := ir_spec_l14Two) rfl ?_; simp only [ir_spec_l14Two]
  obtain ⟨_, ⟨d, rfl, hd⟩, k1⟩ := l1New_ok (K := K) h
  obtain ⟨_, ⟨x, d1, rfl, hx, hd1⟩, k2⟩ := l14Any_ok (K := K) hd
  obtain ⟨_, ⟨y, d2, rfl, hy, hd2⟩, k3⟩ := l14Any_ok (K := K) hd1
  simp (disch := first | omega | (simp only [vl]; omega)) only [vcd]
  refine call_by (k1) rfl ?_
  simp (disch := first | omega | (simp only [vl]; omega)) only [vcd]
  refine call_by (k2) rfl ?_
  simp (disch := first | omega | (simp only [vl]; omega)) only [vcd]
  refine call_by (k3) rfl ?_
  simp (disch := first | omega | (simp only [vl]; omega)) only [vcd]
  exact ⟨_, _, rfl, hx, hy⟩
theorem DrawMulP_ok [Has K 288 ir_spec_l1New] [Has K 289 ir_spec_l1Below] [Has K 307 ir_spec_l1Once] [Has K 313 ir_spec_l1PickInt] [Has K 316 ir_spec_l1Byte] [Has K 415 ir_spec_DrawMultiplyPolynomials] [Has K 459 ir_spec_l14Any] [Has K 463 ir_spec_l14Trim] [Has K 468 ir_spec_l14Two] {code : List Nat} (h : code.length ≤ 1048576) : ∃ rs, (∃ x y, rs = [LI x, LI y] ∧ x.length ≤ 8 ∧ y.length ≤ 8) ∧ K 415 [LB code] rs := by
  refine body_ex (f := ir_spec_DrawMultiplyPolynomials) rfl ?_; simp only [ir_spec_DrawMultiplyPolynomials]
  obtain ⟨_, ⟨x, y, rfl, hx, hy⟩, k1⟩ := l14Two_ok (K := K) h
  simp (disch := first | omega | (simp only [vl]; omega)) only [vcd]
  refine call_by (k1) rfl ?_
  simp (disch := first | omega | (simp only [vl]; omega)) only [vcd]
  exact ⟨_, _, rfl, hx, hy⟩
theorem DrawAddP_ok [Has K 288 ir_spec_l1New] [Has K 289 ir_spec_l1Below] [Has K 307 ir_spec_l1Once] [Has K 313 ir_spec_l1PickInt] [Has K 316 ir_spec_l1Byte] [Has K 417 ir_spec_DrawAddPolynomials] [Has K 459 ir_spec_l14Any] [Has K 463 ir_spec_l14Trim] [Has K 468 ir_spec_l14Two] {code : List Nat} (h : code.length ≤ 1048576) : ∃ rs, (∃ x y, rs = [LI x, LI y] ∧ x.length ≤ 8 ∧ y.length ≤ 8) ∧ K 417 [LB code] rs := by
  refine body_ex (f := ir_spec_DrawAddPolynomials) rfl ?_; simp only [ir_spec_DrawAddPolynomials]
  obtain ⟨_, ⟨x, y, rfl, hx, hy⟩, k1⟩ := l14Two_ok (K := K) h
  simp (disch := first | omega | (simp only [vl]; omega)) only [vcd]
  refine call_by (k1) rfl ?_
  simp (disch := first | omega | (simp only [vl]; omega)) only [vcd]
  exact ⟨_, _, rfl, hx, hy⟩
theorem DrawValP_ok [Has K 288 ir_spec_l1New] [Has K 289 ir_spec_l1Below] [Has K 307 ir_spec_l1Once] [Has K 313 ir_spec_l1PickInt] [Has K 316 ir_spec_l1Byte] [Has K 419 ir_spec_DrawValueAt] [Has K 459 ir_spec_l14Any] [Has K 463 ir_spec_l14Trim] {code : List Nat} (h : code.length ≤ 1048576) : ∃ rs, (∃ x y, rs = [LI x, .n y] ∧ x.length ≤ 8) ∧ K 419 [LB code] rs := by
  refine body_ex (f := ir_spec_DrawValueAt) rfl ?_; simp only [ir_spec_DrawValueAt]
  obtain ⟨_, ⟨d, rfl, hd⟩, k1⟩ := l1New_ok (K := K) h
  obtain ⟨_, ⟨x, d1, rfl, hx, hd1⟩, k2⟩ := l14Any_ok (K := K) hd
  obtain ⟨_, ⟨y, d2, rfl, hd2⟩, k3⟩ := l1PickInt_ok (K := K) hd1 (l := [0, 1, -1, 2, -2, 3, 9223372036854775807]) (by simp) (by simp)
  simp (disch := first | omega | (simp only [vl]; omega)) only [vcd]
  refine call_by (k1) rfl ?_
  simp (disch := first | omega | (simp only [vl]; omega)) only [vcd]
  refine call_by (k2) rfl ?_
  simp (disch := first | omega | (simp only [vl]; omega)) only [vcd, liI_c, consS_LI]
  refine call_by (k3) rfl ?_
  simp (disch := first | omega | (simp only [vl]; omega)) only [vcd]
  exact ⟨_, _, rfl, hx⟩
theorem DrawBinP_ok [Has K 288 ir_spec_l1New] [Has K 289 ir_spec_l1Below] [Has K 316 ir_spec_l1Byte] [Has K 411 ir_spec_DrawBinomialPolynomial] {code : List Nat} (h : code.length ≤ 1048576) : ∃ rs, (∃ x y, rs = [.n x, .n y] ∧ (-1 ≤ x ∧ x ≤ 11) ∧ -1 ≤ y ∧ y ≤ 6) ∧ K 411 [LB code] rs := by
  refine body_ex (f := ir_spec_DrawBinomialPolynomial) rfl ?_; simp only [ir_spec_DrawBinomialPolynomial]
  obtain ⟨_, ⟨d, rfl, hd⟩, k1⟩ := l1New_ok (K := K) h
  obtain ⟨_, ⟨x, d1, rfl, hx, hd1⟩, k2⟩ := l1Below_ok (K := K) hd (n := 13)
  obtain ⟨_, ⟨y, d2, rfl, hy, hd2⟩, k3⟩ := l1Below_ok (K := K) hd1 (n := 8)
  have hx := hx.2 (by omega)
  have hy := hy.2 (by omega)
  simp (disch := first | omega | (simp only [vl]; omega)) only [vcd]
  refine call_by (k1) rfl ?_
  simp (disch := first | omega | (simp only [vl]; omega)) only [vcd]
  refine call_by (k2) rfl ?_
  simp (disch := first | omega | (simp only [vl]; omega)) only [vcd]
  refine call_by (k3) rfl ?_
  simp (disch := first | omega | (simp only [vl]; omega)) only [vcd]
  exact ⟨_, _, rfl, by omega, by omega, by omega⟩
theorem DrawNumP_ok [Has K 288 ir_spec_l1New] [Has K 289 ir_spec_l1Below] [Has K 316 ir_spec_l1Byte] [Has K 421 ir_spec_DrawNumberPolynomial] {code : List Nat} (h : code.length ≤ 1048576) : ∃ rs, (∃ x, rs = [.n x]) ∧ K 421 [LB code] rs := by
  refine body_ex (f := ir_spec_DrawNumberPolynomial) rfl ?_; simp only [ir_spec_DrawNumberPolynomial]
  obtain ⟨_, ⟨d, rfl, hd⟩, k1⟩ := l1New_ok (K := K) h
  obtain ⟨_, ⟨x, d1, rfl, hx, hd1⟩, k2⟩ := l1Below_ok (K := K) hd (n := 24)
  have hx := hx.2 (by omega)
  simp (disch := first | omega | (simp only [vl]; omega)) only [vcd]
  refine call_by (k1) rfl ?_
  simp (disch := first | omega | (simp only [vl]; omega)) only [vcd]
  refine call_by (k2) rfl ?_
  simp (disch := first | omega | (simp only [vl]; omega)) only [vcd]
  exact ⟨_, rfl⟩
theorem DrawCatP_ok [Has K 288 ir_spec_l1New] [Has K 289 ir_spec_l1Below] [Has K 316 ir_spec_l1Byte] [Has K 424 ir_spec_DrawCatalanPolynomial] {code : List Nat} (h : code.length ≤ 1048576) : ∃ rs, (∃ x, rs = [.n x]) ∧ K 424 [LB code] rs := by
  refine body_ex (f := ir_spec_DrawCatalanPolynomial) rfl ?_; simp only [ir_spec_DrawCatalanPolynomial]
  obtain ⟨_, ⟨d, rfl, hd⟩, k1⟩ := l1New_ok (K := K) h
  obtain ⟨_, ⟨x, d1, rfl, hx, hd1⟩, k2⟩ := l1Below_ok (K := K) hd (n := 10)
  have hx := hx.2 (by omega)
  simp (disch := first | omega | (simp only [vl]; omega)) only [vcd]
  refine call_by (k1) rfl ?_
  simp (disch := first | omega | (simp only [vl]; omega)) only [vcd]
  refine call_by (k2) rfl ?_
  simp (disch := first | omega | (simp only [vl]; omega)) only [vcd]
  exact ⟨_, rfl⟩
theorem DrawAreP_ok [Has K 288 ir_spec_l1New] [Has K 289 ir_spec_l1Below] [Has K 316 ir_spec_l1Byte] [Has K 426 ir_spec_DrawAreaPolynomial] {code : List Nat} (h : code.length ≤ 1048576) : ∃ rs, (∃ x, rs = [.n x]) ∧ K 426 [LB code] rs := by
  refine body_ex (f := ir_spec_DrawAreaPolynomial) rfl ?_; simp only [ir_spec_DrawAreaPolynomial]
  obtain ⟨_, ⟨d, rfl, hd⟩, k1⟩ := l1New_ok (K := K) h
  obtain ⟨_, ⟨x, d1, rfl, hx, hd1⟩, k2⟩ := l1Below_ok (K := K) hd (n := 11)
  have hx := hx.2 (by omega)
  simp (disch := first | omega | (simp only [vl]; omega)) only [vcd]
  refine call_by (k1) rfl ?_
  simp (disch := first | omega | (simp only [vl]; omega)) only [vcd]
  refine call_by (k2) rfl ?_
  simp (disch := first | omega | (simp only [vl]; omega)) only [vcd]
  exact ⟨_, rfl⟩
theorem atP_ok [Has K 407 ir_laws_at] {code : List Nat} {k : Nat} (h : code.length ≤ 1048576) (hb : ∀ c ∈ code, c < 256) (hk : k ≤ 100) : ∃ rs, (∃ v : Int, rs = [.n v] ∧ 0 ≤ v ∧ v ≤ 255) ∧ K 407 [LB code, .n k] rs := by
  refine body_ex (f := ir_laws_at) rfl ?_; simp only [ir_laws_at]
  simp (disch := first | omega | (simp only [vl]; omega)) only [vcd]
  by_cases q : k < code.length
  · have hm : atB code k < 256 := hb _ (by simp [atB, q])
    simp (disch := first | omega | (simp only [vl]; omega)) only [vcd]
    exact ⟨_, rfl, by omega, by omega⟩
  · simp (disch := first | omega | (simp only [vl]; omega)) only [vcd]
    exact ⟨_, rfl, by omega, by omega⟩

/-! ### Binomials at 1 -/
theorem bcw0 : allB 12 (fun m => allB (m + 1) fun k => isN (evF (tableOf tcwi) 60 8 10 [.n (k : Nat), .n ((m - k : Nat) : Int)]) ((bnT.getD m []).getD k 0)) = true := by kernel_rfl
theorem bva0 : allB 12 (fun m => allB (m + 1) fun k => vaO (gs m k) 1 && decide (vaR (gs m k) 1 = (bnT.getD m []).getD k 0)) = true := by kernel_rfl
theorem dvM_len {a b s t : List Int} (h : dvM a b = some (s, t)) : s.length ≤ 61 ∧ t.length ≤ 61 := by
  simp only [dvM] at h
  split at h
  · cases hd : dvL b (dvN a b) (a, rep (dvN a b : Nat) 0) with
    | none => rw [hd] at h; cases h
    | some y =>
      rw [hd] at h
      simp only [Option.bind_some] at h
      split at h
      · rename_i hp
        simp only [Bool.and_eq_true] at hp
        simp only [Option.some.injEq, Prod.mk.injEq] at h
        obtain ⟨rfl, rfl⟩ := h
        exact ⟨polF_len hp.1, polF_len hp.2⟩
      · cases h
  · cases h
theorem mlR_len {a b : List Int} : (mlR a b).length ≤ 61 := by
  unfold mlR
  split
  · rename_i h
    simp only [mlO, Bool.and_eq_true] at h
    exact polF_len h.2
  · simp
theorem adR_len {a b : List Int} : (adR a b).length ≤ 61 := by
  unfold adR
  split
  · rename_i h
    simp only [adO, Bool.and_eq_true] at h
    exact polF_len h.2
  · simp
theorem bnR_len {n k : Int} : (bnR n k).length ≤ 1000 := by
  unfold bnR
  split
  · rename_i h
    simp only [bnO, Bool.and_eq_true] at h
    have b1 := inR_iff.1 h.1
    have b2 := inR_iff.1 h.2
    have h1 := gs_len (n := n.toNat) (k := k.toNat) (by omega) (by omega)
    have h2 := mul_49 (n := n.toNat) (k := k.toNat) (by omega) (by omega)
    omega
  · simp
theorem npR_len {n : Int} : (npR n).length ≤ 20 := by
  unfold npR
  split
  · rename_i h
    have := inR_iff.1 h
    rw [rep_len]; omega
  · simp
theorem tab0 : (cpT.all fun l => decide (l.length ≤ 100)) && (arT.all fun l => decide (l.length ≤ 100)) = true := by kernel_rfl
theorem cpT_len {n : Nat} : (cpT.getD n []).length ≤ 100 := by
  have h := tab0
  simp only [Bool.and_eq_true, List.all_eq_true, decide_eq_true_eq] at h
  rcases Nat.lt_or_ge n cpT.length with c | c
  · rw [List.getD_eq_getElem?_getD, List.getElem?_eq_getElem c]; exact h.1 _ (List.getElem_mem c)
  · rw [List.getD_eq_getElem?_getD, List.getElem?_eq_none c]; simp
theorem arT_len {n : Nat} : (arT.getD n []).length ≤ 100 := by
  have h := tab0
  simp only [Bool.and_eq_true, List.all_eq_true, decide_eq_true_eq] at h
  rcases Nat.lt_or_ge n arT.length with c | c
  · rw [List.getD_eq_getElem?_getD, List.getElem?_eq_getElem c]; exact h.2 _ (List.getElem_mem c)
  · rw [List.getD_eq_getElem?_getD, List.getElem?_eq_none c]; simp
theorem cpR_len {n : Int} : (cpR n).length ≤ 100 := by
  unfold cpR
  split
  · exact cpT_len
  · simp
theorem aoR_len {n : Int} : (aoR n).length ≤ 100 := by
  unfold aoR
  split
  · exact arT_len
  · simp
set_option maxHeartbeats 4000000 in
theorem pol_law [Has K 10 ir_impl_CountWords] [Has K 22 ir_spec_l1In] [Has K 23 ir_impl_within] [Has K 25 ir_impl_choose] [Has K 64 ir_spec_IsDyck] [Has K 67 ir_impl_IsDyck] [Has K 75 ir_impl_copyInts] [Has K 82 ir_impl_heights] [Has K 138 ir_spec_FormatInt] [Has K 143 ir_impl_FormatInt] [Has K 184 ir_impl_glued] [Has K 220 ir_laws_big] [Has K 234 ir_spec_PathsOf] [Has K 235 ir_spec_StatisticOf] [Has K 239 ir_laws_sameInts] [Has K 288 ir_spec_l1New] [Has K 289 ir_spec_l1Below] [Has K 292 ir_spec_l3All] [Has K 293 ir_spec_PeaksOf] [Has K 294 ir_spec_ReturnsOf] [Has K 295 ir_spec_l13Run] [Has K 296 ir_spec_AreaOf] [Has K 297 ir_spec_BracketsOf] [Has K 298 ir_spec_DepthOf] [Has K 299 ir_spec_PlaneOf] [Has K 300 ir_spec_LeavesOf] [Has K 301 ir_spec_PartitionOf] [Has K 302 ir_spec_BlocksOf] [Has K 303 ir_spec_MajorOf] [Has K 307 ir_spec_l1Once] [Has K 313 ir_spec_l1PickInt] [Has K 314 ir_impl_allPaths] [Has K 316 ir_spec_l1Byte] [Has K 319 ir_spec_HeightsOf] [Has K 320 ir_spec_PathOfBrackets] [Has K 321 ir_spec_IsPlane] [Has K 322 ir_spec_ChildrenOf] [Has K 323 ir_spec_l8Renumber] [Has K 324 ir_spec_IsPartition] [Has K 326 ir_impl_allPaths_f1] [Has K 398 ir_laws_FnPolynomials] [Has K 402 ir_spec_DrawDividePolynomials] [Has K 403 ir_impl_DividePolynomials] [Has K 404 ir_spec_DividePolynomials] [Has K 405 ir_spec_MultiplyPolynomials] [Has K 406 ir_spec_AddPolynomials] [Has K 407 ir_laws_at] [Has K 408 ir_impl_CatalanPolynomial] [Has K 409 ir_impl_AreaPolynomial] [Has K 410 ir_spec_DistributionOf] [Has K 411 ir_spec_DrawBinomialPolynomial] [Has K 412 ir_impl_BinomialPolynomial] [Has K 413 ir_spec_BinomialPolynomial] [Has K 414 ir_impl_ValueAt] [Has K 415 ir_spec_DrawMultiplyPolynomials] [Has K 416 ir_impl_MultiplyPolynomials] [Has K 417 ir_spec_DrawAddPolynomials] [Has K 418 ir_impl_AddPolynomials] [Has K 419 ir_spec_DrawValueAt] [Has K 420 ir_spec_ValueAt] [Has K 421 ir_spec_DrawNumberPolynomial] [Has K 422 ir_impl_NumberPolynomial] [Has K 423 ir_spec_NumberPolynomial] [Has K 424 ir_spec_DrawCatalanPolynomial] [Has K 425 ir_spec_CatalanPolynomial] [Has K 426 ir_spec_DrawAreaPolynomial] [Has K 427 ir_spec_AreaPolynomial] [Has K 428 ir_impl_IsPolynomial] [Has K 429 ir_spec_IsPolynomial] [Has K 430 ir_impl_FormatPolynomial] [Has K 431 ir_spec_FormatPolynomial] [Has K 459 ir_spec_l14Any] [Has K 460 ir_impl_isFactor] [Has K 461 ir_impl_divide] [Has K 462 ir_spec_l14Small] [Has K 463 ir_spec_l14Trim] [Has K 464 ir_spec_l14Times] [Has K 465 ir_impl_AreaOf] [Has K 466 ir_impl_gauss] [Has K 467 ir_spec_l14Binomial] [Has K 468 ir_spec_l14Two] [Has K 469 ir_impl_trimmed] [Has K 470 ir_spec_l14Number] [Has K 471 ir_spec_l14Divide] [Has K 501 ir_impl_HeightsOf] {code : List Nat} (hb : ∀ c ∈ code, c < 256) : K 398 [LB code] [.b true] := by
  refine body_by (f := ir_laws_FnPolynomials) rfl ?_; simp only [ir_laws_FnPolynomials]
  simp (disch := first | omega | (simp only [vl]; omega)) only [vcd]
  refine call_by (bigS_ok (K := K) (code := code)) rfl ?_
  by_cases hl : 1048576 < code.length
  · simp (disch := first | omega | (simp only [vl]; omega)) only [vcd]
  · have hl : code.length ≤ 1048576 := by omega
    obtain ⟨_, ⟨a, b, rfl, ha, hb2⟩, k1⟩ := DrawDivide_ok (K := K) hl
    obtain ⟨_, ⟨v, rfl, hv⟩, k2⟩ := atP_ok (K := K) (k := 1) hl hb (by omega)
    obtain ⟨_, ⟨m, c, rfl, hm, hc⟩, k3⟩ := DrawBinP_ok (K := K) hl
    obtain ⟨_, ⟨p, e, rfl, hp, he⟩, k4⟩ := DrawMulP_ok (K := K) hl
    obtain ⟨_, ⟨u, u2, rfl, hu, hu2⟩, k5⟩ := DrawAddP_ok (K := K) hl
    obtain ⟨_, ⟨y, z, rfl, hy⟩, k6⟩ := DrawValP_ok (K := K) hl
    obtain ⟨_, ⟨cc, rfl⟩, k7⟩ := DrawNumP_ok (K := K) hl
    obtain ⟨_, ⟨ff, rfl⟩, k8⟩ := DrawCatP_ok (K := K) hl
    obtain ⟨_, ⟨ii, rfl⟩, k9⟩ := DrawAreP_ok (K := K) hl
    have kd1 := dv_i (K := K) (a := a) (b := b) (by omega) (by omega)
    have kd2 := dv_s (K := K) (a := a) (b := b) (by omega) (by omega)
    simp (disch := first | omega | (simp only [vl]; omega)) only [vcd]
    refine call_by (k1) rfl ?_
    simp (disch := first | omega | (simp only [vl]; omega)) only [vcd]
    apply joinS
    · intro hG
      cases hq : dvM a b with
      | none =>
        rw [hq] at kd1 kd2
        refine call_by (kd1) rfl ?_
        simp (disch := first | omega | (simp only [vl]; omega)) only [vcd]
        refine call_by (kd2) rfl ?_
        simp (disch := first | omega | (simp only [vl]; omega)) only [vcd]
        refine call_by (sameInts_t (K := K) (a := []) (by simp)) rfl ?_
        simp (disch := first | omega | (simp only [vl]; omega)) only [vcd]
        refine call_by (sameInts_t (K := K) (a := []) (by simp)) rfl ?_
        simp (disch := first | omega | (simp only [vl]; omega)) only [vcd]
        refine call_by (k2) rfl ?_
        simp (disch := first | omega | (simp only [vl]; omega)) only [vcd]
        exact hG
      | some x =>
        obtain ⟨s, t⟩ := x
        rw [hq] at kd1 kd2
        obtain ⟨ls, lt⟩ := dvM_len hq
        obtain ⟨hlt, hback⟩ := dv_back hq
        have lm := mlR_len (a := s) (b := b)
        have la := adR_len (a := mlR s b) (b := t)
        refine call_by (kd1) rfl ?_
        simp (disch := first | omega | (simp only [vl]; omega)) only [vcd]
        refine call_by (kd2) rfl ?_
        simp (disch := first | omega | (simp only [vl]; omega)) only [vcd]
        refine call_by (sameInts_t (K := K) (a := s) (by omega)) rfl ?_
        simp (disch := first | omega | (simp only [vl]; omega)) only [vcd]
        refine call_by (sameInts_t (K := K) (a := t) (by omega)) rfl ?_
        simp (disch := first | omega | (simp only [vl]; omega)) only [vcd]
        refine call_by (ml_s (K := K) (a := s) (b := b) (by omega) (by omega)) rfl ?_
        simp (disch := first | omega | (simp only [vl]; omega)) only [vcd]
        refine call_by (add_s (K := K) (a := mlR s b) (b := t) (by omega) (by omega)) rfl ?_
        cases h1 : mlO s b
        · simp (disch := first | omega | (simp only [vl]; omega)) only [vcd]
          refine call_by (k2) rfl ?_
          simp (disch := first | omega | (simp only [vl]; omega)) only [vcd]
          exact hG
        · cases h2 : adO (mlR s b) t
          · simp (disch := first | omega | (simp only [vl]; omega)) only [vcd]
            refine call_by (k2) rfl ?_
            simp (disch := first | omega | (simp only [vl]; omega)) only [vcd]
            exact hG
          · rw [hback h1 h2]
            simp (disch := first | omega | (simp only [vl]; omega)) only [vcd]
            refine call_by (sameInts_t (K := K) (a := a) (by omega)) rfl ?_
            simp (disch := first | omega | (simp only [vl]; omega)) only [vcd]
            refine call_by (k2) rfl ?_
            simp (disch := first | omega | (simp only [vl]; omega)) only [vcd]
            exact hG
    · obtain ⟨n, hn⟩ : ∃ n : Nat, (n : Int) = v % 7 := ⟨(v % 7).toNat, by omega⟩
      have hn7 : n < 7 := by omega
      have ec : cpR (n : Int) = cpT.getD n [] := by simp only [cpR, inR_iff.2 (show 0 ≤ (n : Int) ∧ (n : Int) ≤ 7 by omega), if_true, Int.toNat_natCast]
      have ea : aoR (n : Int) = arT.getD n [] := by simp only [aoR, inR_iff.2 (show 0 ≤ (n : Int) ∧ (n : Int) ≤ 8 by omega), if_true, Int.toNat_natCast]
      have kc := cpo_i (K := K) (n := n)
      have ka := aop_i (K := K) (n := n)
      rw [ec] at kc
      rw [ea] at ka
      have lc := cpT_len (n := n)
      have lar := arT_len (n := n)
      rw [← hn]
      refine call_by (kc) rfl ?_
      simp (disch := first | omega | (simp only [vl]; omega)) only [vcd]
      refine call_by (ka) rfl ?_
      simp (disch := first | omega | (simp only [vl]; omega)) only [vcd]
      refine call_by (dismaj (K := K) hn7) rfl ?_
      simp (disch := first | omega | (simp only [vl]; omega)) only [vcd]
      refine call_by (disare (K := K) hn7) rfl ?_
      simp (disch := first | omega | (simp only [vl]; omega)) only [vcd]
      refine call_by (sameInts_t (K := K) (a := cpT.getD n []) (by omega)) rfl ?_
      simp (disch := first | omega | (simp only [vl]; omega)) only [vcd]
      refine call_by (sameInts_t (K := K) (a := arT.getD n []) (by omega)) rfl ?_
      simp (disch := first | omega | (simp only [vl]; omega)) only [vcd]
      refine call_by (k3) rfl ?_
      simp (disch := first | omega | (simp only [vl]; omega)) only [vcd]
      refine call_by (bpo_i (K := K) (n := m) (k := c)) rfl ?_
      simp (disch := first | omega | (simp only [vl]; omega)) only [vcd]
      refine call_by (bpo_s (K := K) (n := m) (k := c)) rfl ?_
      have lb := bnR_len (n := m) (k := c)
      simp (disch := first | omega | (simp only [vl]; omega)) only [vcd]
      refine call_by (sameInts_t (K := K) (a := bnR m c) (by omega)) rfl ?_
      apply joinS
      · intro hG
        cases ho : bnO m c
        · simp (disch := first | omega | (simp only [vl]; omega)) only [vcd]
          refine call_by (k4) rfl ?_
          simp (disch := first | omega | (simp only [vl]; omega)) only [vcd]
          exact hG
        · have ho2 := ho
          simp only [bnO, Bool.and_eq_true] at ho2
          have b1 := inR_iff.1 ho2.1
          have b2 := inR_iff.1 ho2.2
          have ho3 : bnO m (m - c) = true := by
            simp only [bnO, Bool.and_eq_true]
            exact ⟨ho2.1, inR_iff.2 (by omega)⟩
          have er : bnR m c = gs m.toNat c.toNat := by simp only [bnR, ho, if_true]
          have er2 : bnR m (m - c) = gs m.toNat c.toNat := by
            simp only [bnR, ho3, if_true]
            rw [show (m - c).toNat = m.toNat - c.toNat by omega]
            exact gs_sym (by omega) (by omega)
          have v1 := allB_spec (allB_spec bva0 m.toNat (by omega)) c.toNat (by omega)
          simp only [Bool.and_eq_true, decide_eq_true_eq] at v1
          have kv := va_i (K := K) (p := gs m.toNat c.toNat) (x := 1) (by rw [← er]; omega)
          rw [v1.1, v1.2] at kv
          have kw := run (K := K) tcwi 60 8 10 (isN_spec (allB_spec (allB_spec bcw0 m.toNat (by omega)) c.toNat (by omega)))
          rw [show ((c.toNat : Nat) : Int) = c by omega, show ((m.toNat - c.toNat : Nat) : Int) = m - c by omega] at kw
          have k10 := bpo_i (K := K) (n := m) (k := m - c)
          rw [ho3, er2] at k10
          rw [er] at lb ⊢
          simp (disch := first | omega | (simp only [vl]; omega)) only [vcd]
          refine call_by (k10) rfl ?_
          simp (disch := first | omega | (simp only [vl]; omega)) only [vcd]
          refine call_by (kv) rfl ?_
          simp (disch := first | omega | (simp only [vl]; omega)) only [vcd]
          refine call_by (sameInts_t (K := K) (a := gs m.toNat c.toNat) (by omega)) rfl ?_
          simp (disch := first | omega | (simp only [vl]; omega)) only [vcd]
          refine call_by (kw) rfl ?_
          simp (disch := first | omega | (simp only [vl]; omega)) only [vcd]
          refine call_by (k4) rfl ?_
          simp (disch := first | omega | (simp only [vl]; omega)) only [vcd]
          exact hG
      · have l1 := mlR_len (a := p) (b := e)
        have l2 := adR_len (a := u) (b := u2)
        have l3 := npR_len (n := cc)
        have l4 := cpR_len (n := ff)
        have l5 := aoR_len (n := ii)
        refine call_by (ml_i (K := K) (a := p) (b := e) (by omega) (by omega)) rfl ?_
        simp (disch := first | omega | (simp only [vl]; omega)) only [vcd]
        refine call_by (ml_s (K := K) (a := p) (b := e) (by omega) (by omega)) rfl ?_
        simp (disch := first | omega | (simp only [vl]; omega)) only [vcd]
        refine call_by (k5) rfl ?_
        simp (disch := first | omega | (simp only [vl]; omega)) only [vcd]
        refine call_by (add_i (K := K) (a := u) (b := u2) (by omega) (by omega)) rfl ?_
        simp (disch := first | omega | (simp only [vl]; omega)) only [vcd]
        refine call_by (add_s (K := K) (a := u) (b := u2) (by omega) (by omega)) rfl ?_
        simp (disch := first | omega | (simp only [vl]; omega)) only [vcd]
        refine call_by (k6) rfl ?_
        simp (disch := first | omega | (simp only [vl]; omega)) only [vcd]
        refine call_by (va_i (K := K) (p := y) (x := z) (by omega)) rfl ?_
        simp (disch := first | omega | (simp only [vl]; omega)) only [vcd]
        refine call_by (va_s (K := K) (p := y) (x := z) (by omega)) rfl ?_
        simp (disch := first | omega | (simp only [vl]; omega)) only [vcd]
        refine call_by (k7) rfl ?_
        simp (disch := first | omega | (simp only [vl]; omega)) only [vcd]
        refine call_by (np_i (K := K) (n := cc)) rfl ?_
        simp (disch := first | omega | (simp only [vl]; omega)) only [vcd]
        refine call_by (np_s (K := K) (n := cc)) rfl ?_
        simp (disch := first | omega | (simp only [vl]; omega)) only [vcd]
        refine call_by (k8) rfl ?_
        simp (disch := first | omega | (simp only [vl]; omega)) only [vcd]
        refine call_by (cpo_i (K := K) (n := ff)) rfl ?_
        simp (disch := first | omega | (simp only [vl]; omega)) only [vcd]
        refine call_by (cpo_s (K := K) (n := ff)) rfl ?_
        simp (disch := first | omega | (simp only [vl]; omega)) only [vcd]
        refine call_by (k9) rfl ?_
        simp (disch := first | omega | (simp only [vl]; omega)) only [vcd]
        refine call_by (aop_i (K := K) (n := ii)) rfl ?_
        simp (disch := first | omega | (simp only [vl]; omega)) only [vcd]
        refine call_by (aop_s (K := K) (n := ii)) rfl ?_
        simp (disch := first | omega | (simp only [vl]; omega)) only [vcd]
        refine call_by (sameInts_t (K := K) (a := mlR p e) (by omega)) rfl ?_
        simp (disch := first | omega | (simp only [vl]; omega)) only [vcd]
        refine call_by (sameInts_t (K := K) (a := adR u u2) (by omega)) rfl ?_
        simp (disch := first | omega | (simp only [vl]; omega)) only [vcd]
        refine call_by (sameInts_t (K := K) (a := npR cc) (by omega)) rfl ?_
        simp (disch := first | omega | (simp only [vl]; omega)) only [vcd]
        refine call_by (sameInts_t (K := K) (a := cpR ff) (by omega)) rfl ?_
        simp (disch := first | omega | (simp only [vl]; omega)) only [vcd]
        refine call_by (sameInts_t (K := K) (a := aoR ii) (by omega)) rfl ?_
        simp (disch := first | omega | (simp only [vl]; omega)) only [vcd]
        refine call_by (poly_i (K := K) (p := y) (by omega)) rfl ?_
        simp (disch := first | omega | (simp only [vl]; omega)) only [vcd]
        refine call_by (poly_s (K := K) (p := y) (by omega)) rfl ?_
        simp (disch := first | omega | (simp only [vl]; omega)) only [vcd]
        refine call_by (fpol_i (K := K) (p := y) (by omega)) rfl ?_
        simp (disch := first | omega | (simp only [vl]; omega)) only [vcd]
        refine call_by (fpol_s (K := K) (p := y) (by omega)) rfl ?_
        simp (disch := first | omega | (simp only [vl]; omega)) only [vcd]
end Go.Cat

