/-
  The Hankel determinant: the law.
-/
import Derived.Test.YtfjkbocblpjpjaaPfHank
namespace Go.Cat
variable {K : Nat → List D → List D → Prop}

def hkG (z : List Int) (S i k : Nat) : Prop := (i : Int) + k + S < z.length ∧ inR (-1000) 1000 (atI z ((i : Int) + k + S)) = true
def hkOk (z : List Int) (N S : Nat) : Prop := ∀ i : Nat, i < N → ∀ k : Nat, k < N → hkG z S i k
def hkRow (z : List Int) (N S i : Nat) : List Int := (List.range N).map fun k : Nat => atI z ((i : Int) + k + S)
def hkM (z : List Int) (N S : Nat) : List (List Int) := (List.range N).map fun i => hkRow z N S i
open Classical in
noncomputable def hkB (z : List Int) (n s : Int) : Bool := fineF z && inR 0 4 n && inR 0 2 s && decide (hkOk z n.toNat s.toNat)
open Classical in
noncomputable def hkV (z : List Int) (n s : Int) : Int := if hkB z n s = true then detF n.toNat (hkM z n.toNat s.toNat) else 0

theorem map_snoc {α : Type} {f : Nat → α} {n : Nat} : (List.range (n + 1)).map f = (List.range n).map f ++ [f n] := by simp [List.range_succ]

theorem hkV_f {z : List Int} {n s : Int} (h : hkB z n s = false) : hkV z n s = 0 := by simp [hkV, h]
theorem hkB_f {z : List Int} {N S : Nat} (h : ¬ hkOk z N S) : hkB z N S = false := by simp [hkB, h]
theorem hkB_t {z : List Int} {N S : Nat} (h1 : fineF z = true) (h2 : inR 0 4 N = true) (h3 : inR 0 2 S = true) (h : hkOk z N S) : hkB z N S = true := by simp [hkB, h1, h2, h3, h]
theorem hkV_t {z : List Int} {N S : Nat} (h : hkB z N S = true) : hkV z N S = detF N (hkM z N S) := by simp [hkV, h]

theorem hk_sqr {z : List Int} {N S : Nat} (h : hkOk z N S) : sqr N (hkM z N S) := by
  refine ⟨by simp [hkM], fun r hr => ?_⟩
  simp only [hkM, List.mem_map, List.mem_range] at hr
  obtain ⟨i, hi, rfl⟩ := hr
  refine ⟨by simp [hkRow], fun x hx => ?_⟩
  simp only [hkRow, List.mem_map, List.mem_range] at hx
  obtain ⟨k, hk, rfl⟩ := hx
  have := inR_iff.1 (h i hi k hk).2
  omega

theorem hk_i [Has K 23 ir_impl_within] [Has K 70 ir_impl_areTerms] [Has K 75 ir_impl_copyInts] [Has K 98 ir_impl_HankelOf] [Has K 127 ir_impl_determinant] {z : List Int} {n s : Int} (h : z.length ≤ 1048576) : K 98 [LI z, .n n, .n s] [.n (hkV z n s), .b (hkB z n s)] := by
  refine body_by (f := ir_impl_HankelOf) rfl ?_; simp only [ir_impl_HankelOf]
  simp (disch := first | omega | (simp only [vl]; omega)) only [vcd]
  cases hf : fineF z
  · repeat (first | (refine call_by (areTerms_ok (K := K) (by omega)) rfl ?_; try simp (disch := first | omega | (simp only [vl]; omega)) only [vcd, hf]))
    have hb : hkB z n s = false := by simp [hkB, hf]
    simp [hb, hkV_f hb]
  cases hn : inR 0 4 n
  · repeat (first | (refine call_by (areTerms_ok (K := K) (by omega)) rfl ?_; try simp (disch := first | omega | (simp only [vl]; omega)) only [vcd, hf, hn]) | (refine call_by (within_ok (K := K)) rfl ?_; try simp (disch := first | omega | (simp only [vl]; omega)) only [vcd, hf, hn]))
    have hb : hkB z n s = false := by simp [hkB, hn]
    simp [hb, hkV_f hb]
  cases hs : inR 0 2 s
  · repeat (first | (refine call_by (areTerms_ok (K := K) (by omega)) rfl ?_; try simp (disch := first | omega | (simp only [vl]; omega)) only [vcd, hf, hn, hs]) | (refine call_by (within_ok (K := K)) rfl ?_; try simp (disch := first | omega | (simp only [vl]; omega)) only [vcd, hf, hn, hs]) | (refine call_by (within_ok (K := K)) rfl ?_; try simp (disch := first | omega | (simp only [vl]; omega)) only [vcd, hf, hn, hs]))
    have hb : hkB z n s = false := by simp [hkB, hs]
    simp [hb, hkV_f hb]
  repeat (first | (refine call_by (areTerms_ok (K := K) (by omega)) rfl ?_; try simp (disch := first | omega | (simp only [vl]; omega)) only [vcd, hf, hn, hs]) | (refine call_by (within_ok (K := K)) rfl ?_; try simp (disch := first | omega | (simp only [vl]; omega)) only [vcd, hf, hn, hs]) | (refine call_by (within_ok (K := K)) rfl ?_; try simp (disch := first | omega | (simp only [vl]; omega)) only [vcd, hf, hn, hs]))
  have hb1 := inR_iff.1 hn
  have hb2 := inR_iff.1 hs
  obtain ⟨N, rfl⟩ := Int.eq_ofNat_of_zero_le (show 0 ≤ n by omega)
  obtain ⟨S, rfl⟩ := Int.eq_ofNat_of_zero_le (show 0 ≤ s by omega)
  refine loop_up (fun i (m : List (List Int)) => m = (List.range i).map (hkRow z N S) ∧ ∀ i' : Nat, i' < i → ∀ k : Nat, k < N → hkG z S i' k) (fun i m => [LI z, .n N, .n S, .u, .u, LL m, .u, .u, .u, .u, .u, .n N, .n i, .u, .u, .u, .u, .u]) N [] ⟨rfl, by omega⟩ rfl (fun i m hi hP => ?_) (fun m hP => ?_)
  · have hml : m.length = i := by rw [hP.1]; simp
    simp (disch := first | omega | (simp only [vl]; omega)) only [vcd]
    refine loop_up (fun k (r : List Int) => r = (List.range k).map (fun k : Nat => atI z ((i : Int) + k + S)) ∧ ∀ k' : Nat, k' < k → hkG z S i k') (fun k r => [LI z, .n N, .n S, .u, .u, LL m, .n i, LI r, .u, .u, .u, .n N, .n i, .u, .n N, .n k, .u, .u]) N [] ⟨rfl, by omega⟩ rfl (fun k r hk hQ => ?_) (fun r hQ => ?_)
    · have hrl : r.length = k := by rw [hQ.1]; simp
      by_cases hc : (i : Int) + k + S < z.length
      · cases hx : inR (-1000) 1000 (atI z ((i : Int) + k + S))
        · simp (disch := first | omega | (simp only [vl]; omega)) only [vcd]
          repeat (first | (refine call_by (within_ok (K := K)) rfl ?_; try simp (disch := first | omega | (simp only [vl]; omega)) only [vcd, hx]))
          have hb : hkB z N S = false := hkB_f fun q => by have := (q i hi k hk).2; rw [hx] at this; cases this
          simp [hb, hkV_f hb]
        · simp (disch := first | omega | (simp only [vl]; omega)) only [vcd]
          repeat (first | (refine call_by (within_ok (K := K)) rfl ?_; try simp (disch := first | omega | (simp only [vl]; omega)) only [vcd, hx]))
          refine ⟨_, ⟨by rw [map_snoc, ← hQ.1], fun k' hk' => ?_⟩, rfl⟩
          rcases Nat.lt_or_ge k' k with q | q
          · exact hQ.2 k' q
          · obtain rfl : k' = k := by omega
            exact ⟨hc, hx⟩
      · simp (disch := first | omega | (simp only [vl]; omega)) only [vcd]
        have hb : hkB z N S = false := hkB_f fun q => hc (q i hi k hk).1
        simp [hb, hkV_f hb]
    · simp (disch := first | omega | (simp only [vl]; omega)) only [vcd, ll_1, LL_app0]
      refine ⟨_, ⟨by rw [map_snoc, ← hP.1, hQ.1]; rfl, fun i' hi' => ?_⟩, rfl⟩
      rcases Nat.lt_or_ge i' i with q | q
      · exact hP.2 i' q
      · obtain rfl : i' = i := by omega
        exact hQ.2
  · have hb := hkB_t hf hn hs hP.2
    have hd := det_i (K := K) N m (by omega) (by rw [hP.1]; exact hk_sqr hP.2)
    simp (disch := first | omega | (simp only [vl]; omega)) only [vcd]
    repeat (first | (refine call_by (hd) rfl ?_; try simp (disch := first | omega | (simp only [vl]; omega)) only [vcd]))
    rw [hb, hkV_t hb, hP.1]; rfl

theorem hk_s [Has K 22 ir_spec_l1In] [Has K 68 ir_spec_l30Fine] [Has K 97 ir_spec_HankelOf] [Has K 126 ir_spec_l30Det] {z : List Int} {n s : Int} (h : z.length ≤ 1048576) : K 97 [LI z, .n n, .n s] [.n (hkV z n s), .b (hkB z n s)] := by
  refine body_by (f := ir_spec_HankelOf) rfl ?_; simp only [ir_spec_HankelOf]
  simp (disch := first | omega | (simp only [vl]; omega)) only [vcd]
  cases hf : fineF z
  · repeat (first | (refine call_by (l30Fine_ok (K := K) (by omega)) rfl ?_; try simp (disch := first | omega | (simp only [vl]; omega)) only [vcd, hf]))
    have hb : hkB z n s = false := by simp [hkB, hf]
    simp [hb, hkV_f hb]
  cases hn : inR 0 4 n
  · repeat (first | (refine call_by (l30Fine_ok (K := K) (by omega)) rfl ?_; try simp (disch := first | omega | (simp only [vl]; omega)) only [vcd, hf, hn]) | (refine call_by (l1In_ok (K := K)) rfl ?_; try simp (disch := first | omega | (simp only [vl]; omega)) only [vcd, hf, hn]))
    have hb : hkB z n s = false := by simp [hkB, hn]
    simp [hb, hkV_f hb]
  cases hs : inR 0 2 s
  · repeat (first | (refine call_by (l30Fine_ok (K := K) (by omega)) rfl ?_; try simp (disch := first | omega | (simp only [vl]; omega)) only [vcd, hf, hn, hs]) | (refine call_by (l1In_ok (K := K)) rfl ?_; try simp (disch := first | omega | (simp only [vl]; omega)) only [vcd, hf, hn, hs]) | (refine call_by (l1In_ok (K := K)) rfl ?_; try simp (disch := first | omega | (simp only [vl]; omega)) only [vcd, hf, hn, hs]))
    have hb : hkB z n s = false := by simp [hkB, hs]
    simp [hb, hkV_f hb]
  have hb1 := inR_iff.1 hn
  have hb2 := inR_iff.1 hs
  obtain ⟨N, rfl⟩ := Int.eq_ofNat_of_zero_le (show 0 ≤ n by omega)
  obtain ⟨S, rfl⟩ := Int.eq_ofNat_of_zero_le (show 0 ≤ s by omega)
  by_cases hc : 0 < N ∧ ¬ (2 * ((N : Int) - 1) + S < z.length)
  · repeat (first | (refine call_by (l30Fine_ok (K := K) (by omega)) rfl ?_; try simp (disch := first | omega | (simp only [vl]; omega)) only [vcd, hf, hn, hs]) | (refine call_by (l1In_ok (K := K)) rfl ?_; try simp (disch := first | omega | (simp only [vl]; omega)) only [vcd, hf, hn, hs]) | (refine call_by (l1In_ok (K := K)) rfl ?_; try simp (disch := first | omega | (simp only [vl]; omega)) only [vcd, hf, hn, hs]))
    have hb : hkB z N S = false := hkB_f fun q => by have := (q (N - 1) (by omega) (N - 1) (by omega)).1; omega
    simp [hb, hkV_f hb]
  by_cases hN : 0 < N <;> repeat (first | (refine call_by (l30Fine_ok (K := K) (by omega)) rfl ?_; try simp (disch := first | omega | (simp only [vl]; omega)) only [vcd, hf, hn, hs]) | (refine call_by (l1In_ok (K := K)) rfl ?_; try simp (disch := first | omega | (simp only [vl]; omega)) only [vcd, hf, hn, hs]) | (refine call_by (l1In_ok (K := K)) rfl ?_; try simp (disch := first | omega | (simp only [vl]; omega)) only [vcd, hf, hn, hs]))
  · refine loop_up (fun i (m : List (List Int)) => m = (List.range i).map (hkRow z N S) ∧ ∀ i' : Nat, i' < i → ∀ k : Nat, k < N → hkG z S i' k) (fun i m => [LI z, .n N, .n S, .u, .u, LL m, .n i, .u, .u, .u, .u, .u, .u, .u]) N [] ⟨rfl, by omega⟩ rfl (fun i m hi hP => ?_) (fun m hP => ?_)
    · have hml : m.length = i := by rw [hP.1]; simp
      simp (disch := first | omega | (simp only [vl]; omega)) only [vcd]
      refine loop_up (fun k (r : List Int) => r = (List.range k).map (fun k : Nat => atI z ((i : Int) + k + S)) ∧ ∀ k' : Nat, k' < k → hkG z S i k') (fun k r => [LI z, .n N, .n S, .u, .u, LL m, .n i, LI r, .n k, .u, .u, .u, .u, .u]) N [] ⟨rfl, by omega⟩ rfl (fun k r hk hQ => ?_) (fun r hQ => ?_)
      · have hrl : r.length = k := by rw [hQ.1]; simp
        have hc : (i : Int) + k + S < z.length := by omega
        cases hx : inR (-1000) 1000 (atI z ((i : Int) + k + S))
        · simp (disch := first | omega | (simp only [vl]; omega)) only [vcd]
          repeat (first | (refine call_by (l1In_ok (K := K)) rfl ?_; try simp (disch := first | omega | (simp only [vl]; omega)) only [vcd, hx]))
          have hb : hkB z N S = false := hkB_f fun q => by have := (q i hi k hk).2; rw [hx] at this; cases this
          simp [hb, hkV_f hb]
        · simp (disch := first | omega | (simp only [vl]; omega)) only [vcd]
          repeat (first | (refine call_by (l1In_ok (K := K)) rfl ?_; try simp (disch := first | omega | (simp only [vl]; omega)) only [vcd, hx]))
          refine ⟨_, ⟨by rw [map_snoc, ← hQ.1], fun k' hk' => ?_⟩, rfl⟩
          rcases Nat.lt_or_ge k' k with q | q
          · exact hQ.2 k' q
          · obtain rfl : k' = k := by omega
            exact ⟨hc, hx⟩
      · simp (disch := first | omega | (simp only [vl]; omega)) only [vcd, ll_1, LL_app0]
        refine ⟨_, ⟨by rw [map_snoc, ← hP.1, hQ.1]; rfl, fun i' hi' => ?_⟩, rfl⟩
        rcases Nat.lt_or_ge i' i with q | q
        · exact hP.2 i' q
        · obtain rfl : i' = i := by omega
          exact hQ.2
    · have hb := hkB_t hf hn hs hP.2
      have hd := det_s (K := K) N m (by omega) (by rw [hP.1]; exact hk_sqr hP.2)
      simp (disch := first | omega | (simp only [vl]; omega)) only [vcd]
      repeat (first | (refine call_by (hd) rfl ?_; try simp (disch := first | omega | (simp only [vl]; omega)) only [vcd]))
      rw [hb, hkV_t hb, hP.1]; rfl
  · refine loop_up (fun i (m : List (List Int)) => m = (List.range i).map (hkRow z N S) ∧ ∀ i' : Nat, i' < i → ∀ k : Nat, k < N → hkG z S i' k) (fun i m => [LI z, .n N, .n S, .u, .u, LL m, .n i, .u, .u, .u, .u, .u, .u, .u]) N [] ⟨rfl, by omega⟩ rfl (fun i m hi hP => by omega) (fun m hP => ?_)
    have hb := hkB_t hf hn hs hP.2
    have hd := det_s (K := K) N m (by omega) (by rw [hP.1]; exact hk_sqr hP.2)
    simp (disch := first | omega | (simp only [vl]; omega)) only [vcd]
    repeat (first | (refine call_by (hd) rfl ?_; try simp (disch := first | omega | (simp only [vl]; omega)) only [vcd]))
    rw [hb, hkV_t hb, hP.1]; rfl

theorem hk_law [Has K 22 ir_spec_l1In] [Has K 23 ir_impl_within] [Has K 42 ir_laws_toIntS] [Has K 44 ir_laws_eqIntS] [Has K 68 ir_spec_l30Fine] [Has K 70 ir_impl_areTerms] [Has K 75 ir_impl_copyInts] [Has K 85 ir_laws_FnExactHankelOf] [Has K 97 ir_spec_HankelOf] [Has K 98 ir_impl_HankelOf] [Has K 126 ir_spec_l30Det] [Has K 127 ir_impl_determinant] (z : List Int) (n s : Int) : K 85 [LI z, .n n, .n s] [.b true] := by
  refine body_by (f := ir_laws_FnExactHankelOf) rfl ?_; simp only [ir_laws_FnExactHankelOf]
  by_cases h : z.length ≤ 1048576 <;> simp (disch := first | omega | (simp only [vl]; omega)) only [vcd]
  repeat (first | (refine call_by (toIntS_ok (K := K) (by omega)) rfl ?_; try simp (disch := first | omega | (simp only [vl]; omega)) only [vcd]) | (refine call_by (hk_s (K := K) h) rfl ?_; try simp (disch := first | omega | (simp only [vl]; omega)) only [vcd]) | (refine call_by (hk_i (K := K) h) rfl ?_; try simp (disch := first | omega | (simp only [vl]; omega)) only [vcd]) | (refine call_by (eqIntS_t (K := K) (by omega)) rfl ?_; try simp (disch := first | omega | (simp only [vl]; omega)) only [vcd]))
end Go.Cat

