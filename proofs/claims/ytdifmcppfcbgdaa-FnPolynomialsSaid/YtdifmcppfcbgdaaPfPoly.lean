/-
  Polynomials: what is one, sums, products, quotients, values.
-/
import Derived.Test.YtdifmcppfcbgdaaPfIn
import Derived.Test.YtdifmcppfcbgdaaPfH
import Derived.Test.YtdifmcppfcbgdaaPfClaim
import Derived.Test.YtdifmcppfcbgdaaIrAllA
namespace Go.Cat
set_option linter.unusedSimpArgs false
variable {K : Nat → List D → List D → Prop}

/-- At most 61 coefficients within bounds, the last one not 0. -/
def polF (p : List Int) : Bool := p.all (inR (-1000000000) 1000000000) && (decide (p.length ≤ 61) && (decide (p.length = 0) || !decide (atI p ((p.length : Int) - 1) = 0)))
def smlF (p : List Int) : Bool := p.all (inR (-100000) 100000) && polF p
theorem polF_at {p : List Int} (h : polF p = true) {i : Nat} (hi : i < p.length) : -1000000000 ≤ atI p i ∧ atI p i ≤ 1000000000 := by
  simp only [polF, Bool.and_eq_true, List.all_eq_true] at h
  exact inR_iff.1 (h.1 _ (by simp [atI, hi]))
theorem polF_len {p : List Int} (h : polF p = true) : p.length ≤ 61 := by
  simp only [polF, Bool.and_eq_true, decide_eq_true_eq] at h
  exact h.2.1
theorem poly_i [Has K 23 ir_impl_within] [Has K 428 ir_impl_IsPolynomial] {p : List Int} (h : p.length ≤ 1099511627776) : K 428 [LI p] [.b (polF p)] := by
  refine body_by (f := ir_impl_IsPolynomial) rfl ?_; simp only [ir_impl_IsPolynomial]
  by_cases h1 : 61 < p.length
  · simp (disch := first | omega | (simp only [vl]; omega)) only [vcd]
    exact Db (by simp [polF]; intros; omega)
  · by_cases hz : p.length ≠ 0 ∧ atI p ((p.length : Int) - 1) = 0
    · simp (disch := first | omega | (simp only [vl]; omega)) only [vcd, hz.2]
      exact Db (by simp [polF, hz.1, hz.2])
    · by_cases h0 : p.length = 0
      · simp (disch := first | omega | (simp only [vl]; omega)) only [vcd, h0]
        refine loop_ix (fun i => True) (fun i => [.u, .u, .u, .u, LI p, .n p.length, .n i, .u, .u]) 0 trivial (by simp [h0]) (fun i hi hP => by omega) (fun hP => ?_)
        simp (disch := first | omega | (simp only [vl]; omega)) only [vcd]
        have : p = [] := List.eq_nil_of_length_eq_zero h0
        subst this
        exact Db rfl
      · have hq : ¬ atI p ((p.length : Int) - 1) = 0 := fun q => hz ⟨h0, q⟩
        simp (disch := first | omega | (simp only [vl]; omega)) only [vcd]
        refine loop_ix (fun i => ∀ j : Nat, j < i → inR (-1000000000) 1000000000 (atI p j) = true) (fun i => [.u, .u, .u, .u, LI p, .n p.length, .n i, .u, .u]) p.length (by simp) rfl (fun i hi hP => ?_) (fun hP => ?_)
        · simp (disch := first | omega | (simp only [vl]; omega)) only [vcd]
          refine call_by (within_ok (K := K)) rfl ?_
          cases h2 : inR (-1000000000) 1000000000 (atI p i)
          · simp (disch := first | omega | (simp only [vl]; omega)) only [vcd]
            exact Db (by rw [polF, all_f hi h2]; rfl)
          · simp (disch := first | omega | (simp only [vl]; omega)) only [vcd]
            exact all_s hP h2
        · simp (disch := first | omega | (simp only [vl]; omega)) only [vcd]
          exact Db (by rw [polF, all_t hP]; simp [hq]; omega)
theorem poly_s [Has K 22 ir_spec_l1In] [Has K 429 ir_spec_IsPolynomial] {p : List Int} (h : p.length ≤ 1099511627776) : K 429 [LI p] [.b (polF p)] := by
  refine body_by (f := ir_spec_IsPolynomial) rfl ?_; simp only [ir_spec_IsPolynomial]
  simp (disch := first | omega | (simp only [vl]; omega)) only [vcd]
  refine loop_ix (fun i => ∀ j : Nat, j < i → inR (-1000000000) 1000000000 (atI p j) = true) (fun i => [LI p, .u, .n i, .u, .u]) p.length (by simp) rfl (fun i hi hP => ?_) (fun hP => ?_)
  · simp (disch := first | omega | (simp only [vl]; omega)) only [vcd]
    refine call_by (l1In_ok (K := K)) rfl ?_
    cases h2 : inR (-1000000000) 1000000000 (atI p i)
    · simp (disch := first | omega | (simp only [vl]; omega)) only [vcd]
      exact Db (by rw [polF, all_f hi h2]; rfl)
    · simp (disch := first | omega | (simp only [vl]; omega)) only [vcd]
      exact all_s hP h2
  · by_cases h1 : 61 < p.length
    · simp (disch := first | omega | (simp only [vl]; omega)) only [vcd]
      exact Db (by simp [polF]; intros; omega)
    · by_cases h0 : p.length = 0
      · simp (disch := first | omega | (simp only [vl]; omega)) only [vcd, h0]
        exact Db (by rw [polF, all_t hP]; simp [h0])
      · by_cases hq : atI p ((p.length : Int) - 1) = 0
        · simp (disch := first | omega | (simp only [vl]; omega)) only [vcd, hq]
          exact Db (by simp [polF, hq, h0])
        · simp (disch := first | omega | (simp only [vl]; omega)) only [vcd]
          exact Db (by rw [polF, all_t hP]; simp [hq]; omega)
theorem fac_i [Has K 23 ir_impl_within] [Has K 428 ir_impl_IsPolynomial] [Has K 460 ir_impl_isFactor] {p : List Int} (h : p.length ≤ 1099511627776) : K 460 [LI p] [.b (smlF p)] := by
  refine body_by (f := ir_impl_isFactor) rfl ?_; simp only [ir_impl_isFactor]
  simp (disch := first | omega | (simp only [vl]; omega)) only [vcd]
  refine loop_ix (fun i => ∀ j : Nat, j < i → inR (-100000) 100000 (atI p j) = true) (fun i => [LI p, .u, .u, LI p, .n p.length, .n i, .u, .u]) p.length (by simp) rfl (fun i hi hP => ?_) (fun hP => ?_)
  · simp (disch := first | omega | (simp only [vl]; omega)) only [vcd]
    refine call_by (within_ok (K := K)) rfl ?_
    cases h2 : inR (-100000) 100000 (atI p i)
    · simp (disch := first | omega | (simp only [vl]; omega)) only [vcd]
      exact Db (by rw [smlF, all_f hi h2]; rfl)
    · simp (disch := first | omega | (simp only [vl]; omega)) only [vcd]
      exact all_s hP h2
  · simp (disch := first | omega | (simp only [vl]; omega)) only [vcd]
    refine call_by (poly_i (K := K) h) rfl ?_
    simp (disch := first | omega | (simp only [vl]; omega)) only [vcd]
    exact Db (by rw [smlF, all_t hP]; simp)
theorem fac_s [Has K 22 ir_spec_l1In] [Has K 429 ir_spec_IsPolynomial] [Has K 462 ir_spec_l14Small] {p : List Int} (h : p.length ≤ 1099511627776) : K 462 [LI p] [.b (smlF p)] := by
  refine body_by (f := ir_spec_l14Small) rfl ?_; simp only [ir_spec_l14Small]
  simp (disch := first | omega | (simp only [vl]; omega)) only [vcd]
  refine loop_ix (fun i => ∀ j : Nat, j < i → inR (-100000) 100000 (atI p j) = true) (fun i => [LI p, .u, .n i, .u, .u]) p.length (by simp) rfl (fun i hi hP => ?_) (fun hP => ?_)
  · simp (disch := first | omega | (simp only [vl]; omega)) only [vcd]
    refine call_by (l1In_ok (K := K)) rfl ?_
    cases h2 : inR (-100000) 100000 (atI p i)
    · simp (disch := first | omega | (simp only [vl]; omega)) only [vcd]
      exact Db (by rw [smlF, all_f hi h2]; rfl)
    · simp (disch := first | omega | (simp only [vl]; omega)) only [vcd]
      exact all_s hP h2
  · simp (disch := first | omega | (simp only [vl]; omega)) only [vcd]
    refine call_by (poly_s (K := K) h) rfl ?_
    simp (disch := first | omega | (simp only [vl]; omega)) only [vcd]
    exact Db (by rw [smlF, all_t hP]; simp)

/-! ### Without noughts at the end -/
def trN (p : List Int) : Nat → Nat
  | 0 => 0
  | n + 1 => if atI p n = 0 then trN p n else n + 1
def trimF (p : List Int) : List Int := p.take (trN p p.length)
theorem trN_le {p : List Int} : ∀ n, trN p n ≤ n
  | 0 => Nat.le_refl _
  | n + 1 => by
    have := trN_le (p := p) n
    unfold trN; split <;> omega
theorem trimF_len {p : List Int} : (trimF p).length = trN p p.length := by
  have := trN_le (p := p) p.length
  simp only [trimF, List.length_take]; omega
theorem sub_tk {α : Type} {p : List α} {n : Nat} : sub p 0 n = p.take n := by simp [sub]
theorem trim_i [Has K 469 ir_impl_trimmed] {p : List Int} (h : p.length ≤ 1099511627776) : K 469 [LI p] [LI (trimF p)] := by
  refine body_by (f := ir_impl_trimmed) rfl ?_; simp only [ir_impl_trimmed]
  simp (disch := first | omega | (simp only [vl]; omega)) only [vcd]
  refine loop_wh (fun (x : Nat) => x ≤ p.length ∧ trN p x = trN p p.length) (fun x => [LI p, .u, .n x, .u]) (fun x => x) p.length ⟨Nat.le_refl _, rfl⟩ rfl ?_
  intro x hx
  cases x with
  | zero =>
    have e : trN p p.length = 0 := hx.2.symm
    simp (disch := first | omega | (simp only [vl]; omega)) only [vcd]
    simp [trimF, e, sub]
  | succ x =>
    have ex : ((x + 1 : Nat) : Int) - 1 = x := by omega
    have hx2 := hx.2
    simp only [trN] at hx2
    by_cases hz : atI p x = 0
    · rw [if_pos hz] at hx2
      simp (disch := first | omega | (simp only [vl]; omega)) only [vcd, Int.add_sub_cancel, hz]
      exact ⟨x, by omega, ⟨by omega, hx2⟩, rfl⟩
    · rw [if_neg hz] at hx2
      simp (disch := first | omega | (simp only [vl]; omega)) only [vcd, Int.add_sub_cancel]
      rw [show ((x : Int) + 1) = ((x + 1 : Nat) : Int) by omega, sub_tk, trimF, ← hx2]
theorem trim_s [Has K 463 ir_spec_l14Trim] {p : List Int} (h : p.length ≤ 1099511627776) : K 463 [LI p] [LI (trimF p)] := by
  refine body_by (f := ir_spec_l14Trim) rfl ?_; simp only [ir_spec_l14Trim]
  simp (disch := first | omega | (simp only [vl]; omega)) only [vcd]
  refine loop_wh (fun (x : Nat) => x ≤ p.length ∧ trN p x = trN p p.length) (fun x => [LI p, .u, .n x, .u]) (fun x => x) p.length ⟨Nat.le_refl _, rfl⟩ rfl ?_
  intro x hx
  cases x with
  | zero =>
    have e : trN p p.length = 0 := hx.2.symm
    simp (disch := first | omega | (simp only [vl]; omega)) only [vcd, LI_nil]
    simp [trimF, e, sub]
  | succ x =>
    have ex : ((x + 1 : Nat) : Int) - 1 = x := by omega
    have hx2 := hx.2
    simp only [trN] at hx2
    by_cases hz : atI p x = 0
    · rw [if_pos hz] at hx2
      simp (disch := first | omega | (simp only [vl]; omega)) only [vcd, Int.add_sub_cancel, hz]
      exact ⟨x, by omega, ⟨by omega, hx2⟩, rfl⟩
    · rw [if_neg hz] at hx2
      simp (disch := first | omega | (simp only [vl]; omega)) only [vcd, Int.add_sub_cancel, LI_nil]
      rw [show ((x : Int) + 1) = ((x + 1 : Nat) : Int) by omega, sub_tk, trimF, ← hx2]

/-! ### Sums -/
def addI (b : List Int) (i : Nat) (o : List Int) : List Int := seI o i (IntKind.i64.wrap (atI o i + atI b i))
def addU (a b : List Int) : List Int := iter (addI b) b.length (iter (addI a) a.length (rep (max a.length b.length : Nat) 0))
theorem addI_len {b o : List Int} {i : Nat} : (addI b i o).length = o.length := by simp [addI, seI]
theorem addI_lens {b o : List Int} {n : Nat} : (iter (addI b) n o).length = o.length := iter_inv (fun (s : List Int) => s.length = o.length) rfl (fun i s h => by rw [addI_len, h]) n
def adO (a b : List Int) : Bool := polF a && polF b && polF (trimF (addU a b))
def adR (a b : List Int) : List Int := if adO a b = true then trimF (addU a b) else []
/-- Coefficients put into noughts. -/
theorem put0 {a : List Int} {n : Nat} : ∀ (i : Nat), i ≤ n → i ≤ a.length → (∀ j : Nat, j < a.length → -1000000000 ≤ atI a j ∧ atI a j ≤ 1000000000) →
    (∀ j : Nat, j < n → atI (iter (addI a) i (rep (n : Nat) 0)) j = if j < i then atI a j else 0)
  | 0, _, _, _ => fun j hj => by simp [iter, atI, rep, hj]
  | i + 1, h, h2, hb => fun j hj => by
    have ih := put0 (n := n) i (by omega) (by omega) hb
    have hl : (iter (addI a) i (rep (n : Nat) 0)).length = n := by rw [addI_lens]; simp [rep]
    have hbi := hb i (by omega)
    have e : iter (addI a) (i + 1) (rep (n : Nat) 0) = addI a i (iter (addI a) i (rep (n : Nat) 0)) := rfl
    rw [e, addI, atI_set (by rw [hl]; omega)]
    by_cases q : i = j
    · subst q
      rw [if_pos rfl, ih i (by omega), if_neg (by omega), if_pos (by omega), wrap_i64 (by omega)]; omega
    · rw [if_neg q, ih j hj]
      by_cases q2 : j < i
      · rw [if_pos q2, if_pos (by omega)]
      · rw [if_neg q2, if_neg (by omega)]
theorem add_i [Has K 23 ir_impl_within] [Has K 418 ir_impl_AddPolynomials] [Has K 428 ir_impl_IsPolynomial] [Has K 469 ir_impl_trimmed] {a b : List Int} (h : a.length ≤ 1048576) (h2 : b.length ≤ 1048576) : K 418 [LI a, LI b] [LI (adR a b), .b (adO a b)] := by
  refine body_by (f := ir_impl_AddPolynomials) rfl ?_; simp only [ir_impl_AddPolynomials]
  simp (disch := first | omega | (simp only [vl]; omega)) only [vcd]
  cases ha : polF a
  · repeat (first | (refine call_by (poly_i (K := K) (p := a) (by omega)) rfl ?_; try simp (disch := first | omega | (simp only [vl]; omega)) only [vcd, ha, LI_nil]))
    simp [adO, adR, ha]
  · cases hb : polF b
    · repeat (first | (refine call_by (poly_i (K := K) (p := a) (by omega)) rfl ?_; try simp (disch := first | omega | (simp only [vl]; omega)) only [vcd, ha, hb, LI_nil]) | (refine call_by (poly_i (K := K) (p := b) (by omega)) rfl ?_; try simp (disch := first | omega | (simp only [vl]; omega)) only [vcd, ha, hb, LI_nil]))
      simp [adO, adR, ha, hb]
    · repeat (first | (refine call_by (poly_i (K := K) (p := a) (by omega)) rfl ?_; try simp (disch := first | omega | (simp only [vl]; omega)) only [vcd, ha, hb]) | (refine call_by (poly_i (K := K) (p := b) (by omega)) rfl ?_; try simp (disch := first | omega | (simp only [vl]; omega)) only [vcd, ha, hb]))
      have hm : max (a.length : Int) (b.length : Int) = (max a.length b.length : Nat) := by omega
      simp (disch := first | omega | (simp only [vl]; omega)) only [vcd, hm]
      have hbd := fun (j : Nat) (hj : j < a.length) => polF_at ha hj
      refine loop_fold (addI a) (fun _ (o : List Int) => o.length = max a.length b.length) (fun i o => [.u, LI b, .u, .u, LI o, .u, .u, .u, .u, .u, LI a, .n a.length, .n i, .u, .u, .u, .u, .u, .u]) a.length (rep (max a.length b.length : Nat) 0) (by simp [rep]) rfl (fun i s _ hs => by rw [addI_len, hs]) (fun i o hi ho hit => ?_) (fun o ho1 ho => ?_)
      · have e0 := put0 (a := a) (n := max a.length b.length) i (by omega) (by omega) hbd i (by omega)
        rw [← hit, if_neg (by omega)] at e0
        have hbi := hbd i hi
        have e1 : addI a i o = seI o i (atI a i) := by
          rw [addI, e0, wrap_i64 (by omega)]; congr 1; omega
        simp (disch := first | omega | (simp only [vl]; omega)) only [vcd, e1]
      · simp (disch := first | omega | (simp only [vl]; omega)) only [vcd]
        refine loop_fold (addI b) (fun _ (o : List Int) => o.length = max a.length b.length) (fun i o => [.u, .u, .u, .u, LI o, .u, .u, .u, .u, .u, .u, .u, .u, .u, LI b, .n b.length, .n i, .u, .u]) b.length o ho rfl (fun i s _ hs => by rw [addI_len, hs]) (fun i o2 hi ho2 _ => ?_) (fun o2 ho3 ho2 => ?_)
        · simp (disch := first | omega | (simp only [vl]; omega)) only [vcd, addI]
        · have e : o2 = addU a b := by rw [ho3, ho1]; rfl
          subst e
          simp (disch := first | omega | (simp only [vl]; omega)) only [vcd]
          refine call_by (trim_i (K := K) (p := addU a b) (by omega)) rfl ?_
          have ht := trimF_len (p := addU a b)
          have ht2 := trN_le (p := addU a b) (addU a b).length
          simp (disch := first | omega | (simp only [vl]; omega)) only [vcd]
          cases hp : polF (trimF (addU a b))
          · repeat (first | (refine call_by (poly_i (K := K) (p := trimF (addU a b)) (by omega)) rfl ?_; try simp (disch := first | omega | (simp only [vl]; omega)) only [vcd, hp, LI_nil]))
            simp [adO, adR, ha, hb, hp]
          · repeat (first | (refine call_by (poly_i (K := K) (p := trimF (addU a b)) (by omega)) rfl ?_; try simp (disch := first | omega | (simp only [vl]; omega)) only [vcd, hp]))
            simp [adO, adR, ha, hb, hp]
theorem add_s [Has K 22 ir_spec_l1In] [Has K 406 ir_spec_AddPolynomials] [Has K 429 ir_spec_IsPolynomial] [Has K 463 ir_spec_l14Trim] {a b : List Int} (h : a.length ≤ 1048576) (h2 : b.length ≤ 1048576) : K 406 [LI a, LI b] [LI (adR a b), .b (adO a b)] := by
  refine body_by (f := ir_spec_AddPolynomials) rfl ?_; simp only [ir_spec_AddPolynomials]
  simp (disch := first | omega | (simp only [vl]; omega)) only [vcd]
  cases ha : polF a
  · repeat (first | (refine call_by (poly_s (K := K) (p := a) (by omega)) rfl ?_; try simp (disch := first | omega | (simp only [vl]; omega)) only [vcd, ha, LI_nil]))
    simp [adO, adR, ha]
  · cases hb : polF b
    · repeat (first | (refine call_by (poly_s (K := K) (p := a) (by omega)) rfl ?_; try simp (disch := first | omega | (simp only [vl]; omega)) only [vcd, ha, hb, LI_nil]) | (refine call_by (poly_s (K := K) (p := b) (by omega)) rfl ?_; try simp (disch := first | omega | (simp only [vl]; omega)) only [vcd, ha, hb, LI_nil]))
      simp [adO, adR, ha, hb]
    · repeat (first | (refine call_by (poly_s (K := K) (p := a) (by omega)) rfl ?_; try simp (disch := first | omega | (simp only [vl]; omega)) only [vcd, ha, hb]) | (refine call_by (poly_s (K := K) (p := b) (by omega)) rfl ?_; try simp (disch := first | omega | (simp only [vl]; omega)) only [vcd, ha, hb]))
      have hm : max (a.length : Int) (b.length : Int) = (max a.length b.length : Nat) := by omega
      simp (disch := first | omega | (simp only [vl]; omega)) only [vcd, hm]
      refine loop_fold (addI a) (fun _ (o : List Int) => o.length = max a.length b.length) (fun i o => [LI a, LI b, .u, .u, LI o, .n i, .u, .u, .u, .u, .u, .u]) a.length (rep (max a.length b.length : Nat) 0) (by simp [rep]) rfl (fun i s _ hs => by rw [addI_len, hs]) (fun i o hi ho hit => ?_) (fun o ho1 ho => ?_)
      · simp (disch := first | omega | (simp only [vl]; omega)) only [vcd, addI]
      · simp (disch := first | omega | (simp only [vl]; omega)) only [vcd]
        refine loop_fold (addI b) (fun _ (o : List Int) => o.length = max a.length b.length) (fun i o => [.u, LI b, .u, .u, LI o, .u, .n i, .u, .u, .u, .u, .u]) b.length o ho rfl (fun i s _ hs => by rw [addI_len, hs]) (fun i o2 hi ho2 _ => ?_) (fun o2 ho3 ho2 => ?_)
        · simp (disch := first | omega | (simp only [vl]; omega)) only [vcd, addI]
        · have e : o2 = addU a b := by rw [ho3, ho1]; rfl
          subst e
          simp (disch := first | omega | (simp only [vl]; omega)) only [vcd]
          refine call_by (trim_s (K := K) (p := addU a b) (by omega)) rfl ?_
          have ht := trimF_len (p := addU a b)
          have ht2 := trN_le (p := addU a b) (addU a b).length
          simp (disch := first | omega | (simp only [vl]; omega)) only [vcd]
          cases hp : polF (trimF (addU a b))
          · repeat (first | (refine call_by (poly_s (K := K) (p := trimF (addU a b)) (by omega)) rfl ?_; try simp (disch := first | omega | (simp only [vl]; omega)) only [vcd, hp, LI_nil]))
            simp [adO, adR, ha, hb, hp]
          · repeat (first | (refine call_by (poly_s (K := K) (p := trimF (addU a b)) (by omega)) rfl ?_; try simp (disch := first | omega | (simp only [vl]; omega)) only [vcd, hp]))
            simp [adO, adR, ha, hb, hp]
end Go.Cat

