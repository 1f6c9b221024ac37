/-
  Polynomials: products and quotients.
-/
import Derived.Test.YtdifmcppfcbgdaaPfPoly
import Derived.Test.YtdifmcppfcbgdaaPfPerm
namespace Go.Cat
set_option linter.unusedSimpArgs false
variable {K : Nat → List D → List D → Prop}

def mlI (a b : List Int) (i k : Nat) (o : List Int) : List Int := seI o ((i : Int) + k) (IntKind.i64.wrap (atI o ((i : Int) + k) + IntKind.i64.wrap (atI a i * atI b k)))
def mlU (a b : List Int) (n : Nat) : List Int := iter (fun i o => iter (mlI a b i) b.length o) a.length (rep (n : Nat) 0)
theorem mlI_len {a b o : List Int} {i k : Nat} : (mlI a b i k o).length = o.length := by simp [mlI, seI]
theorem mlI_lens {a b o : List Int} {i n : Nat} : (iter (mlI a b i) n o).length = o.length := iter_inv (fun (s : List Int) => s.length = o.length) rfl (fun i s h => by rw [mlI_len, h]) n
theorem mlU_len {a b : List Int} {n : Nat} : (mlU a b n).length = n := iter_inv (fun (s : List Int) => s.length = n) (by simp [rep]) (fun i s h => by rw [mlI_lens, h]) _
def mlO (a b : List Int) : Bool := smlF a && smlF b && decide (a.length + b.length ≤ 62) && polF (trimF (mlU a b (a.length + b.length)))
def mlR (a b : List Int) : List Int := if mlO a b = true then trimF (mlU a b (a.length + b.length)) else []

theorem ml_i [Has K 23 ir_impl_within] [Has K 416 ir_impl_MultiplyPolynomials] [Has K 428 ir_impl_IsPolynomial] [Has K 460 ir_impl_isFactor] [Has K 469 ir_impl_trimmed] {a b : List Int} (h : a.length ≤ 1048576) (h2 : b.length ≤ 1048576) : K 416 [LI a, LI b] [LI (mlR a b), .b (mlO a b)] := by
  refine body_by (f := ir_impl_MultiplyPolynomials) rfl ?_; simp only [ir_impl_MultiplyPolynomials]
  simp (disch := first | omega | (simp only [vl]; omega)) only [vcd]
  cases ha : smlF a
  · repeat (first | (refine call_by (fac_i (K := K) (p := a) (by omega)) rfl ?_; try simp (disch := first | omega | (simp only [vl]; omega)) only [vcd, ha, LI_nil]))
    simp [mlO, mlR, ha]
  · cases hb : smlF b
    · repeat (first | (refine call_by (fac_i (K := K) (p := a) (by omega)) rfl ?_; try simp (disch := first | omega | (simp only [vl]; omega)) only [vcd, ha, hb, LI_nil]) | (refine call_by (fac_i (K := K) (p := b) (by omega)) rfl ?_; try simp (disch := first | omega | (simp only [vl]; omega)) only [vcd, ha, hb, LI_nil]))
      simp [mlO, mlR, ha, hb]
    · by_cases hl : 62 < a.length + b.length
      · repeat (first | (refine call_by (fac_i (K := K) (p := a) (by omega)) rfl ?_; try simp (disch := first | omega | (simp only [vl]; omega)) only [vcd, ha, hb, LI_nil]) | (refine call_by (fac_i (K := K) (p := b) (by omega)) rfl ?_; try simp (disch := first | omega | (simp only [vl]; omega)) only [vcd, ha, hb, LI_nil]))
        have : ¬ a.length + b.length ≤ 62 := by omega
        simp [mlO, mlR, this]
      · repeat (first | (refine call_by (fac_i (K := K) (p := a) (by omega)) rfl ?_; try simp (disch := first | omega | (simp only [vl]; omega)) only [vcd, ha, hb]) | (refine call_by (fac_i (K := K) (p := b) (by omega)) rfl ?_; try simp (disch := first | omega | (simp only [vl]; omega)) only [vcd, ha, hb]))
        have hn : (a.length : Int) + (b.length : Int) = (a.length + b.length : Nat) := by omega
        simp (disch := first | omega | (simp only [vl]; omega)) only [vcd, hn]
        refine loop_fold (fun i o => iter (mlI a b i) b.length o) (fun _ (o : List Int) => o.length = a.length + b.length) (fun i o => [.u, LI b, .u, .u, LI o, .u, .u, .u, .u, .u, LI a, .n a.length, .n i, .u, .u, .u, .u, .u, .u]) a.length (rep (a.length + b.length : Nat) 0) (by rw [rep_len]; omega) rfl (fun i s _ hs => by rw [mlI_lens, hs]) (fun i o hi ho _ => ?_) (fun o ho1 ho => ?_)
        · simp (disch := first | omega | (simp only [vl]; omega)) only [vcd]
          refine loop_fold (mlI a b i) (fun _ (o : List Int) => o.length = a.length + b.length) (fun k o => [.u, LI b, .u, .u, LI o, .n i, .n (atI a i), .u, .u, .u, LI a, .n a.length, .n i, .u, LI b, .n b.length, .n k, .u, .u]) b.length o ho rfl (fun k s _ hs => by rw [mlI_len, hs]) (fun k o2 hk ho2 _ => ?_) (fun o2 ho3 ho2 => ?_)
          · simp (disch := first | omega | (simp only [vl]; omega)) only [vcd, mlI]
          · simp (disch := first | omega | (simp only [vl]; omega)) only [vcd]
            rw [ho3]
        · have e : o = mlU a b (a.length + b.length) := ho1
          subst e
          simp (disch := first | omega | (simp only [vl]; omega)) only [vcd]
          refine call_by (trim_i (K := K) (p := mlU a b (a.length + b.length)) (by omega)) rfl ?_
          have ht := trimF_len (p := mlU a b (a.length + b.length))
          have ht2 := trN_le (p := mlU a b (a.length + b.length)) (mlU a b (a.length + b.length)).length
          simp (disch := first | omega | (simp only [vl]; omega)) only [vcd]
          have hl2 : a.length + b.length ≤ 62 := by omega
          cases hp : polF (trimF (mlU a b (a.length + b.length)))
          · repeat (first | (refine call_by (poly_i (K := K) (p := trimF (mlU a b (a.length + b.length))) (by omega)) rfl ?_; try simp (disch := first | omega | (simp only [vl]; omega)) only [vcd, hp, LI_nil]))
            simp [mlO, mlR, ha, hb, hp]
          · repeat (first | (refine call_by (poly_i (K := K) (p := trimF (mlU a b (a.length + b.length))) (by omega)) rfl ?_; try simp (disch := first | omega | (simp only [vl]; omega)) only [vcd, hp]))
            simp [mlO, mlR, ha, hb, hp, hl2]

/-! ### Without the last nought -/
theorem trN_app {p : List Int} {z : Int} : ∀ {n : Nat}, n ≤ p.length → trN (p ++ [z]) n = trN p n
  | 0, _ => rfl
  | n + 1, h => by
    have e : atI (p ++ [z]) n = atI p n := by
      simp only [atI, Int.toNat_natCast, List.getD_eq_getElem?_getD]
      rw [List.getElem?_append_left (by omega)]
    simp only [trN, e]
    rw [trN_app (by omega)]
theorem trim_app0 {p : List Int} : trimF (p ++ [0]) = trimF p := by
  have e : atI (p ++ [0]) p.length = 0 := by simp [atI]
  have h := trN_le (p := p) p.length
  simp only [trimF, List.length_append, List.length_cons, List.length_nil, Nat.zero_add]
  rw [trN, if_pos e, trN_app (Nat.le_refl _), List.take_append_of_le_length h]
theorem trN_0 {p : List Int} : ∀ {n m : Nat}, m ≤ n → (∀ j, m ≤ j → j < n → atI p j = 0) → trN p n = trN p m
  | 0, m, h, _ => by
    obtain rfl : m = 0 := by omega
    rfl
  | n + 1, m, h, h0 => by
    by_cases q : m = n + 1
    · rw [q]
    · rw [trN, if_pos (h0 n (by omega) (by omega))]
      exact trN_0 (by omega) fun j h1 h2 => h0 j h1 (by omega)
theorem trim_rep0 {n : Nat} : trimF (rep (n : Nat) 0) = [] := by
  have e : trN (rep (n : Nat) 0) (rep (n : Nat) (0 : Int)).length = 0 := trN_0 (Nat.zero_le _) fun j _ hj => by
    have : j < n := by simpa [rep] using hj
    simp [atI, rep, this]
  rw [trimF, e, List.take_zero]
theorem ml_app {a b o : List Int} {i : Nat} : ∀ {m : Nat}, i + m ≤ o.length → iter (mlI a b i) m (o ++ [0]) = iter (mlI a b i) m o ++ [0]
  | 0, _ => rfl
  | m + 1, h => by
    have ih := ml_app (a := a) (b := b) (o := o) (i := i) (m := m) (by omega)
    have hl : (iter (mlI a b i) m o).length = o.length := mlI_lens
    simp only [iter]
    rw [ih]
    generalize iter (mlI a b i) m o = t at hl
    have e : ((i : Int) + m).toNat = i + m := by omega
    have e1 : atI (t ++ [0]) ((i : Int) + m) = atI t ((i : Int) + m) := by
      simp only [atI, e, List.getD_eq_getElem?_getD]
      rw [List.getElem?_append_left (by omega)]
    simp only [mlI, e1, seI, e]
    rw [List.set_append_left _ _ (by omega)]
theorem ml_app2 {a b : List Int} {n : Nat} : ∀ {m : Nat}, (m ≠ 0 → m + b.length ≤ n + 1) → iter (fun i o => iter (mlI a b i) b.length o) m (rep (n + 1 : Nat) 0) = iter (fun i o => iter (mlI a b i) b.length o) m (rep (n : Nat) 0) ++ [0]
  | 0, _ => by simp only [iter, rep_n]; rw [List.replicate_succ']
  | m + 1, h => by
    have ih := ml_app2 (a := a) (b := b) (n := n) (m := m) (by omega)
    have hl : (iter (fun i o => iter (mlI a b i) b.length o) m (rep (n : Nat) 0)).length = n := iter_inv (fun (s : List Int) => s.length = n) (by simp [rep]) (fun i s h => by rw [mlI_lens, h]) _
    simp only [iter]
    rw [ih, ml_app (by omega)]
theorem mlU_pre {a b : List Int} (_ha : a.length ≠ 0) (hb : b.length ≠ 0) : trimF (mlU a b (a.length + b.length)) = trimF (mlU a b (a.length + b.length - 1)) := by
  obtain ⟨n, hn⟩ : ∃ n, a.length + b.length = n + 1 := ⟨a.length + b.length - 1, by omega⟩
  rw [hn, Nat.add_sub_cancel]
  simp only [mlU]
  rw [ml_app2 (by omega), trim_app0]
theorem mlU_nil {a b : List Int} {n : Nat} (h : a.length = 0 ∨ b.length = 0) : trimF (mlU a b n) = [] := by
  have e : mlU a b n = rep (n : Nat) 0 := by
    rcases h with h | h
    · simp only [mlU, h, iter]
    · exact iter_inv (fun s => s = rep (n : Nat) 0) rfl (fun i s hs => by rw [h]; exact hs) _
  rw [e, trim_rep0]

theorem times_s [Has K 463 ir_spec_l14Trim] [Has K 464 ir_spec_l14Times] {a b : List Int} (h : a.length ≤ 1048576) (h2 : b.length ≤ 1048576) : K 464 [LI a, LI b] [LI (trimF (mlU a b (a.length + b.length)))] := by
  refine body_by (f := ir_spec_l14Times) rfl ?_; simp only [ir_spec_l14Times]
  by_cases ha : a.length = 0
  · simp (disch := first | omega | (simp only [vl]; omega)) only [vcd, ha, LI_nil]
    rw [mlU_nil (.inl ha)]
  · by_cases hb : b.length = 0
    · simp (disch := first | omega | (simp only [vl]; omega)) only [vcd, hb, LI_nil]
      rw [mlU_nil (.inr hb)]
    · have hn : (a.length : Int) + (b.length : Int) - 1 = (a.length + b.length - 1 : Nat) := by omega
      simp (disch := first | omega | (simp only [vl]; omega)) only [vcd, hn]
      refine loop_fold (fun i o => iter (mlI a b i) b.length o) (fun _ (o : List Int) => o.length = a.length + b.length - 1) (fun i o => [LI a, LI b, .u, LI o, .n i, .u, .u, .u, .u]) a.length (rep (a.length + b.length - 1 : Nat) 0) (by simp [rep]) rfl (fun i s _ hs => by rw [mlI_lens, hs]) (fun i o hi ho _ => ?_) (fun o ho1 ho => ?_)
      · simp (disch := first | omega | (simp only [vl]; omega)) only [vcd]
        refine loop_fold (mlI a b i) (fun _ (o : List Int) => o.length = a.length + b.length - 1) (fun k o => [LI a, LI b, .u, LI o, .n i, .n k, .u, .u, .u]) b.length o ho rfl (fun k s _ hs => by rw [mlI_len, hs]) (fun k o2 hk ho2 _ => ?_) (fun o2 ho3 ho2 => ?_)
        · simp (disch := first | omega | (simp only [vl]; omega)) only [vcd, mlI]
        · simp (disch := first | omega | (simp only [vl]; omega)) only [vcd]
          rw [ho3]
      · have e : o = mlU a b (a.length + b.length - 1) := ho1
        subst e
        simp (disch := first | omega | (simp only [vl]; omega)) only [vcd]
        refine call_by (trim_s (K := K) (p := mlU a b (a.length + b.length - 1)) (by omega)) rfl ?_
        simp (disch := first | omega | (simp only [vl]; omega)) only [vcd]
        rw [mlU_pre ha hb]
theorem ml_s [Has K 22 ir_spec_l1In] [Has K 405 ir_spec_MultiplyPolynomials] [Has K 429 ir_spec_IsPolynomial] [Has K 462 ir_spec_l14Small] [Has K 463 ir_spec_l14Trim] [Has K 464 ir_spec_l14Times] {a b : List Int} (h : a.length ≤ 1048576) (h2 : b.length ≤ 1048576) : K 405 [LI a, LI b] [LI (mlR a b), .b (mlO a b)] := by
  refine body_by (f := ir_spec_MultiplyPolynomials) rfl ?_; simp only [ir_spec_MultiplyPolynomials]
  simp (disch := first | omega | (simp only [vl]; omega)) only [vcd]
  cases ha : smlF a
  · repeat (first | (refine call_by (fac_s (K := K) (p := a) (by omega)) rfl ?_; try simp (disch := first | omega | (simp only [vl]; omega)) only [vcd, ha, LI_nil]))
    simp [mlO, mlR, ha]
  · cases hb : smlF b
    · repeat (first | (refine call_by (fac_s (K := K) (p := a) (by omega)) rfl ?_; try simp (disch := first | omega | (simp only [vl]; omega)) only [vcd, ha, hb, LI_nil]) | (refine call_by (fac_s (K := K) (p := b) (by omega)) rfl ?_; try simp (disch := first | omega | (simp only [vl]; omega)) only [vcd, ha, hb, LI_nil]))
      simp [mlO, mlR, ha, hb]
    · by_cases hl : 62 < a.length + b.length
      · repeat (first | (refine call_by (fac_s (K := K) (p := a) (by omega)) rfl ?_; try simp (disch := first | omega | (simp only [vl]; omega)) only [vcd, ha, hb, LI_nil]) | (refine call_by (fac_s (K := K) (p := b) (by omega)) rfl ?_; try simp (disch := first | omega | (simp only [vl]; omega)) only [vcd, ha, hb, LI_nil]))
        have : ¬ a.length + b.length ≤ 62 := by omega
        simp [mlO, mlR, this]
      · repeat (first | (refine call_by (fac_s (K := K) (p := a) (by omega)) rfl ?_; try simp (disch := first | omega | (simp only [vl]; omega)) only [vcd, ha, hb]) | (refine call_by (fac_s (K := K) (p := b) (by omega)) rfl ?_; try simp (disch := first | omega | (simp only [vl]; omega)) only [vcd, ha, hb]))
        refine call_by (times_s (K := K) (a := a) (b := b) h h2) rfl ?_
        have ht := trimF_len (p := mlU a b (a.length + b.length))
        have ht2 := trN_le (p := mlU a b (a.length + b.length)) (mlU a b (a.length + b.length)).length
        have ht3 := mlU_len (a := a) (b := b) (n := a.length + b.length)
        simp (disch := first | omega | (simp only [vl]; omega)) only [vcd]
        have hl2 : a.length + b.length ≤ 62 := by omega
        cases hp : polF (trimF (mlU a b (a.length + b.length)))
        · repeat (first | (refine call_by (poly_s (K := K) (p := trimF (mlU a b (a.length + b.length))) (by omega)) rfl ?_; try simp (disch := first | omega | (simp only [vl]; omega)) only [vcd, hp, LI_nil]))
          simp [mlO, mlR, ha, hb, hp]
        · repeat (first | (refine call_by (poly_s (K := K) (p := trimF (mlU a b (a.length + b.length))) (by omega)) rfl ?_; try simp (disch := first | omega | (simp only [vl]; omega)) only [vcd, hp]))
          simp [mlO, mlR, ha, hb, hp, hl2]

/-! ### Quotients -/
def dvI (b : List Int) (c : Int) (i k : Nat) (o : List Int) : List Int := seI o ((i : Int) + k) (IntKind.i64.wrap (atI o ((i : Int) + k) - IntKind.i64.wrap (c * atI b k)))
theorem dvI_len {b o : List Int} {c : Int} {i k : Nat} : (dvI b c i k o).length = o.length := by simp [dvI, seI]
theorem dvI_lens {b o : List Int} {c : Int} {i n : Nat} : (iter (dvI b c i) n o).length = o.length := iter_inv (fun (s : List Int) => s.length = o.length) rfl (fun i s h => by rw [dvI_len, h]) n
/-- One step: what is left, the quotient. -/
def dvS (b : List Int) (i : Nat) (x : List Int × List Int) : List Int × List Int :=
  (iter (dvI b (atI x.1 ((i : Int) + b.length - 1)) i) b.length x.1, seI x.2 i (atI x.1 ((i : Int) + b.length - 1)))
/-- All steps, from the highest one on, as long as the quotient keeps within bounds. -/
def dvL (b : List Int) : Nat → List Int × List Int → Option (List Int × List Int)
  | 0, x => some x
  | i + 1, x => if inR (-1000000000) 1000000000 (atI x.1 ((i : Int) + b.length - 1)) = true then dvL b i (dvS b i x) else none
/-- All steps. -/
def dvT (b : List Int) : Nat → List Int × List Int → List Int × List Int
  | 0, x => x
  | i + 1, x => dvT b i (dvS b i x)
def dvN (a b : List Int) : Nat := a.length + 1 - b.length
def dvC (a b : List Int) : Bool := smlF a && inR 1 13 b.length && decide (atI b ((b.length : Int) - 1) = 1) && b.all (inR (-1) 1)
def dvM (a b : List Int) : Option (List Int × List Int) := if dvC a b = true then (dvL b (dvN a b) (a, rep (dvN a b : Nat) 0)).bind fun x => if polF (trimF x.2) && polF (trimF x.1) then some (trimF x.2, trimF x.1) else none else none
theorem dvL_len {b : List Int} : ∀ {i : Nat} {x y : List Int × List Int}, dvL b i x = some y → y.1.length = x.1.length ∧ y.2.length = x.2.length
  | 0, x, y, h => by simp only [dvL, Option.some.injEq] at h; subst h; exact ⟨rfl, rfl⟩
  | i + 1, x, y, h => by
    simp only [dvL] at h
    split at h
    · have := dvL_len h
      simp only [dvS, dvI_lens, seI_len] at this
      exact this
    · cases h
theorem div_i [Has K 23 ir_impl_within] [Has K 75 ir_impl_copyInts] [Has K 461 ir_impl_divide] [Has K 469 ir_impl_trimmed] {a b : List Int} (h : a.length ≤ 1048576) (h2 : b.length ≤ 1048576) (h0 : 1 ≤ b.length) :
    K 461 [LI a, LI b] (match dvL b (dvN a b) (a, rep (dvN a b : Nat) 0) with | some x => [LI (trimF x.2), LI (trimF x.1), .b true] | none => [LI [], LI [], .b false]) := by
  have hn : (max 0 ((a.length : Int) - (b.length : Int) + 1)) = (dvN a b : Nat) := by simp only [dvN]; omega
  refine body_by (f := ir_impl_divide) rfl ?_; simp only [ir_impl_divide]
  simp (disch := first | omega | (simp only [vl]; omega)) only [vcd]
  refine call_by (copyInts_ok (K := K) (p := a) (by omega)) rfl ?_
  simp (disch := first | omega | (simp only [vl]; omega)) only [vcd, hn]
  refine loop_wh (fun (x : Nat × List Int × List Int) => x.1 ≤ dvN a b ∧ x.2.1.length = a.length ∧ x.2.2.length = dvN a b ∧ dvL b x.1 x.2 = dvL b (dvN a b) (a, rep (dvN a b : Nat) 0)) (fun x => [.u, LI b, .u, .u, .u, LI x.2.1, LI x.2.2, .n ((x.1 : Int) - 1), .u, .u, .u, .u, .u, .u, .u, .u, .u]) (fun x => x.1) (dvN a b, a, rep (dvN a b : Nat) 0) ⟨Nat.le_refl _, rfl, by simp [rep], rfl⟩ (by simp [rep]) ?_
  rintro ⟨i, l, q⟩ ⟨g1, g2, g3, g4⟩
  simp only at g1 g2 g3 g4 ⊢
  have hdn : dvN a b = a.length + 1 - b.length := rfl
  cases i with
  | zero =>
    have ht := trimF_len (p := l)
    have ht2 := trimF_len (p := q)
    simp (disch := first | omega | (simp only [vl]; omega)) only [vcd]
    refine call_by (trim_i (K := K) (p := q) (by omega)) rfl ?_
    simp (disch := first | omega | (simp only [vl]; omega)) only [vcd]
    refine call_by (trim_i (K := K) (p := l) (by omega)) rfl ?_
    simp (disch := first | omega | (simp only [vl]; omega)) only [vcd]
    rw [← g4]; rfl
  | succ i =>
    have ei : ((i + 1 : Nat) : Int) - 1 = i := by omega
    rw [ei]
    simp (disch := first | omega | (simp only [vl]; omega)) only [vcd]
    refine call_by (within_ok (K := K)) rfl ?_
    cases hr : inR (-1000000000) 1000000000 (atI l ((i : Int) + b.length - 1))
    · simp (disch := first | omega | (simp only [vl]; omega)) only [vcd]
      rw [← g4]
      simp only [dvL, hr]
      rfl
    · simp (disch := first | omega | (simp only [vl]; omega)) only [vcd]
      refine loop_fold (dvI b (atI l ((i : Int) + b.length - 1)) i) (fun _ (o : List Int) => o.length = a.length) (fun k o => [.u, LI b, .u, .u, .u, LI o, LI (seI q i (atI l ((i : Int) + b.length - 1))), .n i, .n (atI l ((i : Int) + b.length - 1)), .u, .u, .u, .u, LI b, .n b.length, .n k, .u]) b.length l g2 rfl (fun k s _ hs => by rw [dvI_len, hs]) (fun k o2 hk ho2 _ => ?_) (fun o2 ho3 ho2 => ?_)
      · simp (disch := first | omega | (simp only [vl]; omega)) only [vcd, dvI]
      · simp (disch := first | omega | (simp only [vl]; omega)) only [vcd]
        refine ⟨(i, o2, seI q i (atI l ((i : Int) + b.length - 1))), by omega, ⟨by omega, ho2, by rw [seI_len, g3], ?_⟩, by simp⟩
        rw [← g4]
        simp only [dvL, hr, if_true]
        rw [ho3]; rfl
theorem dvC_pol {b : List Int} (h1 : inR 1 13 b.length = true) (h2 : atI b ((b.length : Int) - 1) = 1) (h3 : b.all (inR (-1) 1) = true) : polF b = true := by
  have hl := inR_iff.1 h1
  simp only [List.all_eq_true] at h3
  simp only [polF, Bool.and_eq_true, List.all_eq_true, decide_eq_true_eq, Bool.or_eq_true, h2]
  refine ⟨fun x hx => ?_, by omega, .inr rfl⟩
  have := inR_iff.1 (h3 x hx)
  exact inR_iff.2 (by omega)
theorem dv_i [Has K 23 ir_impl_within] [Has K 75 ir_impl_copyInts] [Has K 403 ir_impl_DividePolynomials] [Has K 428 ir_impl_IsPolynomial] [Has K 460 ir_impl_isFactor] [Has K 461 ir_impl_divide] [Has K 469 ir_impl_trimmed] {a b : List Int} (h : a.length ≤ 1048576) (h2 : b.length ≤ 1048576) :
    K 403 [LI a, LI b] (match dvM a b with | some x => [LI x.1, LI x.2, .b true] | none => [LI [], LI [], .b false]) := by
  refine body_by (f := ir_impl_DividePolynomials) rfl ?_; simp only [ir_impl_DividePolynomials]
  simp (disch := first | omega | (simp only [vl]; omega)) only [vcd]
  refine call_by (fac_i (K := K) (p := a) (by omega)) rfl ?_
  cases ha : smlF a
  · simp (disch := first | omega | (simp only [vl]; omega)) only [vcd]
    refine loop_ix (fun _ => True) (fun i => [LI a, LI b, .u, .u, .u, .b false, .u, .u, .u, .u, LI b, .n b.length, .n i, .u, .u, .u]) b.length trivial rfl (fun i hi _ => ?_) (fun _ => ?_)
    · simp (disch := first | omega | (simp only [vl]; omega)) only [vcd]
    · simp (disch := first | omega | (simp only [vl]; omega)) only [vcd, LI_nil]
      simp [dvM, dvC, ha]
  · simp (disch := first | omega | (simp only [vl]; omega)) only [vcd]
    refine call_by (within_ok (K := K)) rfl ?_
    cases hl : inR 1 13 b.length
    · simp (disch := first | omega | (simp only [vl]; omega)) only [vcd]
      refine loop_ix (fun _ => True) (fun i => [LI a, LI b, .u, .u, .u, .b false, .u, .u, .u, .u, LI b, .n b.length, .n i, .u, .u, .u]) b.length trivial rfl (fun i hi _ => ?_) (fun _ => ?_)
      · simp (disch := first | omega | (simp only [vl]; omega)) only [vcd]
      · simp (disch := first | omega | (simp only [vl]; omega)) only [vcd, LI_nil]
        simp [dvM, dvC, ha, hl]
    · have hb := inR_iff.1 hl
      by_cases hz : atI b ((b.length : Int) - 1) = 1
      · simp (disch := first | omega | (simp only [vl]; omega)) only [vcd, hz]
        refine loop_up (fun i (x : Bool) => (x = true → ∀ j : Nat, j < i → inR (-1) 1 (atI b j) = true) ∧ (x = false → b.all (inR (-1) 1) = false)) (fun i x => [LI a, LI b, .u, .u, .u, .b x, .u, .u, .u, .u, LI b, .n b.length, .n i, .u, .u, .u]) b.length true ⟨fun _ => by simp, by simp⟩ rfl (fun i x hi hP => ?_) (fun x hP => ?_)
        · simp (disch := first | omega | (simp only [vl]; omega)) only [vcd]
          cases x
          · simp (disch := first | omega | (simp only [vl]; omega)) only [vcd]
            exact ⟨false, ⟨by simp, hP.2⟩, rfl⟩
          · simp (disch := first | omega | (simp only [vl]; omega)) only [vcd]
            refine call_by (within_ok (K := K)) rfl ?_
            cases hr : inR (-1) 1 (atI b i)
            · simp (disch := first | omega | (simp only [vl]; omega)) only [vcd]
              exact ⟨false, ⟨by simp, fun _ => all_f hi hr⟩, rfl⟩
            · simp (disch := first | omega | (simp only [vl]; omega)) only [vcd]
              exact ⟨true, ⟨fun _ => all_s (hP.1 rfl) hr, by simp⟩, rfl⟩
        · cases x
          · simp (disch := first | omega | (simp only [vl]; omega)) only [vcd, LI_nil]
            simp [dvM, dvC, hP.2 rfl]
          · have hall := all_t (hP.1 rfl)
            have hc : dvC a b = true := by simp [dvC, ha, hl, hz, hall]
            have kd := div_i (K := K) h h2 (by omega)
            have hlen := fun y => dvL_len (b := b) (i := dvN a b) (x := (a, rep (dvN a b : Nat) 0)) (y := y)
            have hdn : dvN a b = a.length + 1 - b.length := rfl
            simp only [dvM, hc, if_true]
            simp (disch := first | omega | (simp only [vl]; omega)) only [vcd]
            cases hq : dvL b (dvN a b) (a, rep (dvN a b : Nat) 0) with
            | none =>
              rw [hq] at kd
              refine call_by (kd) rfl ?_
              simp (disch := first | omega | (simp only [vl]; omega)) only [vcd, LI_nil]
              rfl
            | some y =>
              rw [hq] at kd
              obtain ⟨e1, e2⟩ := hlen y hq
              simp only [rep_len] at e1 e2
              have t1 := trimF_len (p := y.1)
              have t2 := trimF_len (p := y.2)
              have t3 := trN_le (p := y.1) y.1.length
              have t4 := trN_le (p := y.2) y.2.length
              refine call_by (kd) rfl ?_
              simp (disch := first | omega | (simp only [vl]; omega)) only [vcd]
              cases p1 : polF (trimF y.2)
              · repeat (first | (refine call_by (poly_i (K := K) (p := trimF y.2) (by omega)) rfl ?_; try simp (disch := first | omega | (simp only [vl]; omega)) only [vcd, p1, LI_nil]))
                all_goals rfl
              · cases p2 : polF (trimF y.1)
                · repeat (first | (refine call_by (poly_i (K := K) (p := trimF y.2) (by omega)) rfl ?_; try simp (disch := first | omega | (simp only [vl]; omega)) only [vcd, p1, p2, LI_nil]) | (refine call_by (poly_i (K := K) (p := trimF y.1) (by omega)) rfl ?_; try simp (disch := first | omega | (simp only [vl]; omega)) only [vcd, p1, p2, LI_nil]))
                  all_goals rfl
                · repeat (first | (refine call_by (poly_i (K := K) (p := trimF y.2) (by omega)) rfl ?_; try simp (disch := first | omega | (simp only [vl]; omega)) only [vcd, p1, p2]) | (refine call_by (poly_i (K := K) (p := trimF y.1) (by omega)) rfl ?_; try simp (disch := first | omega | (simp only [vl]; omega)) only [vcd, p1, p2]))
                  all_goals rfl
      · simp (disch := first | omega | (simp only [vl]; omega)) only [vcd]
        refine loop_ix (fun _ => True) (fun i => [LI a, LI b, .u, .u, .u, .b false, .u, .u, .u, .u, LI b, .n b.length, .n i, .u, .u, .u]) b.length trivial rfl (fun i hi _ => ?_) (fun _ => ?_)
        · simp (disch := first | omega | (simp only [vl]; omega)) only [vcd]
        · simp (disch := first | omega | (simp only [vl]; omega)) only [vcd, LI_nil]
          simp [dvM, dvC, hz]
end Go.Cat

