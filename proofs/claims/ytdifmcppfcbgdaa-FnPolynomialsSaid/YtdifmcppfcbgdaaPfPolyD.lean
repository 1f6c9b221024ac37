/-
  Polynomials: quotients of the reference, values, ones.
-/
import Derived.Test.YtdifmcppfcbgdaaPfPolyM
import Derived.Test.YtdifmcppfcbgdaaPfFmt
import Derived.Test.YtdifmcppfcbgdaaPfTxt
namespace Go.Cat
set_option linter.unusedSimpArgs false
variable {K : Nat → List D → List D → Prop}

theorem dv_s [Has K 22 ir_spec_l1In] [Has K 404 ir_spec_DividePolynomials] [Has K 429 ir_spec_IsPolynomial] [Has K 462 ir_spec_l14Small] [Has K 463 ir_spec_l14Trim] {a b : List Int} (h : a.length ≤ 1048576) (h2 : b.length ≤ 1048576) :
    K 404 [LI a, LI b] (match dvM a b with | some x => [LI x.1, LI x.2, .b true] | none => [LI [], LI [], .b false]) := by
  refine body_by (f := ir_spec_DividePolynomials) rfl ?_; simp only [ir_spec_DividePolynomials]
  simp (disch := first | omega | (simp only [vl]; omega)) only [vcd]
  refine call_by (fac_s (K := K) (p := a) (by omega)) rfl ?_
  cases ha : smlF a
  · simp (disch := first | omega | (simp only [vl]; omega)) only [vcd, LI_nil]
    simp [dvM, dvC, ha]
  · simp (disch := first | omega | (simp only [vl]; omega)) only [vcd]
    cases hpb : polF b
    · repeat (first | (refine call_by (poly_s (K := K) (p := b) (by omega)) rfl ?_; try simp (disch := first | omega | (simp only [vl]; omega)) only [vcd, hpb, LI_nil]))
      have hn : dvC a b = false := by
        cases hc : dvC a b
        · rfl
        · simp only [dvC, Bool.and_eq_true, decide_eq_true_eq] at hc
          have := dvC_pol hc.1.1.2 hc.1.2 hc.2
          rw [hpb] at this; cases this
      simp [dvM, hn]
    · repeat (first | (refine call_by (poly_s (K := K) (p := b) (by omega)) rfl ?_; try simp (disch := first | omega | (simp only [vl]; omega)) only [vcd, hpb]))
      refine call_by (l1In_ok (K := K)) rfl ?_
      cases hl : inR 1 13 b.length
      · simp (disch := first | omega | (simp only [vl]; omega)) only [vcd, LI_nil]
        simp [dvM, dvC, hl]
      · have hb := inR_iff.1 hl
        by_cases hz : atI b ((b.length : Int) - 1) = 1
        · simp (disch := first | omega | (simp only [vl]; omega)) only [vcd, hz]
          refine loop_ix (fun i => ∀ j : Nat, j < i → inR (-1) 1 (atI b j) = true) (fun i => [LI a, LI b, .u, .u, .u, .n i, .u, .u, .u, .u, .u, .u, .u, .u, .u, .u, .u, .u, .u, .u]) b.length (by simp) rfl (fun i hi hP => ?_) (fun hP => ?_)
          · simp (disch := first | omega | (simp only [vl]; omega)) only [vcd]
            refine call_by (l1In_ok (K := K)) rfl ?_
            cases hr : inR (-1) 1 (atI b i)
            · simp (disch := first | omega | (simp only [vl]; omega)) only [vcd, LI_nil]
              simp [dvM, dvC, all_f hi hr]
            · simp (disch := first | omega | (simp only [vl]; omega)) only [vcd]
              exact all_s hP hr
          · have hall := all_t hP
            have hc : dvC a b = true := by simp [dvC, ha, hl, hz, hall]
            have hn : (max 0 ((a.length : Int) - (b.length : Int) + 1)) = (dvN a b : Nat) := by simp only [dvN]; omega
            have hdn : dvN a b = a.length + 1 - b.length := rfl
            simp only [dvM, hc, if_true]
            simp (disch := first | omega | (simp only [vl]; omega)) only [vcd, LI_nil, hn]
            refine loop_wh (fun (x : Nat × List Int × List Int) => x.1 ≤ dvN a b ∧ x.2.1.length = a.length ∧ x.2.2.length = dvN a b ∧ dvL b x.1 x.2 = dvL b (dvN a b) (a, rep (dvN a b : Nat) 0)) (fun x => [.u, LI b, .u, .u, .u, .u, LI x.2.1, LI x.2.2, .n ((x.1 : Int) - 1), .u, .u, .u, .u, .u, .u, .u, .u, .u, .u, .u]) (fun x => x.1) (dvN a b, a, rep (dvN a b : Nat) 0) ⟨Nat.le_refl _, rfl, by simp [rep], rfl⟩ (by simp [rep]) ?_
            rintro ⟨i, l, q⟩ ⟨g1, g2, g3, g4⟩
            simp only at g1 g2 g3 g4 ⊢
            cases i with
            | zero =>
              have t1 := trimF_len (p := l)
              have t2 := trimF_len (p := q)
              have t3 := trN_le (p := l) l.length
              have t4 := trN_le (p := q) q.length
              rw [← g4]
              simp only [dvL, Option.bind_some]
              simp (disch := first | omega | (simp only [vl]; omega)) only [vcd]
              refine call_by (trim_s (K := K) (p := q) (by omega)) rfl ?_
              simp (disch := first | omega | (simp only [vl]; omega)) only [vcd]
              refine call_by (trim_s (K := K) (p := l) (by omega)) rfl ?_
              simp (disch := first | omega | (simp only [vl]; omega)) only [vcd]
              cases p1 : polF (trimF q)
              · repeat (first | (refine call_by (poly_s (K := K) (p := trimF q) (by omega)) rfl ?_; try simp (disch := first | omega | (simp only [vl]; omega)) only [vcd, p1, LI_nil]))
                all_goals rfl
              · cases p2 : polF (trimF l)
                · repeat (first | (refine call_by (poly_s (K := K) (p := trimF q) (by omega)) rfl ?_; try simp (disch := first | omega | (simp only [vl]; omega)) only [vcd, p1, p2, LI_nil]) | (refine call_by (poly_s (K := K) (p := trimF l) (by omega)) rfl ?_; try simp (disch := first | omega | (simp only [vl]; omega)) only [vcd, p1, p2, LI_nil]))
                  all_goals rfl
                · repeat (first | (refine call_by (poly_s (K := K) (p := trimF q) (by omega)) rfl ?_; try simp (disch := first | omega | (simp only [vl]; omega)) only [vcd, p1, p2]) | (refine call_by (poly_s (K := K) (p := trimF l) (by omega)) rfl ?_; try simp (disch := first | omega | (simp only [vl]; omega)) only [vcd, p1, p2]))
                  all_goals rfl
            | succ i =>
              have ei : ((i + 1 : Nat) : Int) - 1 = i := by omega
              rw [ei]
              simp (disch := first | omega | (simp only [vl]; omega)) only [vcd]
              refine call_by (l1In_ok (K := K)) rfl ?_
              cases hr : inR (-1000000000) 1000000000 (atI l ((i : Int) + b.length - 1))
              · simp (disch := first | omega | (simp only [vl]; omega)) only [vcd, LI_nil]
                rw [← g4]
                simp only [dvL, hr]
                rfl
              · simp (disch := first | omega | (simp only [vl]; omega)) only [vcd]
                refine loop_fold (dvI b (atI l ((i : Int) + b.length - 1)) i) (fun _ (o : List Int) => o.length = a.length) (fun k o => [.u, LI b, .u, .u, .u, .u, LI o, LI (seI q i (atI l ((i : Int) + b.length - 1))), .n i, .n (atI l ((i : Int) + b.length - 1)), .n k, .u, .u, .u, .u, .u, .u, .u, .u, .u]) b.length l g2 rfl (fun k s _ hs => by rw [dvI_len, hs]) (fun k o2 hk ho2 _ => ?_) (fun o2 ho3 ho2 => ?_)
                · simp (disch := first | omega | (simp only [vl]; omega)) only [vcd, dvI]
                · simp (disch := first | omega | (simp only [vl]; omega)) only [vcd]
                  refine ⟨(i, o2, seI q i (atI l ((i : Int) + b.length - 1))), by omega, ⟨by omega, ho2, by rw [seI_len, g3], ?_⟩, by simp⟩
                  rw [← g4]
                  simp only [dvL, hr, if_true]
                  rw [ho3]; rfl
        · simp (disch := first | omega | (simp only [vl]; omega)) only [vcd, LI_nil]
          simp [dvM, dvC, hz]
theorem ldv_s [Has K 463 ir_spec_l14Trim] [Has K 471 ir_spec_l14Divide] {a b : List Int} (h : a.length ≤ 1048576) (h2 : b.length ≤ 1048576) (h0 : 1 ≤ b.length) :
    K 471 [LI a, LI b] [LI (trimF (dvT b (dvN a b) (a, rep (dvN a b : Nat) 0)).2), LI (trimF (dvT b (dvN a b) (a, rep (dvN a b : Nat) 0)).1)] := by
  have hn : (max 0 ((a.length : Int) - (b.length : Int) + 1)) = (dvN a b : Nat) := by simp only [dvN]; omega
  have hdn : dvN a b = a.length + 1 - b.length := rfl
  refine body_by (f := ir_spec_l14Divide) rfl ?_; simp only [ir_spec_l14Divide]
  simp (disch := first | omega | (simp only [vl]; omega)) only [vcd, LI_nil, hn]
  refine loop_wh (fun (x : Nat × List Int × List Int) => x.1 ≤ dvN a b ∧ x.2.1.length = a.length ∧ x.2.2.length = dvN a b ∧ dvT b x.1 x.2 = dvT b (dvN a b) (a, rep (dvN a b : Nat) 0)) (fun x => [.u, LI b, .u, .u, LI x.2.1, LI x.2.2, .n ((x.1 : Int) - 1), .u, .u, .u, .u]) (fun x => x.1) (dvN a b, a, rep (dvN a b : Nat) 0) ⟨Nat.le_refl _, rfl, by simp [rep], rfl⟩ (by simp [rep]) ?_
  rintro ⟨i, l, q⟩ ⟨g1, g2, g3, g4⟩
  simp only at g1 g2 g3 g4 ⊢
  cases i with
  | zero =>
    simp (disch := first | omega | (simp only [vl]; omega)) only [vcd]
    refine call_by (trim_s (K := K) (p := q) (by omega)) rfl ?_
    simp (disch := first | omega | (simp only [vl]; omega)) only [vcd]
    refine call_by (trim_s (K := K) (p := l) (by omega)) rfl ?_
    simp (disch := first | omega | (simp only [vl]; omega)) only [vcd]
    rw [← g4]; rfl
  | succ i =>
    have ei : ((i + 1 : Nat) : Int) - 1 = i := by omega
    rw [ei]
    simp (disch := first | omega | (simp only [vl]; omega)) only [vcd]
    refine loop_fold (dvI b (atI l ((i : Int) + b.length - 1)) i) (fun _ (o : List Int) => o.length = a.length) (fun k o => [.u, LI b, .u, .u, LI o, LI (seI q i (atI l ((i : Int) + b.length - 1))), .n i, .n (atI l ((i : Int) + b.length - 1)), .n k, .u, .u]) b.length l g2 rfl (fun k s _ hs => by rw [dvI_len, hs]) (fun k o2 hk ho2 _ => ?_) (fun o2 ho3 ho2 => ?_)
    · simp (disch := first | omega | (simp only [vl]; omega)) only [vcd, dvI]
    · simp (disch := first | omega | (simp only [vl]; omega)) only [vcd]
      refine ⟨(i, o2, seI q i (atI l ((i : Int) + b.length - 1))), by omega, ⟨by omega, ho2, by rw [seI_len, g3], ?_⟩, by simp⟩
      rw [← g4]
      simp only [dvT]
      rw [ho3]; rfl

/-! ### Values -/
/-- From the highest coefficient on. -/
def hoF (p : List Int) (x : Int) : Nat → Int → Int
  | 0, v => v
  | i + 1, v => hoF p x i (IntKind.i64.wrap (IntKind.i64.wrap (v * x) + atI p i))
def vaO (p : List Int) (x : Int) : Bool := polF p && (decide (p.length ≤ 1) || inR (-2) 2 x) && (decide (p.length ≤ 30) || inR (-1) 1 x)
def vaR (p : List Int) (x : Int) : Int := if vaO p x = true then (if p.length = 0 then 0 else hoF p x (p.length - 1) (atI p ((p.length : Int) - 1))) else 0
theorem va_i [Has K 23 ir_impl_within] [Has K 414 ir_impl_ValueAt] [Has K 428 ir_impl_IsPolynomial] {p : List Int} {x : Int} (h : p.length ≤ 1048576) : K 414 [LI p, .n x] [.n (vaR p x), .b (vaO p x)] := by
  refine body_by (f := ir_impl_ValueAt) rfl ?_; simp only [ir_impl_ValueAt]
  simp (disch := first | omega | (simp only [vl]; omega)) only [vcd]
  cases hp : polF p
  · repeat (first | (refine call_by (poly_i (K := K) (p := p) (by omega)) rfl ?_; try simp (disch := first | omega | (simp only [vl]; omega)) only [vcd, hp]))
    simp [vaR, vaO, hp]
  · have hl := polF_len hp
    repeat (first | (refine call_by (poly_i (K := K) (p := p) (by omega)) rfl ?_; try simp (disch := first | omega | (simp only [vl]; omega)) only [vcd, hp]))
    by_cases h0 : p.length = 0
    · simp (disch := first | omega | (simp only [vl]; omega)) only [vcd, h0]
      simp [vaR, vaO, hp, h0]
    · by_cases h1 : 1 < p.length ∧ inR (-2) 2 x = false
      · have e : vaO p x = false := by
          have : ¬ p.length ≤ 1 := by have := h1.1; omega
          simp [vaO, h1.2, this]
        have h1a := h1.1
        simp (disch := first | omega | (simp only [vl]; omega)) only [vcd]
        repeat (first | (refine call_by (within_ok (K := K)) rfl ?_; try simp (disch := first | omega | (simp only [vl]; omega)) only [vcd, h1.2]))
        simp [vaR, e]
      · by_cases h30 : 30 < p.length ∧ inR (-1) 1 x = false
        · have e : vaO p x = false := by
            have : ¬ p.length ≤ 30 := by have := h30.1; omega
            simp [vaO, h30.2, this]
          have h30a := h30.1
          have i2 : inR (-2) 2 x = true := by
            cases q : inR (-2) 2 x
            · exact absurd ⟨by omega, q⟩ h1
            · rfl
          simp (disch := first | omega | (simp only [vl]; omega)) only [vcd]
          repeat (first | (refine call_by (within_ok (K := K)) rfl ?_; try simp (disch := first | omega | (simp only [vl]; omega)) only [vcd, h30.2, i2]))
          simp [vaR, e]
        · have e : vaO p x = true := by
            have c1 : (decide (p.length ≤ 1) || inR (-2) 2 x) = true := by
              by_cases q : p.length ≤ 1
              · simp [q]
              · cases q2 : inR (-2) 2 x
                · exact absurd ⟨by omega, q2⟩ h1
                · simp
            have c2 : (decide (p.length ≤ 30) || inR (-1) 1 x) = true := by
              by_cases q : p.length ≤ 30
              · simp [q]
              · cases q2 : inR (-1) 1 x
                · exact absurd ⟨by omega, q2⟩ h30
                · simp
            simp [vaO, hp, c1, c2]
          have hv : vaR p x = hoF p x (p.length - 1) (atI p ((p.length : Int) - 1)) := by simp [vaR, e, h0]
          rw [e, hv]
          by_cases q1 : 1 < p.length
          · have i2 : inR (-2) 2 x = true := by
              cases q : inR (-2) 2 x
              · exact absurd ⟨q1, q⟩ h1
              · rfl
            by_cases q30 : 30 < p.length
            · have i1 : inR (-1) 1 x = true := by
                cases q : inR (-1) 1 x
                · exact absurd ⟨q30, q⟩ h30
                · rfl
              simp (disch := first | omega | (simp only [vl]; omega)) only [vcd]
              repeat (first | (refine call_by (within_ok (K := K)) rfl ?_; try simp (disch := first | omega | (simp only [vl]; omega)) only [vcd, i2, i1]))
              refine loop_wh (fun (y : Nat × Int) => y.1 ≤ p.length - 1 ∧ hoF p x y.1 y.2 = hoF p x (p.length - 1) (atI p ((p.length : Int) - 1))) (fun y => [LI p, .n x, .u, .u, .n y.2, .n ((y.1 : Int) - 1), .u, .u, .u]) (fun y => y.1) (p.length - 1, atI p ((p.length : Int) - 1)) ⟨Nat.le_refl _, rfl⟩ (by simp only []; rw [show (((p.length - 1 : Nat) : Int) - 1) = (p.length : Int) - 2 by omega]) ?_
              rintro ⟨i, v⟩ ⟨g1, g2⟩
              simp only at g1 g2 ⊢
              cases i with
              | zero =>
                simp (disch := first | omega | (simp only [vl]; omega)) only [vcd]
                rw [← g2]; rfl
              | succ i =>
                have ei : ((i + 1 : Nat) : Int) - 1 = i := by omega
                rw [ei]
                simp (disch := first | omega | (simp only [vl]; omega)) only [vcd]
                exact ⟨(i, IntKind.i64.wrap (IntKind.i64.wrap (v * x) + atI p i)), by omega, ⟨by omega, by rw [← g2]; rfl⟩, by simp⟩
            · simp (disch := first | omega | (simp only [vl]; omega)) only [vcd]
              repeat (first | (refine call_by (within_ok (K := K)) rfl ?_; try simp (disch := first | omega | (simp only [vl]; omega)) only [vcd, i2]))
              refine loop_wh (fun (y : Nat × Int) => y.1 ≤ p.length - 1 ∧ hoF p x y.1 y.2 = hoF p x (p.length - 1) (atI p ((p.length : Int) - 1))) (fun y => [LI p, .n x, .u, .u, .n y.2, .n ((y.1 : Int) - 1), .u, .u, .u]) (fun y => y.1) (p.length - 1, atI p ((p.length : Int) - 1)) ⟨Nat.le_refl _, rfl⟩ (by simp only []; rw [show (((p.length - 1 : Nat) : Int) - 1) = (p.length : Int) - 2 by omega]) ?_
              rintro ⟨i, v⟩ ⟨g1, g2⟩
              simp only at g1 g2 ⊢
              cases i with
              | zero =>
                simp (disch := first | omega | (simp only [vl]; omega)) only [vcd]
                rw [← g2]; rfl
              | succ i =>
                have ei : ((i + 1 : Nat) : Int) - 1 = i := by omega
                rw [ei]
                simp (disch := first | omega | (simp only [vl]; omega)) only [vcd]
                exact ⟨(i, IntKind.i64.wrap (IntKind.i64.wrap (v * x) + atI p i)), by omega, ⟨by omega, by rw [← g2]; rfl⟩, by simp⟩
          · simp (disch := first | omega | (simp only [vl]; omega)) only [vcd]
            refine loop_wh (fun (_ : Unit) => True) (fun _ => [LI p, .n x, .u, .u, .n (atI p ((p.length : Int) - 1)), .n ((p.length : Int) - 2), .u, .u, .u]) (fun _ => 0) () trivial rfl (fun _ _ => ?_)
            simp (disch := first | omega | (simp only [vl]; omega)) only [vcd]
            rw [show p.length - 1 = 0 by omega]; rfl
theorem va_s [Has K 22 ir_spec_l1In] [Has K 420 ir_spec_ValueAt] [Has K 429 ir_spec_IsPolynomial] {p : List Int} {x : Int} (h : p.length ≤ 1048576) : K 420 [LI p, .n x] [.n (vaR p x), .b (vaO p x)] := by
  refine body_by (f := ir_spec_ValueAt) rfl ?_; simp only [ir_spec_ValueAt]
  simp (disch := first | omega | (simp only [vl]; omega)) only [vcd]
  cases hp : polF p
  · repeat (first | (refine call_by (poly_s (K := K) (p := p) (by omega)) rfl ?_; try simp (disch := first | omega | (simp only [vl]; omega)) only [vcd, hp]))
    simp [vaR, vaO, hp]
  · have hl := polF_len hp
    repeat (first | (refine call_by (poly_s (K := K) (p := p) (by omega)) rfl ?_; try simp (disch := first | omega | (simp only [vl]; omega)) only [vcd, hp]))
    refine call_by (l1In_ok (K := K)) rfl ?_
    by_cases h1 : 1 < p.length ∧ inR (-2) 2 x = false
    · have e : vaO p x = false := by
        have : ¬ p.length ≤ 1 := by have := h1.1; omega
        simp [vaO, h1.2, this]
      have h1a := h1.1
      simp (disch := first | omega | (simp only [vl]; omega)) only [vcd, h1.2]
      simp [vaR, e]
    · by_cases h30 : 30 < p.length ∧ inR (-1) 1 x = false
      · have e : vaO p x = false := by
          have : ¬ p.length ≤ 30 := by have := h30.1; omega
          simp [vaO, h30.2, this]
        have h30a := h30.1
        have i2 : inR (-2) 2 x = true := by
          cases q : inR (-2) 2 x
          · exact absurd ⟨by omega, q⟩ h1
          · rfl
        simp (disch := first | omega | (simp only [vl]; omega)) only [vcd, i2]
        repeat (first | (refine call_by (l1In_ok (K := K)) rfl ?_; try simp (disch := first | omega | (simp only [vl]; omega)) only [vcd, h30.2]))
        simp [vaR, e]
      · have e : vaO p x = true := by
          have c1 : (decide (p.length ≤ 1) || inR (-2) 2 x) = true := by
            by_cases q : p.length ≤ 1
            · simp [q]
            · cases q2 : inR (-2) 2 x
              · exact absurd ⟨by omega, q2⟩ h1
              · simp
          have c2 : (decide (p.length ≤ 30) || inR (-1) 1 x) = true := by
            by_cases q : p.length ≤ 30
            · simp [q]
            · cases q2 : inR (-1) 1 x
              · exact absurd ⟨by omega, q2⟩ h30
              · simp
          simp [vaO, hp, c1, c2]
        rw [e]
        by_cases q1 : 1 < p.length
        · have hv : vaR p x = hoF p x (p.length - 1) (atI p ((p.length : Int) - 1)) := by
            have : p.length ≠ 0 := by omega
            simp [vaR, e, this]
          have hat := polF_at hp (i := p.length - 1) (by omega)
          have hat2 : atI p ((p.length - 1 : Nat) : Int) = atI p ((p.length : Int) - 1) := by congr 1; omega
          have hv2 : hoF p x p.length 0 = hoF p x (p.length - 1) (atI p ((p.length : Int) - 1)) := by
            obtain ⟨m, hm⟩ : ∃ m, p.length = m + 1 := ⟨p.length - 1, by omega⟩
            have e1 : IntKind.i64.wrap (0 * x) = 0 := by rw [Int.zero_mul, wrap_i64 (by omega)]
            rw [hm, hoF, e1, Nat.add_sub_cancel]
            rw [hm, Nat.add_sub_cancel] at hat hat2
            rw [Int.zero_add, wrap_i64 (by omega), hat2]
          rw [hv, ← hv2]
          have i2 : inR (-2) 2 x = true := by
            cases q : inR (-2) 2 x
            · exact absurd ⟨q1, q⟩ h1
            · rfl
          by_cases q30 : 30 < p.length
          · have i1 : inR (-1) 1 x = true := by
              cases q : inR (-1) 1 x
              · exact absurd ⟨q30, q⟩ h30
              · rfl
            simp (disch := first | omega | (simp only [vl]; omega)) only [vcd, i2]
            repeat (first | (refine call_by (l1In_ok (K := K)) rfl ?_; try simp (disch := first | omega | (simp only [vl]; omega)) only [vcd, i1]))
            refine loop_wh (fun (y : Nat × Int) => y.1 ≤ p.length ∧ hoF p x y.1 y.2 = hoF p x p.length 0) (fun y => [LI p, .n x, .u, .u, .n y.2, .n ((y.1 : Int) - 1), .u, .u, .u]) (fun y => y.1) (p.length, 0) ⟨Nat.le_refl _, rfl⟩ rfl ?_
            rintro ⟨i, v⟩ ⟨g1, g2⟩
            simp only at g1 g2 ⊢
            cases i with
            | zero =>
              simp (disch := first | omega | (simp only [vl]; omega)) only [vcd]
              rw [← g2]; rfl
            | succ i =>
              have ei : ((i + 1 : Nat) : Int) - 1 = i := by omega
              rw [ei]
              simp (disch := first | omega | (simp only [vl]; omega)) only [vcd]
              exact ⟨(i, IntKind.i64.wrap (IntKind.i64.wrap (v * x) + atI p i)), by omega, ⟨by omega, by rw [← g2]; rfl⟩, by simp⟩
          · simp (disch := first | omega | (simp only [vl]; omega)) only [vcd, i2]
            refine loop_wh (fun (y : Nat × Int) => y.1 ≤ p.length ∧ hoF p x y.1 y.2 = hoF p x p.length 0) (fun y => [LI p, .n x, .u, .u, .n y.2, .n ((y.1 : Int) - 1), .u, .u, .u]) (fun y => y.1) (p.length, 0) ⟨Nat.le_refl _, rfl⟩ rfl ?_
            rintro ⟨i, v⟩ ⟨g1, g2⟩
            simp only at g1 g2 ⊢
            cases i with
            | zero =>
              simp (disch := first | omega | (simp only [vl]; omega)) only [vcd]
              rw [← g2]; rfl
            | succ i =>
              have ei : ((i + 1 : Nat) : Int) - 1 = i := by omega
              rw [ei]
              simp (disch := first | omega | (simp only [vl]; omega)) only [vcd]
              exact ⟨(i, IntKind.i64.wrap (IntKind.i64.wrap (v * x) + atI p i)), by omega, ⟨by omega, by rw [← g2]; rfl⟩, by simp⟩
        · by_cases h0 : p.length = 0
          · have hv : vaR p x = 0 := by simp [vaR, e, h0]
            rw [hv]
            cases q2 : inR (-2) 2 x
            all_goals
              simp (disch := first | omega | (simp only [vl]; omega)) only [vcd, h0, q2]
              refine loop_wh (fun (_ : Unit) => True) (fun _ => [LI p, .n x, .u, .u, .n 0, .n (-1), .u, .u, .u]) (fun _ => 0) () trivial (by simp) (fun _ _ => ?_)
              simp (disch := first | omega | (simp only [vl]; omega)) only [vcd]
          · have h1 : p.length = 1 := by omega
            have hv : vaR p x = atI p 0 := by simp [vaR, e, h1, hoF]
            rw [hv]
            cases q2 : inR (-2) 2 x
            all_goals
              simp (disch := first | omega | (simp only [vl]; omega)) only [vcd, h1, q2]
              refine loop_wh (fun (_ : Unit) => True) (fun _ => [LI p, .n x, .u, .u, .n 0, .n 0, .u, .u, .u]) (fun _ => 0) () trivial (by simp) (fun _ _ => ?_)
              simp (disch := first | omega | (simp only [vl]; omega)) only [vcd, h1]

/-! ### Ones -/
theorem npo_s [Has K 470 ir_spec_l14Number] {n : Nat} (h : n ≤ 1000) : K 470 [.n n] [LI (rep (n : Nat) 1)] := by
  refine body_by (f := ir_spec_l14Number) rfl ?_; simp only [ir_spec_l14Number]
  simp (disch := first | omega | (simp only [vl]; omega)) only [vcd, LI_nil]
  refine loop_ix (fun _ => True) (fun i => [.n n, .u, LI (rep (i : Nat) 1), .n i, .u]) n trivial (by simp [rep]) (fun i hi _ => ?_) (fun _ => ?_)
  · have e : rep ((i : Int) + 1) (1 : Int) = rep (i : Nat) 1 ++ [1] := by rw [show (i : Int) + 1 = ((i + 1 : Nat) : Int) by omega]; simp only [rep_n]; rw [List.replicate_succ']
    simp (disch := first | omega | (simp only [vl]; omega)) only [vcd]
    rw [e]
  · simp (disch := first | omega | (simp only [vl]; omega)) only [vcd]
def npO (n : Int) : Bool := inR 0 20 n
def npR (n : Int) : List Int := if npO n = true then rep n 1 else []
theorem np_s [Has K 22 ir_spec_l1In] [Has K 423 ir_spec_NumberPolynomial] [Has K 470 ir_spec_l14Number] {n : Int} : K 423 [.n n] [LI (npR n), .b (npO n)] := by
  refine body_by (f := ir_spec_NumberPolynomial) rfl ?_; simp only [ir_spec_NumberPolynomial]
  simp (disch := first | omega | (simp only [vl]; omega)) only [vcd]
  refine call_by (l1In_ok (K := K)) rfl ?_
  cases h : inR 0 20 n
  · simp (disch := first | omega | (simp only [vl]; omega)) only [vcd, LI_nil]
    simp [npR, npO, h]
  · have hb := inR_iff.1 h
    obtain ⟨m, rfl⟩ := Int.eq_ofNat_of_zero_le hb.1
    simp (disch := first | omega | (simp only [vl]; omega)) only [vcd]
    refine call_by (npo_s (K := K) (n := m) (by omega)) rfl ?_
    simp (disch := first | omega | (simp only [vl]; omega)) only [vcd]
    simp [npR, npO, h]
theorem np_i [Has K 23 ir_impl_within] [Has K 422 ir_impl_NumberPolynomial] {n : Int} : K 422 [.n n] [LI (npR n), .b (npO n)] := by
  refine body_by (f := ir_impl_NumberPolynomial) rfl ?_; simp only [ir_impl_NumberPolynomial]
  simp (disch := first | omega | (simp only [vl]; omega)) only [vcd]
  refine call_by (within_ok (K := K)) rfl ?_
  cases h : inR 0 20 n
  · simp (disch := first | omega | (simp only [vl]; omega)) only [vcd, LI_nil]
    simp [npR, npO, h]
  · have hb := inR_iff.1 h
    obtain ⟨m, rfl⟩ := Int.eq_ofNat_of_zero_le hb.1
    simp (disch := first | omega | (simp only [vl]; omega)) only [vcd, LI_nil]
    refine loop_ix (fun _ => True) (fun i => [.u, .u, .u, LI (rep (i : Nat) 1), .u, .n m, .n i, .u]) m trivial (by simp [rep]) (fun i hi _ => ?_) (fun _ => ?_)
    · have e : rep ((i : Int) + 1) (1 : Int) = rep (i : Nat) 1 ++ [1] := by rw [show (i : Int) + 1 = ((i + 1 : Nat) : Int) by omega]; simp only [rep_n]; rw [List.replicate_succ']
      simp (disch := first | omega | (simp only [vl]; omega)) only [vcd]
      rw [e]
    · simp (disch := first | omega | (simp only [vl]; omega)) only [vcd]
      simp [npR, npO, h]

/-! ### Texts -/
def fpW (p : List Int) : List (List Nat) := p.map fmtI
def fpF (p : List Int) : List Nat := if p.length = 0 ∨ polF p = false then [48] else glue [44] (fpW p)
theorem fpW_b {p : List Int} (h : polF p = true) : ∀ x ∈ fpW p, x.length ≤ 20 := by
  intro x hx
  obtain ⟨y, hy, rfl⟩ := List.mem_map.1 hx
  obtain ⟨j, hj, rfl⟩ := List.mem_iff_getElem.1 hy
  have := polF_at h hj
  refine fmt_len ?_
  simp only [atI, Int.toNat_natCast, List.getD_eq_getElem?_getD, List.getElem?_eq_getElem hj, Option.getD_some] at this
  omega
theorem fpW_at {p : List Int} {i : Nat} (h : i < p.length) : atS (fpW p) i = fmtI (atI p i) := by simp [atS, fpW, atI, h]
theorem fpW_take {p : List Int} {i : Nat} (h : i < p.length) : (fpW p).take (i + 1) = (fpW p).take i ++ [fmtI (atI p i)] := by
  rw [List.take_succ_eq_append_getElem (by simpa [fpW] using h)]; simp [fpW, atI, h]
theorem fpW_len {p : List Int} : (fpW p).length = p.length := by simp [fpW]
theorem fpol_i [Has K 23 ir_impl_within] [Has K 143 ir_impl_FormatInt] [Has K 184 ir_impl_glued] [Has K 428 ir_impl_IsPolynomial] [Has K 430 ir_impl_FormatPolynomial] {p : List Int} (h : p.length ≤ 1048576) : K 430 [LI p] [.s (fpF p)] := by
  refine body_by (f := ir_impl_FormatPolynomial) rfl ?_; simp only [ir_impl_FormatPolynomial]
  by_cases h0 : p.length = 0
  · simp (disch := first | omega | (simp only [vl]; omega)) only [vcd, h0]
    simp [fpF, h0]
  · simp (disch := first | omega | (simp only [vl]; omega)) only [vcd]
    cases hp : polF p
    · repeat (first | (refine call_by (poly_i (K := K) (p := p) (by omega)) rfl ?_; try simp (disch := first | omega | (simp only [vl]; omega)) only [vcd, hp]))
      simp [fpF, hp]
    · have hl := polF_len hp
      have hw := fpW_len (p := p)
      repeat (first | (refine call_by (poly_i (K := K) (p := p) (by omega)) rfl ?_; try simp (disch := first | omega | (simp only [vl]; omega)) only [vcd, hp]))
      rw [LS_nilT]
      refine loop_ix (fun _ => True) (fun i => [.u, .u, LS ((fpW p).take i), .u, .u, LI p, .n p.length, .n i, .u]) p.length trivial (by simp) (fun i hi _ => ?_) (fun _ => ?_)
      · have ht : ((fpW p).take i).length = i := by simp; omega
        have hb := polF_at hp hi
        rw [fpW_take hi]
        simp (disch := first | omega | (simp only [vl]; omega)) only [vcd]
        refine call_by (fmt_i (K := K) (n := atI p i) (by omega)) rfl ?_
        simp (disch := first | omega | (simp only [vl]; omega)) only [vcd]
      · rw [List.take_of_length_le (by omega)]
        simp (disch := first | omega | (simp only [vl]; omega)) only [vcd]
        have kg := glued_ok (K := K) (ws := fpW p) (sep := [44]) (by omega) (fun x hx => by have := fpW_b hp x hx; omega) (by simp)
        refine call_by (kg) rfl ?_
        simp (disch := first | omega | (simp only [vl]; omega)) only [vcd]
        simp [fpF, h0, hp]
theorem fmtI_ne {n : Int} : fmtI n ≠ [] := by
  unfold fmtI
  split
  · simp
  · split
    · simp
    · rename_i h0 _
      rw [digs_s (by omega)]; simp
theorem fpol_s [Has K 22 ir_spec_l1In] [Has K 138 ir_spec_FormatInt] [Has K 429 ir_spec_IsPolynomial] [Has K 431 ir_spec_FormatPolynomial] {p : List Int} (h : p.length ≤ 1048576) : K 431 [LI p] [.s (fpF p)] := by
  refine body_by (f := ir_spec_FormatPolynomial) rfl ?_; simp only [ir_spec_FormatPolynomial]
  simp (disch := first | omega | (simp only [vl]; omega)) only [vcd]
  cases hp : polF p
  · by_cases h0 : p.length = 0
    · refine loop_wh (fun (_ : Unit) => True) (fun _ => [LI p, .u, .s [], .n 0, .u, .u, .u]) (fun _ => 0) () trivial rfl (fun _ _ => ?_)
      simp (disch := first | omega | (simp only [vl]; omega)) only [vcd, h0]
      simp [fpF, h0]
    · refine loop_wh (fun (_ : Unit) => True) (fun _ => [LI p, .u, .s [], .n 0, .u, .u, .u]) (fun _ => 0) () trivial rfl (fun _ _ => ?_)
      simp (disch := first | omega | (simp only [vl]; omega)) only [vcd]
      repeat (first | (refine call_by (poly_s (K := K) (p := p) (by omega)) rfl ?_; try simp (disch := first | omega | (simp only [vl]; omega)) only [vcd, hp]))
      simp [fpF, hp]
  · have hl := polF_len hp
    have hw := fpW_len (p := p)
    refine loop_ix (fun _ => True) (fun i => [LI p, .u, .s (glT [44] (fpW p) i), .n i, .u, .u, .u]) p.length trivial rfl (fun i hi _ => ?_) (fun _ => ?_)
    · have hb := polF_at hp hi
      have b1 := glT_len (sep := [44]) (fpW_b hp) i
      have b2 := fmt_len (n := atI p i) (by omega)
      have b3 : i * (20 + [44].length) ≤ 61 * 21 := Nat.mul_le_mul (by omega) (by simp)
      have e := fpW_at hi
      simp (disch := first | omega | (simp only [vl]; omega)) only [vcd]
      refine call_by (poly_s (K := K) (p := p) (by omega)) rfl ?_
      by_cases q : 0 < i
      · simp (disch := first | omega | (simp only [vl]; omega)) only [vcd, hp]
        refine call_by (fmt_s (K := K) (n := atI p i) (by omega)) rfl ?_
        simp (disch := first | omega | (simp only [vl]; omega)) only [vcd]
        simp only [glT, if_pos q, e]
      · simp (disch := first | omega | (simp only [vl]; omega)) only [vcd, hp]
        refine call_by (fmt_s (K := K) (n := atI p i) (by omega)) rfl ?_
        simp (disch := first | omega | (simp only [vl]; omega)) only [vcd]
        simp only [glT, if_neg q, e, List.append_nil]
    · by_cases h0 : p.length = 0
      · have e : glT [44] (fpW p) p.length = [] := by rw [h0]; rfl
        rw [e]
        simp (disch := first | omega | (simp only [vl]; omega)) only [vcd, h0]
        simp [fpF, h0]
      · have e : (glT [44] (fpW p) p.length == []) = false := by
          refine beq_eq_false_iff_ne.2 ?_
          obtain ⟨m, hm⟩ : ∃ m, p.length = m + 1 := ⟨p.length - 1, by omega⟩
          rw [hm, glT, fpW_at (by omega)]
          intro q
          have := congrArg List.length q
          simp only [List.length_append, List.length_nil] at this
          have h2 := fmtI_ne (n := atI p m)
          have h3 : (fmtI (atI p m)).length ≠ 0 := fun q => h2 (List.eq_nil_of_length_eq_zero q)
          omega
        simp (disch := first | omega | (simp only [vl]; omega)) only [vcd, e]
        have hg : glue [44] (fpW p) = glT [44] (fpW p) p.length := by rw [glue, hw]
        simp [fpF, h0, hp, hg]
end Go.Cat

