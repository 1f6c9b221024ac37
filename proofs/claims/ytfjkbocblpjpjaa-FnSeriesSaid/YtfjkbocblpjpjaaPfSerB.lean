/-
  Series: binomials and Catalan numbers by running; sums.
-/
import Derived.Test.YtfjkbocblpjpjaaPfSerA
import Derived.Test.YtfjkbocblpjpjaaPfNum
import Derived.Test.YtfjkbocblpjpjaaPfCat
import Derived.Test.YtfjkbocblpjpjaaIrAllA
import Derived.Test.YtfjkbocblpjpjaaPfH
namespace Go.Cat
variable {K : Nat → List D → List D → Prop}
theorem equalInts_ok [Has K 72 ir_impl_equalInts] {a b : List Int} (h : a.length ≤ 1099511627776) : K 72 [LI a, LI b] [.b (decide (a = b))] := by
  refine body_by (f := ir_impl_equalInts) rfl ?_; simp only [ir_impl_equalInts]
  simp (disch := first | omega | (simp only [vl]; omega)) only [vcd]
  by_cases hl : a.length = b.length
  · simp (disch := first | omega | (simp only [vl]; omega)) only [vcd]
    refine loop_ix (fun i => ∀ j : Nat, j < i → atI a j = atI b j) (fun i => [LI a, LI b, .u, .u, .u, .n a.length, .n i, .u, .u]) a.length (by simp) rfl (fun i hi hP => ?_) (fun hP => ?_)
    · by_cases he : atI a i = atI b i
      · simp (disch := first | omega | (simp only [vl]; omega)) only [vcd]
        exact all_s hP he
      · simp (disch := first | omega | (simp only [vl]; omega)) only [vcd]
        have : a ≠ b := by rintro rfl; exact he rfl
        simp [this]
    · simp (disch := first | omega | (simp only [vl]; omega)) only [vcd]
      have : a = b := extI hl hP
      simp [this]
  · have : a ≠ b := by rintro rfl; exact hl rfl
    simp (disch := first | omega | (simp only [vl]; omega)) only [vcd]
    simp [this]

def satF (a : List Int) : Bool := fineF a && decide (atI a 0 = 1) && decide (sub a 1 a.length = sub (timesF a a a.length) 0 (a.length - 1))

theorem sub_from {a : List Int} {i : Int} {n : Nat} (hn : n = a.length) : sub a i n = a.drop i.toNat := by
  simp only [sub, Int.toNat_natCast, hn, List.take_length]

theorem sat_i [Has K 23 ir_impl_within] [Has K 48 ir_impl_SatisfiesCatalan] [Has K 70 ir_impl_areTerms] [Has K 71 ir_impl_times] [Has K 72 ir_impl_equalInts] {a : List Int} (h : a.length ≤ 1048576) : K 48 [LI a] [.b (satF a)] := by
  refine body_by (f := ir_impl_SatisfiesCatalan) rfl ?_; simp only [ir_impl_SatisfiesCatalan]
  simp (disch := first | omega | (simp only [vl]; omega)) only [vcd]
  cases hf : fineF a
  · repeat (first | (refine call_by (areTerms_ok (K := K) (by omega)) rfl ?_; try simp (disch := first | omega | (simp only [vl]; omega)) only [vcd, hf]))
    simp [satF, hf]
  · have hl := fineF_len hf
    have ht := timesF_len (a := a) (b := a) (n := a.length)
    by_cases h1 : atI a 0 = 1
    · repeat (first | (refine call_by (areTerms_ok (K := K) (by omega)) rfl ?_; try simp (disch := first | omega | (simp only [vl]; omega)) only [vcd, hf]) | (refine call_by (times_ok (K := K) (by omega) (Nat.le_refl _)) rfl ?_; try simp (disch := first | omega | (simp only [vl]; omega)) only [vcd, hf]))
      have hls : (sub a 1 a.length).length ≤ 1099511627776 := by simp only [vl]; omega
      repeat (first | (refine call_by (equalInts_ok (K := K) hls) rfl ?_; try simp (disch := first | omega | (simp only [vl]; omega)) only [vcd]))
      simp [satF, hf, h1]
    · repeat (first | (refine call_by (areTerms_ok (K := K) (by omega)) rfl ?_; try simp (disch := first | omega | (simp only [vl]; omega)) only [vcd, hf]))
      simp [satF, hf, h1]

theorem sat_s [Has K 22 ir_spec_l1In] [Has K 47 ir_spec_SatisfiesCatalan] [Has K 68 ir_spec_l30Fine] [Has K 69 ir_spec_l30Times] {a : List Int} (h : a.length ≤ 1048576) : K 47 [LI a] [.b (satF a)] := by
  refine body_by (f := ir_spec_SatisfiesCatalan) rfl ?_; simp only [ir_spec_SatisfiesCatalan]
  simp (disch := first | omega | (simp only [vl]; omega)) only [vcd]
  cases hf : fineF a
  · repeat (first | (refine call_by (l30Fine_ok (K := K) (by omega)) rfl ?_; try simp (disch := first | omega | (simp only [vl]; omega)) only [vcd, hf]))
    simp [satF, hf]
  · have hl := fineF_len hf
    have ht := timesF_len (a := a) (b := a) (n := a.length)
    by_cases h1 : atI a 0 = 1
    · repeat (first | (refine call_by (l30Fine_ok (K := K) (by omega)) rfl ?_; try simp (disch := first | omega | (simp only [vl]; omega)) only [vcd, hf]) | (refine call_by (l30Times_ok (K := K) (by omega) (Nat.le_refl _)) rfl ?_; try simp (disch := first | omega | (simp only [vl]; omega)) only [vcd, hf]))
      have key : (sub a 1 a.length = sub (timesF a a a.length) 0 (a.length - 1)) ↔ ∀ j : Nat, j < a.length - 1 → atI a (j + 1) = atI (timesF a a a.length) j := by
        have e1 : ∀ j : Nat, j < a.length - 1 → atI (sub a 1 a.length) j = atI a (j + 1) := by
          intro j hj
          rw [sub_from rfl]
          simp [atI, List.getD_eq_getElem?_getD, Nat.add_comm]
        have e2 : ∀ j : Nat, j < a.length - 1 → atI (sub (timesF a a a.length) 0 (a.length - 1)) j = atI (timesF a a a.length) j := by
          intro j hj
          have : j < ((a.length : Int) - 1).toNat := by omega
          simp [atI, sub, List.getD_eq_getElem?_getD, List.getElem?_take, this, hj]
        constructor
        · intro he j hj
          rw [← e1 j hj, ← e2 j hj, he]
        · intro he
          refine extI (by simp only [vl]; omega) fun j hj => ?_
          have : j < a.length - 1 := by simp only [vl] at hj; omega
          rw [e1 j this, e2 j this, he j this]
      refine loop_ix (fun i => ∀ j : Nat, j < i → atI a (j + 1) = atI (timesF a a a.length) j) (fun i => [LI a, .u, LI (timesF a a a.length), .n ((i : Int) + 1), .u, .u, .u]) (a.length - 1) (by simp) rfl (fun i hi hP => ?_) (fun hP => ?_)
      · by_cases he : atI a (i + 1) = atI (timesF a a a.length) i
        · simp (disch := first | omega | (simp only [vl]; omega)) only [vcd, Int.add_sub_cancel]
          exact all_s hP he
        · simp (disch := first | omega | (simp only [vl]; omega)) only [vcd, Int.add_sub_cancel]
          have : ¬ (sub a 1 a.length = sub (timesF a a a.length) 0 (a.length - 1)) := fun q => he (key.1 q i hi)
          simp [satF, this]
      · simp (disch := first | omega | (simp only [vl]; omega)) only [vcd]
        have := key.2 hP
        simp [satF, hf, h1, this]
    · repeat (first | (refine call_by (l30Fine_ok (K := K) (by omega)) rfl ?_; try simp (disch := first | omega | (simp only [vl]; omega)) only [vcd, hf]))
      simp [satF, hf, h1]

theorem sat_law [Has K 22 ir_spec_l1In] [Has K 23 ir_impl_within] [Has K 31 ir_laws_FnExactSatisfiesCatalan] [Has K 42 ir_laws_toIntS] [Has K 44 ir_laws_eqIntS] [Has K 47 ir_spec_SatisfiesCatalan] [Has K 48 ir_impl_SatisfiesCatalan] [Has K 68 ir_spec_l30Fine] [Has K 69 ir_spec_l30Times] [Has K 70 ir_impl_areTerms] [Has K 71 ir_impl_times] [Has K 72 ir_impl_equalInts] (a : List Int) : K 31 [LI a] [.b true] := by
  refine body_by (f := ir_laws_FnExactSatisfiesCatalan) rfl ?_; simp only [ir_laws_FnExactSatisfiesCatalan]
  by_cases h : a.length ≤ 1048576 <;> simp (disch := first | omega | (simp only [vl]; omega)) only [vcd]
  repeat (first | (refine call_by (toIntS_ok (K := K) (by omega)) rfl ?_; try simp (disch := first | omega | (simp only [vl]; omega)) only [vcd]) | (refine call_by (sat_s (K := K) h) rfl ?_; try simp (disch := first | omega | (simp only [vl]; omega)) only [vcd]) | (refine call_by (sat_i (K := K) h) rfl ?_; try simp (disch := first | omega | (simp only [vl]; omega)) only [vcd]) | (refine call_by (eqIntS_t (K := K) (by omega)) rfl ?_; try simp (disch := first | omega | (simp only [vl]; omega)) only [vcd]))
end Go.Cat

