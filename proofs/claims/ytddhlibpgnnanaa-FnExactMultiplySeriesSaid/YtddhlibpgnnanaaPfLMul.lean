/-
  The law of MultiplySeries.
-/
import Derived.Test.YtddhlibpgnnanaaPfH
import Derived.Test.YtddhlibpgnnanaaPfSerA
import Derived.Test.YtddhlibpgnnanaaIrLFnExactMultiplySeries
namespace Go.Cat
variable {K : Nat → List D → List D → Prop}

theorem mul_law [Has K 42 ir_laws_toIntS] [Has K 44 ir_laws_eqIntS] [Has K 45 ir_laws_markIntS] [Has K 46 ir_laws_heldIntS]
    [Has K 23 ir_impl_within] [Has K 70 ir_impl_areTerms] [Has K 71 ir_impl_times] [Has K 43 ir_impl_MultiplySeries]
    [Has K 22 ir_spec_l1In] [Has K 68 ir_spec_l30Fine] [Has K 69 ir_spec_l30Times] [Has K 41 ir_spec_MultiplySeries]
    [Has K 30 ir_laws_FnExactMultiplySeries] (a b : List Int) : K 30 [LI a, LI b] [.b true] := by
  refine body_by (f := ir_laws_FnExactMultiplySeries) rfl ?_; simp only [ir_laws_FnExactMultiplySeries]
  have hr := mulR_len (a := a) (b := b)
  by_cases h1 : a.length ≤ 1048576 <;> by_cases h2 : b.length ≤ 1048576 <;> simp (disch := first | omega | (simp only [vl]; omega)) only [vcd]
  repeat (first | (refine call_by (toIntS_ok (K := K) (by omega)) rfl ?_; try simp (disch := first | omega | (simp only [vl]; omega)) only [vcd]) | (refine call_by (mul_s (K := K) (by omega) (by omega)) rfl ?_; try simp (disch := first | omega | (simp only [vl]; omega)) only [vcd]) | (refine call_by (mul_i (K := K) (by omega) (by omega)) rfl ?_; try simp (disch := first | omega | (simp only [vl]; omega)) only [vcd]) | (refine call_by (eqIntS_t (K := K) (by omega)) rfl ?_; try simp (disch := first | omega | (simp only [vl]; omega)) only [vcd]) | (refine call_by (markIntS_ok (K := K) (by omega) (by omega)) rfl ?_; try simp (disch := first | omega | (simp only [vl]; omega)) only [vcd]) | (refine call_by (held_mark (K := K) (by omega) (by omega)) rfl ?_; try simp (disch := first | omega | (simp only [vl]; omega)) only [vcd]))
end Go.Cat
