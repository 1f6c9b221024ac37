/-
  Series: the law.
-/
import Derived.Test.YtdifmcppfcbgdaaPfSerX
import Derived.Test.YtdifmcppfcbgdaaPfDraw
import Derived.Test.YtdifmcppfcbgdaaPfIn
import Derived.Test.YtdifmcppfcbgdaaIrAllA
namespace Go.Cat
variable {K : Nat → List D → List D → Prop}
set_option maxRecDepth 100000

/-- Two roads, one end. -/
theorem joinS {P G : Prop} (f : G → P) (g : G) : P := f g

theorem bigS_ok [Has K 220 ir_laws_big] {code : List Nat} : K 220 [LB code] [.b (decide (1048576 < (code.length : Int)))] := by
  refine body_by (f := ir_laws_big) rfl ?_; simp only [ir_laws_big]
  simp (disch := first | omega | (simp only [vl]; omega)) only [vc]

theorem sameInts_t [Has K 239 ir_laws_sameInts] {a : List Int} (h : a.length ≤ 1099511627776) : K 239 [LI a, LI a] [.b true] := by
  refine body_by (f := ir_laws_sameInts) rfl ?_; simp only [ir_laws_sameInts]
  simp (disch := first | omega | (simp only [vl]; omega)) only [vcd]
  refine loop_ix (fun i => True) (fun i => [LI a, LI a, .u, .n i, .u, .u, .u]) a.length trivial rfl (fun i hi hP => ?_) (fun hP => ?_)
  · simp (disch := first | omega | (simp only [vl]; omega)) only [vcd]
  · simp (disch := first | omega | (simp only [vl]; omega)) only [vcd]

theorem l1PickInt_ok [Has K 289 ir_spec_l1Below] [Has K 313 ir_spec_l1PickInt] [Has K 316 ir_spec_l1Byte] {d : D} (hd : Cur d) {l : List Int} (h0 : 0 < l.length) (hl : l.length ≤ 1000000) : ∃ rs, (∃ x d', rs = [.n x, d'] ∧ Cur d') ∧ K 313 [d, LI l] rs := by
  refine body_ex (f := ir_spec_l1PickInt) rfl ?_; simp only [ir_spec_l1PickInt]
  obtain ⟨_, ⟨x1, d1, rfl, hx1, hd1⟩, k1⟩ := l1Below_ok (K := K) hd (n := l.length)
  have := hx1.2 (by omega)
  simp (disch := first | omega | (simp only [vl]; omega)) only [vcd]
  refine call_by (k1) rfl ?_
  simp (disch := first | omega | (simp only [vl]; omega)) only [vcd]
  exact ⟨_, _, rfl, hd1⟩

end Go.Cat

