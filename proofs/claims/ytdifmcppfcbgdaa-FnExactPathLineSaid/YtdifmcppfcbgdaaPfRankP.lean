/-
  Lists of paths in order, peaks, and the numbers of Narayana.
-/
import Derived.Test.YtdifmcppfcbgdaaPfRankU
import Derived.Test.YtdifmcppfcbgdaaPfAp
import Derived.Test.YtdifmcppfcbgdaaPfDrawP
import Derived.Test.YtdifmcppfcbgdaaIrAllA
namespace Go.Cat
variable {K : Nat → List D → List D → Prop}
set_option maxRecDepth 100000

def szR (w : List Nat) : Int := if dyck w = true then (w.length : Int) / 2 else -1
theorem sz_ii [Has K 67 ir_impl_IsDyck] [Has K 82 ir_impl_heights] [Has K 132 ir_impl_SizeOf] {w : List Nat} (h : w.length ≤ 1000000000) : K 132 [.s w] [.n (szR w)] := by
  refine body_by (f := ir_impl_SizeOf) rfl ?_; simp only [ir_impl_SizeOf]
  simp (disch := first | omega | (simp only [vl]; omega)) only [vcd]
  refine call_by (dyck_i (K := K) h) rfl ?_
  cases hd : dyck w
  · simp (disch := first | omega | (simp only [vl]; omega)) only [vcd, hd]
    exact Dn (by simp [szR, hd])
  · simp (disch := first | omega | (simp only [vl]; omega)) only [vcd, hd]
    exact Dn (by simp [szR, hd])

end Go.Cat

