/-
  Ballot numbers: by running, the reference's.
-/
import Derived.Test.YtdifmcppfcbgdaaPfRankA
import Derived.Test.YtdifmcppfcbgdaaIrAllA
namespace Go.Cat
variable {K : Nat → List D → List D → Prop}
set_option maxRecDepth 100000

abbrev tblw : List (Nat × IF) := [(84, ir_spec_l3Ways)]
noncomputable def blU (u d : Nat) : Bool := isN (evF (tableOf tblw) 60 8 84 [.n u, .n d]) (bw u d)
theorem bs8 : allB 9 (fun d => allB (d + 1) fun u => blU u d) = true := by kernel_rfl
theorem bl_w [Has K 84 ir_spec_l3Ways] {u d : Nat} (h : u ≤ d) (hd : d < 9) : K 84 [.n u, .n d] [.n (bw u d)] :=
  run tblw 60 8 84 (isN_spec (allB_spec (allB_spec bs8 d hd) u (by omega)))
end Go.Cat

