/-
  Ballot numbers: by running, the program's.
-/
import Derived.Test.YtdifmcppfcbgdaaPfNum
import Derived.Test.YtdifmcppfcbgdaaIrAllA
namespace Go.Cat
variable {K : Nat → List D → List D → Prop}
set_option maxRecDepth 100000

def wrow (f : Nat → Nat) (u : Nat) : Nat → Nat
  | 0 => 0
  | d + 1 => if d < u then 0 else f (d + 1) + wrow f u d
/-- Words of u letters u and d letters d that begin at height d - u and never go below 0. -/
def bw : Nat → Nat → Nat
  | 0 => fun _ => 1
  | u + 1 => wrow (bw u) u

abbrev tbln : List (Nat × IF) := [(27, ir_impl_BallotNumber), (23, ir_impl_within)]
noncomputable def blT (u d : Nat) : Bool := isN (evF (tableOf tbln) 60 8 27 [.n u, .n d]) (bw u d)
theorem bl8 : allB 9 (fun d => allB (d + 1) fun u => blT u d) = true := by kernel_rfl
theorem bl_i [Has K 23 ir_impl_within] [Has K 27 ir_impl_BallotNumber] {u d : Nat} (h : u ≤ d) (hd : d < 9) : K 27 [.n u, .n d] [.n (bw u d)] :=
  run tbln 60 8 27 (isN_spec (allB_spec (allB_spec bl8 d hd) u (by omega)))
end Go.Cat

