/-
  All words of Motzkin of a length, by a closure that calls itself: by running. Their number, as a sum.
-/
import Derived.Test.YtfjkbocblpjpjaaPfMotzP
import Derived.Test.YtfjkbocblpjpjaaPfMotzD
import Derived.Test.YtfjkbocblpjpjaaPfMotzB
import Derived.Test.YtfjkbocblpjpjaaPfCount
namespace Go.Cat
variable {K : Nat → List D → List D → Prop}
set_option maxRecDepth 100000

theorem up_nl {is : List Nat} {d : D} {u : List D} : upD (some is) d (.l u) = setP is d (.l u) := rfl
abbrev tmpi : List (Nat × IF) := [(253, ir_impl_MotzkinPaths), (309, ir_impl_MotzkinPaths_f1), (23, ir_impl_within)]
theorem mpi0 : allB 8 (fun n => isLB (evF (tableOf tmpi) 60 20 253 [.n n]) (mpL n)) = true := by kernel_rfl
theorem mp_i [Has K 23 ir_impl_within] [Has K 253 ir_impl_MotzkinPaths] [Has K 309 ir_impl_MotzkinPaths_f1] {n : Nat} (h : n < 8) : K 253 [.n n] [LS (mpL n), .b true] := run tmpi 60 20 253 (isLB_spec (allB_spec mpi0 n h))
theorem mp_out_i [Has K 23 ir_impl_within] [Has K 253 ir_impl_MotzkinPaths] {a : Int} (h : ¬ (0 ≤ a ∧ a ≤ 7)) : K 253 [.n a] [LS [], .b false] := by
  refine body_by (f := ir_impl_MotzkinPaths) rfl ?_; simp only [ir_impl_MotzkinPaths]
  have e : inR 0 7 a = false := inR_f.2 h
  simp (disch := first | omega | (simp only [vl]; omega)) only [vcd, up_nl]
  repeat (first | (refine call_by (within_ok (K := K)) rfl ?_; try simp (disch := first | omega | (simp only [vl]; omega)) only [vcd, e]))
  rfl

theorem mnl0 : allB 8 (fun n => isN (evF (tableOf tmi) 60 8 256 [.n n]) (mpL n).length) = true := by kernel_rfl
theorem mnl [Has K 23 ir_impl_within] [Has K 256 ir_impl_MotzkinNumber] {n : Nat} (h : n < 8) : K 256 [.n n] [.n (mpL n).length] := run tmi 60 8 256 (isN_spec (allB_spec mnl0 n h))

def cwT : List (List Int) := [[1], [1], [1, 1], [1, 3], [1, 6, 1], [1, 10, 5], [1, 15, 15, 1], [1, 21, 35, 7]]
def cwm (n k : Nat) : Int := (cwT.getD n []).getD k 0
def smM (n : Nat) : Nat → Int
  | 0 => 0
  | k + 1 => smM n k + cwm n k * catL.getD k 0
theorem cwm0 : allB 8 (fun n => allB (n / 2 + 1) fun k => isN (evF (tableOf tcwi) 60 8 10 [.n ((2 * k : Nat) : Int), .n ((n - 2 * k : Nat) : Int)]) (cwm n k)) = true := by kernel_rfl
theorem cwm_i [Has K 10 ir_impl_CountWords] [Has K 23 ir_impl_within] [Has K 25 ir_impl_choose] {n k : Nat} (h : n < 8) (hk : 2 * k ≤ n) : K 10 [.n (2 * (k : Int)), .n ((n : Int) - 2 * (k : Int))] [.n (cwm n k)] := by
  have := run (K := K) tcwi 60 8 10 (isN_spec (allB_spec (allB_spec cwm0 n h) k (by omega)))
  rw [show ((n - 2 * k : Nat) : Int) = (n : Int) - 2 * (k : Int) by omega, show ((2 * k : Nat) : Int) = 2 * (k : Int) by omega] at this
  exact this
theorem smB : allB 8 (fun n => allB 5 fun k => decide (0 ≤ smM n k ∧ smM n k ≤ 1000 ∧ 0 ≤ cwm n k ∧ cwm n k ≤ 1000 ∧ 0 ≤ cwm n k * catL.getD k 0 ∧ cwm n k * catL.getD k 0 ≤ 1000)) = true := by kernel_rfl
theorem smE : allB 8 (fun n => decide (smM n (n / 2 + 1) = ((mpL n).length : Int)) && decide ((mpL n).length ≤ 1000)) = true := by kernel_rfl
theorem mp_good {n i : Nat} (h : n < 8) {w : List Nat} (hi : (mpL n)[i]? = some w) : motz w = true ∧ w.length = n := by
  have := List.all_eq_true.1 (allB_spec mp_good0 n h) w (List.mem_of_getElem? hi)
  simpa using this
end Go.Cat

