/-
  Binomials and Catalan numbers by running.
-/
import Derived.Test.YtfjkbocblpjpjaaPfIn
import Derived.Test.YtfjkbocblpjpjaaIrAllA
namespace Go.Cat
variable {K : Nat → List D → List D → Prop}
set_option maxRecDepth 100000

/-- One number, this one. -/
def isN (o : Option (List D)) (v : Int) : Bool := match o with
  | some [.i .i64 n] => decide (n = v)
  | _ => false
theorem isN_spec {o : Option (List D)} {v : Int} (h : isN o v = true) : o = some [.n v] := by
  unfold isN at h
  split at h
  · simp at h; rw [h]
  · cases h

/-- Binomials. -/
def bin : Nat → Nat → Nat
  | _, 0 => 1
  | 0, _ + 1 => 0
  | n + 1, k + 1 => bin n k + bin n (k + 1)
abbrev tbs : List (Nat × IF) := [(24, ir_spec_l3Binomial)]
abbrev tbi : List (Nat × IF) := [(25, ir_impl_choose)]

theorem bin_s0 : allB 12 (fun n => allB (n + 1) fun k => isN (evF (tableOf tbs) 60 8 24 [.n n, .n k]) (bin n k)) = true := by kernel_rfl
theorem bin_i0 : allB 12 (fun n => allB (n + 1) fun k => isN (evF (tableOf tbi) 60 8 25 [.n n, .n k]) (bin n k)) = true := by kernel_rfl
theorem bin_s [Has K 24 ir_spec_l3Binomial] {n k : Nat} (h : n < 12) (hk : k < n + 1) : K 24 [.n n, .n k] [.n (bin n k)] :=
  run tbs 60 8 24 (isN_spec (allB_spec (allB_spec bin_s0 n h) k hk))
theorem bin_i [Has K 25 ir_impl_choose] {n k : Nat} (h : n < 12) (hk : k < n + 1) : K 25 [.n n, .n k] [.n (bin n k)] :=
  run tbi 60 8 25 (isN_spec (allB_spec (allB_spec bin_i0 n h) k hk))
end Go.Cat

