/-
  All words of Motzkin of a length, by running.
-/
import Derived.Test.YtfjkbocblpjpjaaPfMotz
import Derived.Test.YtfjkbocblpjpjaaPfIn
import Derived.Test.YtfjkbocblpjpjaaIrAllA
namespace Go.Cat
variable {K : Nat → List D → List D → Prop}
set_option maxRecDepth 100000

/-- Words with so many letters left, at a height: u, l, d in this order. -/
def mpA : Nat → List Nat → Nat → List (List Nat)
  | 0, w, h => if h = 0 then [w] else []
  | n + 1, w, h => if h ≤ n + 1 then mpA n (w ++ [117]) (h + 1) ++ mpA n (w ++ [108]) h ++ (if 0 < h then mpA n (w ++ [100]) (h - 1) else []) else []
def mpL (n : Nat) : List (List Nat) := mpA n [] 0

def isLB (o : Option (List D)) (l : List (List Nat)) : Bool := match o with
  | some [.l xs, .b true] => go xs l
  | _ => false
where
  go : List D → List (List Nat) → Bool
    | [], [] => true
    | .s x :: xs, y :: l => decide (x = y) && go xs l
    | _, _ => false
theorem isLB_go : ∀ {xs : List D} {l : List (List Nat)}, isLB.go xs l = true → xs = l.map D.s
  | [], [], _ => rfl
  | .s x :: xs, y :: l, h => by
    simp only [isLB.go, Bool.and_eq_true, decide_eq_true_eq] at h
    rw [isLB_go h.2, h.1]; rfl
  | [], _ :: _, h => by simp [isLB.go] at h
  | .s _ :: _, [], h => by simp [isLB.go] at h
  | .u :: _, _, h => by simp [isLB.go] at h
  | .i _ _ :: _, _, h => by simp [isLB.go] at h
  | .b _ :: _, _, h => by simp [isLB.go] at h
  | .l _ :: _, _, h => by simp [isLB.go] at h
  | .g _ :: _, _, h => by simp [isLB.go] at h
  | .z :: _, _, h => by simp [isLB.go] at h
  | .p _ :: _, _, h => by simp [isLB.go] at h
  | .f _ _ :: _, _, h => by simp [isLB.go] at h
theorem isLB_spec {o : Option (List D)} {l : List (List Nat)} (h : isLB o l = true) : o = some [LS l, .b true] := by
  unfold isLB at h
  split at h
  · rw [isLB_go h]; rfl
  · cases h

abbrev tmp : List (Nat × IF) := [(254, ir_spec_MotzkinPaths), (310, ir_spec_l25All), (22, ir_spec_l1In)]
theorem mp0 : allB 8 (fun n => isLB (evF (tableOf tmp) 60 20 254 [.n n]) (mpL n)) = true := by kernel_rfl
theorem mp_s [Has K 22 ir_spec_l1In] [Has K 254 ir_spec_MotzkinPaths] [Has K 310 ir_spec_l25All] {n : Nat} (h : n < 8) : K 254 [.n n] [LS (mpL n), .b true] := run tmp 60 20 254 (isLB_spec (allB_spec mp0 n h))
theorem mp_out [Has K 22 ir_spec_l1In] [Has K 254 ir_spec_MotzkinPaths] {a : Int} (h : ¬ (0 ≤ a ∧ a ≤ 7)) : K 254 [.n a] [LS [], .b false] := by
  refine body_by (f := ir_spec_MotzkinPaths) rfl ?_; simp only [ir_spec_MotzkinPaths]
  have e : inR 0 7 a = false := inR_f.2 h
  simp (disch := first | omega | (simp only [vl]; omega)) only [vcd]
  repeat (first | (refine call_by (l1In_ok (K := K)) rfl ?_; try simp (disch := first | omega | (simp only [vl]; omega)) only [vcd, e]))
  rfl
/-- All are words of Motzkin of the length. -/
theorem mp_good0 : allB 8 (fun n => (mpL n).all fun w => motz w && decide (w.length = n)) = true := by kernel_rfl

theorem sameWords_t [Has K 255 ir_laws_sameWords] {a : List (List Nat)} (h : a.length ≤ 1099511627776) : K 255 [LS a, LS a] [.b true] := by
  refine body_by (f := ir_laws_sameWords) rfl ?_; simp only [ir_laws_sameWords]
  simp (disch := first | omega | (simp only [vl]; omega)) only [vcd]
  refine loop_ix (fun i => True) (fun i => [LS a, LS a, .u, .n i, .u, .u, .u]) a.length trivial rfl (fun i hi hP => ?_) (fun hP => ?_) <;> simp (disch := first | omega | (simp only [vl]; omega)) only [vcd]
end Go.Cat

