/-
  The path of a permutation, inversions, drawn permutations: the walks.
-/
import Derived.Test.YthbpihoafdpicaaPfM231
import Derived.Test.YthbpihoafdpicaaPfOut
import Derived.Test.YthbpihoafdpicaaPfDrawP
namespace Go.Cat
variable {K : Nat → List D → List D → Prop}
set_option maxRecDepth 100000

/-- What comes off the stack (its top first) while the next one is there. -/
def popN : List Int → Int → List Nat × List Int × Int
  | [], n => ([], [], n)
  | y :: st, n => if y = n then (100 :: (popN st (n + 1)).1, (popN st (n + 1)).2) else ([], y :: st, n)
def pathT : List Int → List Int → Int → List Nat
  | [], _, _ => []
  | x :: p, st, n => 117 :: ((popN (x :: st) n).1 ++ pathT p (popN (x :: st) n).2.1 (popN (x :: st) n).2.2)
def pathO (p : List Int) : Bool := permF p && !(c231 p)
def pathRR (p : List Int) : List Nat := if pathO p = true then pathT p [] 0 else []

theorem LI_nilM : D.l [] = LI [] := rfl

theorem path_s [Has K 22 ir_spec_l1In] [Has K 73 ir_spec_IsPermutation] [Has K 156 ir_spec_PathOfPermutation] [Has K 186 ir_spec_Contains231] {p : List Int} (h : p.length ≤ 1000) : K 156 [LI p] [.s (pathRR p), .b (pathO p)] := by
  refine body_by (f := ir_spec_PathOfPermutation) rfl ?_; simp only [ir_spec_PathOfPermutation]
  simp (disch := first | omega | (simp only [vl]; omega)) only [vcd]
  refine call_by (perm_s (K := K) (p := p) (by omega)) rfl ?_
  cases hp : permF p
  · have e : pathO p = false := by simp [pathO, hp]
    simp only [pathRR, e]
    simp (disch := first | omega | (simp only [vl]; omega)) only [vcd]
    rfl
  · simp (disch := first | omega | (simp only [vl]; omega)) only [vcd]
    refine call_by (con231_s (K := K) (p := p) (by omega)) rfl ?_
    have e0 : c231P p = c231 p := by simp [c231P, hp]
    rw [e0]
    cases hc : c231 p
    · have e : pathO p = true := by simp [pathO, hp, hc]
      simp only [pathRR, e, if_true]
      simp (disch := first | omega | (simp only [vl]; omega)) only [vcd, LI_nilM]
      refine loop_up (fun i (x : List Nat × List Int × Int) => x.1 ++ pathT (p.drop i) x.2.1 x.2.2 = pathT p [] 0 ∧ x.1.length + x.2.1.length = 2 * i ∧ x.2.2 + x.2.1.length = i) (fun i x => [LI p, .u, .u, .s x.1, LI x.2.1.reverse, .n x.2.2, .n i, .u, .u, .u]) p.length ([], [], 0) ⟨by simp, by simp, by simp⟩ rfl (fun i x hi hP => ?_) (fun x hP => ?_)
      · obtain ⟨w, st, n⟩ := x
        obtain ⟨g1, g2, g3⟩ := hP
        simp only at g1 g2 g3
        rw [dropI hi] at g1
        simp only [pathT] at g1
        obtain ⟨R, hR⟩ : ∃ R, R = popN (atI p i :: st) n := ⟨_, rfl⟩
        rw [← hR] at g1
        simp (disch := first | omega | (simp only [vl]; omega)) only [vcd]
        refine loop_wh (fun (x : List Nat × List Int × Int) => x.1 ++ (popN x.2.1 x.2.2).1 = w ++ [117] ++ R.1 ∧ (popN x.2.1 x.2.2).2 = R.2 ∧ x.1.length + x.2.1.length = 2 * i + 2 ∧ x.2.2 + x.2.1.length = i + 1) (fun x => [LI p, .u, .u, .s x.1, LI x.2.1.reverse, .n x.2.2, .n i, .u, .u, .u]) (fun x => x.2.1.length) (w ++ [117], atI p i :: st, n) ⟨by rw [hR], by rw [hR], by simp; omega, by simp; omega⟩ (by simp) ?_
        rintro ⟨w1, s1, n1⟩ ⟨q1, q2, q3, q4⟩
        simp only at q1 q2 q3 q4 ⊢
        cases s1 with
        | nil =>
          simp only [popN, List.append_nil] at q1 q2
          simp only [List.reverse_nil]
          simp only [List.length_nil] at q3 q4
          simp (disch := first | omega | (simp only [vl]; omega)) only [vcd]
          refine ⟨(w1, [], n1), ⟨?_, by simp; omega, by simp; omega⟩, rfl⟩
          show w1 ++ pathT (p.drop (i + 1)) [] n1 = _
          rw [← g1, ← q2, q1]; simp
        | cons y t =>
          have hl : t.reverse.length = t.length := by simp
          have e1 : atI (t.reverse ++ [y]) t.length = y := by rw [← hl]; exact at_last
          have e2 : sub (t.reverse ++ [y]) 0 t.length = t.reverse := by rw [← hl]; exact sub_init
          have e3 : (((t.reverse ++ [y]).length : Nat) : Int) = (t.length : Int) + 1 := by simp
          simp only [List.reverse_cons]
          simp only [List.length_cons] at q3 q4
          by_cases hy : y = n1
          · subst hy
            simp only [popN, if_true] at q1 q2
            simp (disch := first | omega | (simp only [vl]; omega)) only [vcd, e3, e1, e2, Int.add_sub_cancel]
            refine ⟨(w1 ++ [100], t, y + 1), by simp, ⟨by rw [← q1]; simp, q2, by simp; omega, by simp only; omega⟩, rfl⟩
          · simp only [popN, if_neg hy, List.append_nil] at q1 q2
            simp (disch := first | omega | (simp only [vl]; omega)) only [vcd, e3, e1, e2, Int.add_sub_cancel]
            refine ⟨(w1, y :: t, n1), ⟨?_, by simp; omega, by simp; omega⟩, by simp⟩
            show w1 ++ pathT (p.drop (i + 1)) (y :: t) n1 = _
            rw [← g1, ← q2, q1]; simp
      · obtain ⟨w, st, n⟩ := x
        obtain ⟨g1, g2, g3⟩ := hP
        rw [List.drop_length] at g1
        simp only [pathT, List.append_nil] at g1
        simp (disch := first | omega | (simp only [vl]; omega)) only [vcd, g1]
    · have e : pathO p = false := by simp [pathO, hp, hc]
      simp only [pathRR, e]
      simp (disch := first | omega | (simp only [vl]; omega)) only [vcd]
      rfl

/-- Inversions. -/
def invF : List Int → Nat
  | [] => 0
  | x :: l => l.countP (fun b => decide (b < x)) + invF l
theorem invF_le : ∀ (l : List Int), invF l ≤ l.length * l.length
  | [] => by simp [invF]
  | x :: l => by
    have h1 := invF_le l
    have h2 : l.countP (fun b => decide (b < x)) ≤ l.length := List.countP_le_length
    simp only [invF, List.length_cons]
    have : (l.length + 1) * (l.length + 1) = l.length * l.length + l.length + l.length + 1 := by
      rw [Nat.add_mul, Nat.mul_add]; omega
    omega
theorem invn_i [Has K 23 ir_impl_within] [Has K 74 ir_impl_IsPermutation] [Has K 243 ir_impl_InversionsOf] {p : List Int} (h : p.length ≤ 1000) (hp : permF p = true) : K 243 [LI p] [.n (invF p)] := by
  refine body_by (f := ir_impl_InversionsOf) rfl ?_; simp only [ir_impl_InversionsOf]
  have h8 := (permF_t hp).1
  have hle := invF_le p
  have h64 : p.length * p.length ≤ 8 * 8 := Nat.mul_le_mul h8 h8
  simp (disch := first | omega | (simp only [vl]; omega)) only [vcd]
  refine call_by (perm_i (K := K) (p := p) (by omega)) rfl ?_
  simp (disch := first | omega | (simp only [vl]; omega)) only [vcd, hp]
  refine loop_up (fun i (n : Nat) => n + invF (p.drop i) = invF p) (fun i n => [LI p, .u, .n n, .u, .u, .u, .u, LI p, .n p.length, .n i, .u, .u, .u, .u, .u, .u]) p.length 0 (by simp) rfl (fun i n hi hP => ?_) (fun n hP => ?_)
  · rw [dropI hi] at hP
    simp only [invF] at hP
    obtain ⟨q, hq⟩ : ∃ q, q = p.drop (i + 1) := ⟨_, rfl⟩
    have hsub : sub p ((i : Int) + 1) p.length = q := by
      rw [hq]
      simp only [sub, Int.toNat_natCast, List.take_length]
      congr 1
    rw [← hq] at hP
    have hql : q.length ≤ 8 := by rw [hq]; simp; omega
    simp (disch := first | omega | (simp only [vl]; omega)) only [vcd, hsub]
    refine loop_up (fun k (m : Nat) => m + (q.drop k).countP (fun b => decide (b < atI p i)) + invF q = invF p) (fun k m => [LI p, .u, .n m, .u, .n (atI p i), .u, .u, LI p, .n p.length, .n i, .u, LI q, .n q.length, .n k, .u, .u]) q.length n (by simp; omega) rfl (fun k m hk hQ => ?_) (fun m hQ => ?_)
    · rw [dropI hk, List.countP_cons] at hQ
      by_cases hc : atI q k < atI p i
      · rw [if_pos (decide_eq_true hc)] at hQ
        simp (disch := first | omega | (simp only [vl]; omega)) only [vcd]
        exact ⟨m + 1, by omega, by simp⟩
      · rw [if_neg (by simp [hc])] at hQ
        simp (disch := first | omega | (simp only [vl]; omega)) only [vcd]
        exact ⟨m, by omega, by simp⟩
    · rw [List.drop_length] at hQ
      simp only [List.countP_nil] at hQ
      simp (disch := first | omega | (simp only [vl]; omega)) only [vcd]
      exact ⟨m, by rw [← hq]; omega, by simp⟩
  · rw [List.drop_length] at hP
    simp only [invF] at hP
    simp (disch := first | omega | (simp only [vl]; omega)) only [vcd]
    exact Dn (by omega)
end Go.Cat

