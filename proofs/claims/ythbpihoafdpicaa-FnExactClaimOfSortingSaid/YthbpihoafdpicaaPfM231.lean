/-
  The pattern 231, there or not: both walks.
-/
import Derived.Test.YthbpihoafdpicaaPfMach
namespace Go.Cat
variable {K : Nat → List D → List D → Prop}
set_option maxRecDepth 100000

/-- x, then something greater, then something less than x. -/
def anyL (x : Int) (l : List Int) : Bool := l.any fun z => decide (z < x)
def d231 (x : Int) : List Int → Bool
  | [] => false
  | y :: l => (decide (x < y) && anyL x l) || d231 x l
def c231 : List Int → Bool
  | [] => false
  | x :: l => d231 x l || c231 l
theorem anyL_cons {x y : Int} {l : List Int} : anyL x (y :: l) = (decide (y < x) || anyL x l) := rfl
theorem d231_cons {x y : Int} {l : List Int} : d231 x (y :: l) = ((decide (x < y) && anyL x l) || d231 x l) := rfl
theorem c231_cons {x : Int} {l : List Int} : c231 (x :: l) = (d231 x l || c231 l) := rfl

theorem triple_ok [Has K 206 ir_impl_Contains231_f1] {a b c : Int} : K 206 [.n a, .n b, .n c] [.b (decide (c < a) && decide (a < b))] := by
  refine body_by (f := ir_impl_Contains231_f1) rfl ?_; simp only [ir_impl_Contains231_f1]
  by_cases h1 : c < a
  · by_cases h2 : a < b
    · have e1 : decide (c < a) = true := decide_eq_true h1
      have e2 : decide (a < b) = true := decide_eq_true h2
      rw [e1, e2]
      simp (disch := first | omega | (simp only [vl]; omega)) only [vcd]
    · have e1 : decide (c < a) = true := decide_eq_true h1
      have e2 : decide (a < b) = false := decide_eq_false h2
      rw [e1, e2]
      simp (disch := first | omega | (simp only [vl]; omega)) only [vcd]
  · have e1 : decide (c < a) = false := decide_eq_false h1
    rw [e1]
    simp (disch := first | omega | (simp only [vl]; omega)) only [vcd]

def c231P (p : List Int) : Bool := permF p && c231 p

theorem has231_i [Has K 23 ir_impl_within] [Has K 74 ir_impl_IsPermutation] [Has K 205 ir_impl_hasTriple] [Has K 206 ir_impl_Contains231_f1] {p : List Int} (h : p.length ≤ 1000000) : K 205 [LI p, .f 206 []] [.b (c231P p)] := by
  refine body_by (f := ir_impl_hasTriple) rfl ?_; simp only [ir_impl_hasTriple]
  simp (disch := first | omega | (simp only [vl]; omega)) only [vcd]
  refine call_by (perm_i (K := K) (p := p) (by omega)) rfl ?_
  cases hp : permF p
  · have e : c231P p = false := by simp [c231P, hp]
    rw [e]
    simp (disch := first | omega | (simp only [vl]; omega)) only [vcd]
  · have e : c231P p = c231 p := by simp [c231P, hp]
    rw [e]
    simp (disch := first | omega | (simp only [vl]; omega)) only [vcd]
    refine loop_ix (fun i => c231 (p.drop i) = c231 p) (fun i => [LI p, .f 206 [], .u, .u, .u, .u, .u, .n p.length, .n i, .u, .u, .u, .u]) p.length (by simp) rfl (fun i hi hP => ?_) (fun hP => ?_)
    · rw [dropI hi, c231_cons] at hP
      simp (disch := first | omega | (simp only [vl]; omega)) only [vcd]
      refine loop_up (fun j (_ : Unit) => d231 (atI p i) (p.drop (i + 1 + j)) = d231 (atI p i) (p.drop (i + 1))) (fun j _ => [LI p, .f 206 [], .u, .n i, .n ((i : Int) + 1 + j), .u, .u, .n p.length, .n i, .u, .u, .u, .u]) (p.length - (i + 1)) () (by simp) (by simp) (fun j _ hj hQ => ?_) (fun _ hQ => ?_)
      · rw [dropI (show i + 1 + j < p.length by omega), d231_cons] at hQ
        rw [show ((i + 1 + j : Nat) : Int) = (i : Int) + 1 + j by omega] at hQ
        simp (disch := first | omega | (simp only [vl]; omega)) only [vcd]
        refine loop_up (fun k (_ : Unit) => anyL (atI p i) (p.drop (i + 1 + j + 1 + k)) = anyL (atI p i) (p.drop (i + 1 + j + 1)) ∨ ¬ atI p i < atI p ((i : Int) + 1 + j)) (fun k _ => [LI p, .f 206 [], .u, .n i, .n ((i : Int) + 1 + j), .n ((i : Int) + 1 + j + 1 + k), .u, .n p.length, .n i, .u, .u, .u, .u]) (p.length - (i + 1 + j + 1)) () (.inl (by simp)) (by simp) (fun k _ hk hR => ?_) (fun _ hR => ?_)
        · rw [dropI (show i + 1 + j + 1 + k < p.length by omega), anyL_cons] at hR
          rw [show ((i + 1 + j + 1 + k : Nat) : Int) = (i : Int) + 1 + j + 1 + k by omega] at hR
          simp (disch := first | omega | (simp only [vl]; omega)) only [vcd]
          refine call_by (triple_ok (K := K)) rfl ?_
          by_cases h1 : atI p ((i : Int) + 1 + j + 1 + k) < atI p i
          · have e1 : decide (atI p ((i : Int) + 1 + j + 1 + k) < atI p i) = true := decide_eq_true h1
            by_cases h2 : atI p i < atI p ((i : Int) + 1 + j)
            · have e2 : decide (atI p i < atI p ((i : Int) + 1 + j)) = true := decide_eq_true h2
              rw [e1] at hR
              have hR := hR.resolve_right (fun q => q h2)
              rw [e2, ← hR] at hQ
              rw [← hQ] at hP
              simp only [Bool.true_or, Bool.true_and] at hP
              rw [e1, e2]
              simp (disch := first | omega | (simp only [vl]; omega)) only [vcd]
              rw [← hP]
            · have e2 : decide (atI p i < atI p ((i : Int) + 1 + j)) = false := decide_eq_false h2
              rw [e1, e2]
              simp (disch := first | omega | (simp only [vl]; omega)) only [vcd]
              exact ⟨(), .inr h2, by simp; omega⟩
          · have e1 : decide (atI p ((i : Int) + 1 + j + 1 + k) < atI p i) = false := decide_eq_false h1
            rw [e1] at hR
            rw [e1]
            simp (disch := first | omega | (simp only [vl]; omega)) only [vcd]
            refine ⟨(), ?_, by simp; omega⟩
            rcases hR with hR | hR
            · left
              rw [show i + 1 + j + 1 + (k + 1) = i + 1 + j + 1 + k + 1 by omega]
              simpa using hR
            · exact .inr hR
        · simp (disch := first | omega | (simp only [vl]; omega)) only [vcd]
          refine ⟨(), ?_, by simp; omega⟩
          have hz : p.drop (i + 1 + j + 1 + (p.length - (i + 1 + j + 1))) = [] := by simp; omega
          rw [hz] at hR
          rw [show i + 1 + (j + 1) = i + 1 + j + 1 by omega]
          rcases hR with hR | hR
          · rw [← hR] at hQ
            simpa [anyL] using hQ
          · have e2 : decide (atI p i < atI p ((i : Int) + 1 + j)) = false := decide_eq_false hR
            rw [e2] at hQ
            simpa using hQ
      · simp (disch := first | omega | (simp only [vl]; omega)) only [vcd]
        have hz : p.drop (i + 1 + (p.length - (i + 1))) = [] := by simp; omega
        rw [hz] at hQ
        rw [← hQ] at hP
        simpa [d231] using hP
    · rw [List.drop_length] at hP
      simp (disch := first | omega | (simp only [vl]; omega)) only [vcd]
      rw [← hP]; rfl
theorem con231_i [Has K 23 ir_impl_within] [Has K 74 ir_impl_IsPermutation] [Has K 187 ir_impl_Contains231] [Has K 205 ir_impl_hasTriple] [Has K 206 ir_impl_Contains231_f1] {p : List Int} (h : p.length ≤ 1000000) : K 187 [LI p] [.b (c231P p)] := by
  refine body_by (f := ir_impl_Contains231) rfl ?_; simp only [ir_impl_Contains231]
  simp (disch := first | omega | (simp only [vl]; omega)) only [vcd]
  refine call_by (has231_i (K := K) h) rfl ?_
  simp (disch := first | omega | (simp only [vl]; omega)) only [vcd]

theorem con231_s [Has K 22 ir_spec_l1In] [Has K 73 ir_spec_IsPermutation] [Has K 186 ir_spec_Contains231] {p : List Int} (h : p.length ≤ 1000000) : K 186 [LI p] [.b (c231P p)] := by
  refine body_by (f := ir_spec_Contains231) rfl ?_; simp only [ir_spec_Contains231]
  simp (disch := first | omega | (simp only [vl]; omega)) only [vcd]
  cases hp : permF p
  · have e : c231P p = false := by simp [c231P, hp]
    rw [e]
    refine loop_ix (fun i => True) (fun i => [LI p, .u, .n i, .u, .u, .u, .u, .u, .u]) 0 trivial rfl (fun i hi hP => ?_) (fun hP => ?_)
    · omega
    · by_cases h0 : 0 < p.length
      · simp (disch := first | omega | (simp only [vl]; omega)) only [vcd]
        refine call_by (perm_s (K := K) (p := p) (by omega)) rfl ?_
        simp (disch := first | omega | (simp only [vl]; omega)) only [vcd, hp]
      · simp (disch := first | omega | (simp only [vl]; omega)) only [vcd]
  · have e : c231P p = c231 p := by simp [c231P, hp]
    rw [e]
    refine loop_ix (fun i => c231 (p.drop i) = c231 p) (fun i => [LI p, .u, .n i, .u, .u, .u, .u, .u, .u]) p.length (by simp) rfl (fun i hi hP => ?_) (fun hP => ?_)
    · rw [dropI hi, c231_cons] at hP
      simp (disch := first | omega | (simp only [vl]; omega)) only [vcd]
      refine call_by (perm_s (K := K) (p := p) (by omega)) rfl ?_
      simp (disch := first | omega | (simp only [vl]; omega)) only [vcd, hp]
      refine loop_up (fun j (_ : Unit) => d231 (atI p i) (p.drop (i + 1 + j)) = d231 (atI p i) (p.drop (i + 1))) (fun j _ => [LI p, .u, .n i, .n ((i : Int) + 1 + j), .u, .u, .u, .u, .u]) (p.length - (i + 1)) () (by simp) (by simp) (fun j _ hj hQ => ?_) (fun _ hQ => ?_)
      · rw [dropI (show i + 1 + j < p.length by omega), d231_cons] at hQ
        rw [show ((i + 1 + j : Nat) : Int) = (i : Int) + 1 + j by omega] at hQ
        simp (disch := first | omega | (simp only [vl]; omega)) only [vcd]
        refine loop_up (fun k (_ : Unit) => anyL (atI p i) (p.drop (i + 1 + j + 1 + k)) = anyL (atI p i) (p.drop (i + 1 + j + 1)) ∨ ¬ atI p i < atI p ((i : Int) + 1 + j)) (fun k _ => [LI p, .u, .n i, .n ((i : Int) + 1 + j), .n ((i : Int) + 1 + j + 1 + k), .u, .u, .u, .u]) (p.length - (i + 1 + j + 1)) () (.inl (by simp)) (by simp) (fun k _ hk hR => ?_) (fun _ hR => ?_)
        · rw [dropI (show i + 1 + j + 1 + k < p.length by omega), anyL_cons] at hR
          rw [show ((i + 1 + j + 1 + k : Nat) : Int) = (i : Int) + 1 + j + 1 + k by omega] at hR
          by_cases h1 : atI p ((i : Int) + 1 + j + 1 + k) < atI p i
          · have e1 : decide (atI p ((i : Int) + 1 + j + 1 + k) < atI p i) = true := decide_eq_true h1
            by_cases h2 : atI p i < atI p ((i : Int) + 1 + j)
            · have e2 : decide (atI p i < atI p ((i : Int) + 1 + j)) = true := decide_eq_true h2
              rw [e1] at hR
              have hR := hR.resolve_right (fun q => q h2)
              rw [e2, ← hR] at hQ
              rw [← hQ] at hP
              simp only [Bool.true_or, Bool.true_and] at hP
              simp (disch := first | omega | (simp only [vl]; omega)) only [vcd]
              rw [← hP]
            · simp (disch := first | omega | (simp only [vl]; omega)) only [vcd]
              exact ⟨(), .inr h2, by simp; omega⟩
          · have e1 : decide (atI p ((i : Int) + 1 + j + 1 + k) < atI p i) = false := decide_eq_false h1
            rw [e1] at hR
            simp (disch := first | omega | (simp only [vl]; omega)) only [vcd]
            refine ⟨(), ?_, by simp; omega⟩
            rcases hR with hR | hR
            · left
              rw [show i + 1 + j + 1 + (k + 1) = i + 1 + j + 1 + k + 1 by omega]
              simpa using hR
            · exact .inr hR
        · simp (disch := first | omega | (simp only [vl]; omega)) only [vcd]
          refine ⟨(), ?_, by simp; omega⟩
          have hz : p.drop (i + 1 + j + 1 + (p.length - (i + 1 + j + 1))) = [] := by simp; omega
          rw [hz] at hR
          rw [show i + 1 + (j + 1) = i + 1 + j + 1 by omega]
          rcases hR with hR | hR
          · rw [← hR] at hQ
            simpa [anyL] using hQ
          · have e2 : decide (atI p i < atI p ((i : Int) + 1 + j)) = false := decide_eq_false hR
            rw [e2] at hQ
            simpa using hQ
      · simp (disch := first | omega | (simp only [vl]; omega)) only [vcd]
        have hz : p.drop (i + 1 + (p.length - (i + 1))) = [] := by simp; omega
        rw [hz] at hQ
        rw [← hQ] at hP
        simpa [d231] using hP
    · rw [List.drop_length] at hP
      simp (disch := first | omega | (simp only [vl]; omega)) only [vcd]
      rw [← hP]; rfl

/-- The first pattern is there when any is. -/
theorem first_ex {p : List Int} (h : ∃ i j k, pat p i j k) : ∃ t, first p t := by
  obtain ⟨i, hi, mi⟩ := exists_least (J := fun i => ∃ j k, pat p i j k) h
  obtain ⟨j, hj, mj⟩ := exists_least (J := fun j => ∃ k, pat p i j k) hi
  obtain ⟨k, hk, mk⟩ := exists_least (J := fun k => pat p i j k) hj
  refine ⟨(i, j, k), hk, ?_⟩
  rintro i' j' k' hp (q | ⟨rfl, q | ⟨rfl, q⟩⟩)
  · exact mi i' q ⟨j', k', hp⟩
  · exact mj j' q ⟨k', hp⟩
  · exact mk k' q hp

theorem any_at {p : List Int} {x : Int} : anyL x p = true ↔ ∃ k : Nat, k < p.length ∧ atI p k < x := by
  simp only [anyL, List.any_eq_true, decide_eq_true_eq]
  constructor
  · rintro ⟨z, hz, h⟩
    obtain ⟨k, hk, rfl⟩ := List.mem_iff_getElem.1 hz
    exact ⟨k, hk, by simpa [atI, hk] using h⟩
  · rintro ⟨k, hk, h⟩
    exact ⟨p[k], List.getElem_mem hk, by simpa [atI, hk] using h⟩
theorem atI_c0 {x : Int} {l : List Int} : atI (x :: l) ((0 : Nat) : Int) = x := rfl
theorem atI_cs {x : Int} {l : List Int} {k : Nat} : atI (x :: l) ((k + 1 : Nat) : Int) = atI l k := by simp [atI]
theorem d231_at {x : Int} : ∀ {p : List Int}, d231 x p = true ↔ ∃ j k : Nat, j < k ∧ k < p.length ∧ atI p k < x ∧ x < atI p j
  | [] => by simp [d231]
  | y :: l => by
    simp only [d231, Bool.or_eq_true, Bool.and_eq_true, decide_eq_true_eq, any_at, d231_at (p := l)]
    constructor
    · rintro (⟨h1, k, hk, h2⟩ | ⟨j, k, h1, h2, h3, h4⟩)
      · exact ⟨0, k + 1, by omega, by simp; omega, by rw [atI_cs]; exact h2, by rw [atI_c0]; exact h1⟩
      · exact ⟨j + 1, k + 1, by omega, by simp; omega, by rw [atI_cs]; exact h3, by rw [atI_cs]; exact h4⟩
    · rintro ⟨j, k, h1, h2, h3, h4⟩
      cases k with
      | zero => omega
      | succ k =>
        rw [atI_cs] at h3
        simp only [List.length_cons] at h2
        cases j with
        | zero => rw [atI_c0] at h4; exact .inl ⟨h4, k, by omega, h3⟩
        | succ j => rw [atI_cs] at h4; exact .inr ⟨j, k, by omega, by omega, h3, h4⟩
theorem c231_at : ∀ {p : List Int}, c231 p = true ↔ ∃ i j k, pat p i j k
  | [] => by simp [c231, pat]
  | x :: l => by
    simp only [c231, Bool.or_eq_true, d231_at, c231_at (p := l), pat]
    constructor
    · rintro (⟨j, k, h1, h2, h3, h4⟩ | ⟨i, j, k, h1, h2, h3, h4, h5⟩)
      · exact ⟨0, j + 1, k + 1, by omega, by omega, by simp; omega, by rw [atI_cs, atI_c0]; exact h3, by rw [atI_cs, atI_c0]; exact h4⟩
      · exact ⟨i + 1, j + 1, k + 1, by omega, by omega, by simp; omega, by rw [atI_cs, atI_cs]; exact h4, by rw [atI_cs, atI_cs]; exact h5⟩
    · rintro ⟨i, j, k, h1, h2, h3, h4, h5⟩
      simp only [List.length_cons] at h3
      cases k with
      | zero => omega
      | succ k =>
        cases j with
        | zero => omega
        | succ j =>
          rw [atI_cs] at h4 h5
          cases i with
          | zero => rw [atI_c0] at h4 h5; exact .inl ⟨j, k, by omega, by omega, h4, h5⟩
          | succ i => rw [atI_cs] at h4 h5; exact .inr ⟨i, j, k, by omega, by omega, by omega, h4, h5⟩
theorem patO_c231 {p : List Int} : patO p = c231P p := by
  unfold patO c231P
  congr 1
  rw [Bool.eq_iff_iff]
  simp only [decide_eq_true_eq, c231_at]
  exact ⟨fun ⟨t, ht⟩ => ⟨_, _, _, ht.1⟩, first_ex⟩

end Go.Cat

