/-
  Sortable permutations counted: by a closure that calls itself, and over the list of all.
-/
import Derived.Test.YtfjkbocblpjpjaaPfPass
import Derived.Test.YtfjkbocblpjpjaaPfNum
import Derived.Test.YtfjkbocblpjpjaaIrAllA
namespace Go.Cat
variable {K : Nat → List D → List D → Prop}
set_option maxRecDepth 100000

/-- The number of passes, as it is told. -/
noncomputable def psv (p : List Int) : Int := open Classical in if h : permF p = true then (Classical.choose (pass_of h) : Nat) else -1
theorem psv_spec (p : List Int) : (permF p = false ∧ psv p = -1) ∨ ∃ k : Nat, permF p = true ∧ k ≤ p.length ∧ Pass p k ∧ psv p = k := by
  unfold psv
  split
  · rename_i h
    have := Classical.choose_spec (pass_of h)
    exact .inr ⟨_, h, this.1, this.2, rfl⟩
  · rename_i h
    exact .inl ⟨by simpa using h, rfl⟩
theorem psv_i [Has K 23 ir_impl_within] [Has K 62 ir_impl_SortOnce] [Has K 74 ir_impl_IsPermutation] [Has K 81 ir_slices_Reverse___int_int_] [Has K 106 ir_impl_PassesOf] [Has K 131 ir_impl_ascends] [Has K 178 ir_slices_IsSorted___int_int_] [Has K 203 ir_cmp_Less_int_] [Has K 211 ir_cmp_isNaN_int_] {p : List Int} (h : p.length ≤ 1000) : K 106 [LI p] [.n (psv p)] := by
  rcases psv_spec p with ⟨h1, h2⟩ | ⟨k, h1, h2, h3, h4⟩
  · rw [h2]; exact pass_no_i (K := K) (by omega) h1
  · rw [h4]; exact pass_i (K := K) h h1 h3 (by omega)
theorem psv_s [Has K 22 ir_spec_l1In] [Has K 73 ir_spec_IsPermutation] [Has K 80 ir_spec_l31Sort] [Has K 105 ir_spec_PassesOf] [Has K 130 ir_spec_l31Sorted] {p : List Int} (h : p.length ≤ 1000) : K 105 [LI p] [.n (psv p)] := by
  rcases psv_spec p with ⟨h1, h2⟩ | ⟨k, h1, h2, h3, h4⟩
  · rw [h2]; exact pass_no_s (K := K) (by omega) h1
  · rw [h4]; exact pass_s (K := K) h h1 h3 (by omega)

/-- Is it there? -/
def hasI (p : List Int) (x : Int) : Bool := p.any fun y => decide (y = x)
theorem hasI_cons {y x : Int} {p : List Int} : hasI (y :: p) x = (decide (y = x) || hasI p x) := rfl

theorem index_ok [Has K 179 ir_slices_Index___int_int_] {p : List Int} {x : Int} (h : p.length ≤ 1000000) : ∃ rs, (∃ j : Int, rs = [.n j] ∧ decide (j ≥ 0) = hasI p x ∧ j ≤ 1000000) ∧ K 179 [LI p, .n x] rs := by
  refine body_ex (f := ir_slices_Index___int_int_) rfl ?_; simp only [ir_slices_Index___int_int_]
  simp (disch := first | omega | (simp only [vl]; omega)) only [vcd]
  refine loop_ix (fun i => hasI (p.drop i) x = hasI p x) (fun i => [LI p, .n x, .u, .u, .n p.length, .n i, .u, .u]) p.length (by simp) rfl (fun i hi hP => ?_) (fun hP => ?_)
  · rw [dropI hi, hasI_cons] at hP
    by_cases hx : x = atI p i
    · simp (disch := first | omega | (simp only [vl]; omega)) only [vcd]
      exact ⟨_, rfl, by rw [← hP]; simp [hx], by omega⟩
    · have hx' : decide (atI p i = x) = false := decide_eq_false (fun q => hx q.symm)
      rw [hx', Bool.false_or] at hP
      simp (disch := first | omega | (simp only [vl]; omega)) only [vcd]
      exact hP
  · rw [List.drop_length] at hP
    simp (disch := first | omega | (simp only [vl]; omega)) only [vcd]
    exact ⟨_, rfl, by rw [← hP]; simp [hasI], by omega⟩
theorem contains_ok [Has K 135 ir_slices_Contains___int_int_] [Has K 179 ir_slices_Index___int_int_] {p : List Int} {x : Int} (h : p.length ≤ 1000000) : K 135 [LI p, .n x] [.b (hasI p x)] := by
  refine body_by (f := ir_slices_Contains___int_int_) rfl ?_; simp only [ir_slices_Contains___int_int_]
  obtain ⟨_, ⟨j, rfl, hj, hj2⟩, k1⟩ := index_ok (K := K) (x := x) h
  simp (disch := first | omega | (simp only [vl]; omega)) only [vcd]
  refine call_by (k1) rfl ?_
  simp (disch := first | omega | (simp only [vl]; omega)) only [vcd]
  exact Db (by rw [← hj])

def sumTo (g : Nat → Nat) : Nat → Nat
  | 0 => 0
  | i + 1 => sumTo g i + g i
/-- How many of those that begin with p (so many places left) are sorted in so many passes. -/
noncomputable def cF (n : Nat) (pas : Int) : Nat → List Int → Nat
  | 0, p => if psv p ≤ pas then 1 else 0
  | f + 1, p => sumTo (fun x => if hasI p x = true then 0 else cF n pas f (p ++ [(x : Int)])) n
def bdF : Nat → Nat
  | 0 => 1
  | f + 1 => 5 * bdF f
theorem sumTo_le {g : Nat → Nat} {b : Nat} (h : ∀ i, g i ≤ b) : ∀ n, sumTo g n ≤ n * b
  | 0 => by simp [sumTo]
  | n + 1 => by
    have := sumTo_le h n
    have := h n
    simp only [sumTo, Nat.succ_mul]; omega
theorem cF_le {n : Nat} {pas : Int} (hn : n ≤ 5) : ∀ (f : Nat) (p : List Int), cF n pas f p ≤ bdF f
  | 0, p => by simp only [cF, bdF]; split <;> omega
  | f + 1, p => by
    simp only [cF, bdF]
    have := sumTo_le (g := fun x => if hasI p x = true then 0 else cF n pas f (p ++ [(x : Int)])) (b := bdF f) (fun i => by
      show (if _ then _ else _) ≤ _
      split
      · omega
      · exact cF_le hn f _) n
    have h2 : n * bdF f ≤ 5 * bdF f := Nat.mul_le_mul_right _ hn
    omega

theorem up_g1 {d x : D} (h : x.one = true) : upD (some [0]) (.g [d]) x = some (.g [x]) := by
  unfold upD; rw [if_pos h]; rfl

theorem cs_f [Has K 23 ir_impl_within] [Has K 62 ir_impl_SortOnce] [Has K 74 ir_impl_IsPermutation] [Has K 75 ir_impl_copyInts] [Has K 81 ir_slices_Reverse___int_int_] [Has K 106 ir_impl_PassesOf] [Has K 131 ir_impl_ascends] [Has K 134 ir_impl_CountSortable_f1] [Has K 135 ir_slices_Contains___int_int_] [Has K 178 ir_slices_IsSorted___int_int_] [Has K 179 ir_slices_Index___int_int_] [Has K 203 ir_cmp_Less_int_] [Has K 211 ir_cmp_isNaN_int_] {n : Nat} {pas : Int} (hn : n ≤ 5) (hp : -10 ≤ pas ∧ pas ≤ 10) : ∀ (f : Nat) (p : List Int) (k : Nat), p.length + f = n → k + bdF f ≤ 1000000000 →
    K 134 [LI p, .g [.n n], .g [.n pas], .g [.n k], .u] [.g [.n n], .g [.n pas], .g [.n (k + cF n pas f p : Nat)]]
  | 0, p, k => fun h1 h2 => by
    simp only [bdF] at h2
    refine body_by (f := ir_impl_CountSortable_f1) rfl ?_; simp only [ir_impl_CountSortable_f1]
    simp (disch := first | omega | (simp only [vl]; omega)) only [vcd]
    refine call_by (psv_i (K := K) (p := p) (by omega)) rfl ?_
    by_cases h : psv p ≤ pas
    · have e : cF n pas 0 p = 1 := by simp [cF, h]
      rw [e]
      simp (disch := first | omega | (simp only [vl]; omega)) only [vcd]
    · have e : cF n pas 0 p = 0 := by simp [cF, h]
      rw [e]
      simp (disch := first | omega | (simp only [vl]; omega)) only [vcd]
      rfl
  | f + 1, p, k => fun h1 h2 => by
    have hb : bdF (f + 1) = 5 * bdF f := rfl
    rw [hb] at h2
    refine body_by (f := ir_impl_CountSortable_f1) rfl ?_; simp only [ir_impl_CountSortable_f1]
    simp (disch := first | omega | (simp only [vl]; omega)) only [vcd]
    refine loop_ix (fun i => True) (fun i => [LI p, .g [.n n], .g [.n pas], .g [.n (k + sumTo (fun x => if hasI p x = true then 0 else cF n pas f (p ++ [(x : Int)])) i : Nat)], .u, .u, .u, .u, .n n, .n i, .u, .u]) n trivial (by simp [sumTo]) (fun i hi hP => ?_) (fun hP => ?_)
    · have hs := sumTo_le (g := fun x => if hasI p x = true then 0 else cF n pas f (p ++ [(x : Int)])) (b := bdF f) (fun i => by
        show (if _ then _ else _) ≤ _
        split
        · omega
        · exact cF_le hn f _) i
      have hs2 : i * bdF f ≤ 4 * bdF f := Nat.mul_le_mul_right _ (by omega)
      have hsucc : sumTo (fun x => if hasI p x = true then 0 else cF n pas f (p ++ [(x : Int)])) (i + 1) = sumTo (fun x => if hasI p x = true then 0 else cF n pas f (p ++ [(x : Int)])) i + (if hasI p i = true then 0 else cF n pas f (p ++ [(i : Int)])) := rfl
      rw [hsucc]
      generalize sumTo (fun x => if hasI p x = true then 0 else cF n pas f (p ++ [(x : Int)])) i = s at *
      simp (disch := first | omega | (simp only [vl]; omega)) only [vcd]
      refine call_by (contains_ok (K := K) (p := p) (x := i) (by omega)) rfl ?_
      cases hh : hasI p i
      · simp (disch := first | omega | (simp only [vl]; omega)) only [vcd, hh]
        refine call_by (copyInts_ok (K := K) (p := p) (by omega)) rfl ?_
        simp (disch := first | omega | (simp only [vl]; omega)) only [vcd]
        have ih := cs_f hn hp f (p ++ [(i : Int)]) (k + s) (by simp; omega) (by omega)
        refine call_by (ih) rfl ?_
        simp (disch := first | omega | (simp only [vl]; omega)) only [vcd]
        rw [if_neg (by simp), ← Nat.add_assoc]
      · simp (disch := first | omega | (simp only [vl]; omega)) only [vcd, hh]
        rw [Nat.add_zero]
    · simp (disch := first | omega | (simp only [vl]; omega)) only [vcd]
      exact congrArg (fun x : Nat => [D.g [.n n], .g [.n pas], .g [.n x]]) (by simp [cF])

/-- All that begin with p. -/
def lA (n : Nat) : Nat → List Int → List (List Int)
  | 0, p => [p]
  | f + 1, p => (List.range n).flatMap fun (x : Nat) => if hasI p x = true then [] else lA n f (p ++ [(x : Int)])
theorem lA_len {n : Nat} : ∀ {f : Nat} {p q : List Int}, q ∈ lA n f p → q.length = p.length + f
  | 0, p, q, h => by simp only [lA, List.mem_singleton] at h; subst h; rfl
  | f + 1, p, q, h => by
    simp only [lA, List.mem_flatMap] at h
    obtain ⟨x, _, hx⟩ := h
    split at hx
    · simp at hx
    · have := lA_len hx
      simp at this; omega
theorem count_range {g : Nat → List (List Int)} {P : List Int → Bool} : ∀ n, ((List.range n).flatMap g).countP P = sumTo (fun x => (g x).countP P) n
  | 0 => rfl
  | n + 1 => by
    rw [List.range_succ, List.flatMap_append, List.countP_append, count_range n]
    simp [sumTo]
theorem cF_lA {n : Nat} {pas : Int} : ∀ (f : Nat) (p : List Int), cF n pas f p = (lA n f p).countP fun q => decide (psv q ≤ pas)
  | 0, p => by simp [cF, lA, List.countP_cons]
  | f + 1, p => by
    simp only [cF, lA, count_range]
    congr 1
    funext x
    split
    · simp
    · exact cF_lA f _

theorem lA_bd {n : Nat} (hn : n ≤ 5) : ∀ (f : Nat) (p : List Int), (lA n f p).length ≤ bdF f
  | 0, p => by simp [lA, bdF]
  | f + 1, p => by
    have h1 := count_range (P := fun _ => true) (g := fun (x : Nat) => if hasI p x = true then [] else lA n f (p ++ [(x : Int)])) n
    rw [List.countP_true] at h1
    have h2 := sumTo_le (g := fun (x : Nat) => List.countP (fun _ => true) (if hasI p x = true then [] else lA n f (p ++ [(x : Int)]))) (b := bdF f) (fun i => by
      rw [List.countP_true]
      split
      · simp
      · exact lA_bd hn f _) n
    have h3 : n * bdF f ≤ 5 * bdF f := Nat.mul_le_mul_right _ hn
    simp only [List.countP_true] at h1 h2
    simp only [lA, bdF]
    omega
theorem bd_5 {f : Nat} (h : f ≤ 5) : bdF f ≤ 3125 := by
  have : f = 0 ∨ f = 1 ∨ f = 2 ∨ f = 3 ∨ f = 4 ∨ f = 5 := by omega
  rcases this with rfl | rfl | rfl | rfl | rfl | rfl <;> simp [bdF]
theorem la_len {n : Nat} (h : n < 6) : (lA n n []).length ≤ 3125 := Nat.le_trans (lA_bd (by omega) _ _) (bd_5 (by omega))

theorem hasI_snoc {p : List Int} {y x : Int} : hasI (p ++ [y]) x = (hasI p x || decide (y = x)) := by simp [hasI]
theorem take_atI {p : List Int} {i : Nat} (h : i < p.length) : p.take (i + 1) = p.take i ++ [atI p i] := by
  rw [List.take_add_one]
  simp [atI, h]
theorem LL_appC {a b : List (List Int)} (h : a.length + b.length ≤ 1099511627776) : appD false (LL a) (LL b) = some (LL (a ++ b)) := by
  simp only [appD, LL, List.length_map]
  rw [if_pos ⟨h, by simp [LI, D.one]⟩, List.map_append]
theorem LL_nilC : D.l [] = LL [] := rfl
theorem LI_nilC : D.l [] = LI [] := rfl

theorem la_w [Has K 133 ir_spec_l10All] {n : Nat} (hn : n < 6) : ∀ (f : Nat) (p : List Int), p.length + f = n → K 133 [.n n, LI p] [LL (lA n f p)]
  | 0, p => fun h1 => by
    refine body_by (f := ir_spec_l10All) rfl ?_; simp only [ir_spec_l10All]
    simp (disch := first | omega | (simp only [vl]; omega)) only [vcd, ll_1]
    rfl
  | f + 1, p => fun h1 => by
    refine body_by (f := ir_spec_l10All) rfl ?_; simp only [ir_spec_l10All]
    simp (disch := first | omega | (simp only [vl]; omega)) only [vcd]
    refine loop_ix (fun i => True) (fun i => [.n n, LI p, .u, LL ((List.range i).flatMap fun (x : Nat) => if hasI p x = true then [] else lA n f (p ++ [(x : Int)])), .n i, .u, .u, .u, .u, .u, .u]) n trivial rfl (fun x hx hP => ?_) (fun hP => ?_)
    · have hb := bd_5 (f := f) (by omega)
      have hl1 : ((List.range x).flatMap fun (x : Nat) => if hasI p x = true then [] else lA n f (p ++ [(x : Int)])).length ≤ 5 * 3125 := by
        have h1 := count_range (P := fun _ => true) (g := fun (x : Nat) => if hasI p x = true then [] else lA n f (p ++ [(x : Int)])) x
        rw [List.countP_true] at h1
        have h2 := sumTo_le (g := fun (x : Nat) => List.countP (fun _ => true) (if hasI p x = true then [] else lA n f (p ++ [(x : Int)]))) (b := 3125) (fun i => by
          rw [List.countP_true]
          split
          · simp
          · exact Nat.le_trans (lA_bd (by omega) f _) hb) x
        have h3 : x * 3125 ≤ 5 * 3125 := Nat.mul_le_mul_right _ (by omega)
        simp only [List.countP_true] at h1 h2
        omega
      have hl2 : (lA n f (p ++ [(x : Int)])).length ≤ 3125 := Nat.le_trans (lA_bd (by omega) f _) hb
      have hsucc : ((List.range (x + 1)).flatMap fun (x : Nat) => if hasI p x = true then [] else lA n f (p ++ [(x : Int)])) = ((List.range x).flatMap fun (x : Nat) => if hasI p x = true then [] else lA n f (p ++ [(x : Int)])) ++ (if hasI p x = true then [] else lA n f (p ++ [(x : Int)])) := by
        rw [List.range_succ, List.flatMap_append]; simp
      rw [hsucc]
      generalize ((List.range x).flatMap fun (x : Nat) => if hasI p x = true then [] else lA n f (p ++ [(x : Int)])) = acc at *
      simp (disch := first | omega | (simp only [vl]; omega)) only [vcd]
      refine loop_ix (fun i => True) (fun i => [.n n, LI p, .u, LL acc, .n x, .b (hasI (p.take i) x), .n i, .u, .u, .u, .u]) p.length trivial rfl (fun i hi hP => ?_) (fun hP => ?_)
      · rw [take_atI hi, hasI_snoc]
        cases hh : hasI (p.take i) x
        · simp (disch := first | omega | (simp only [vl]; omega)) only [vcd]
        · simp (disch := first | omega | (simp only [vl]; omega)) only [vcd]
      · rw [List.take_length]
        cases hh : hasI p x
        · simp (disch := first | omega | (simp only [vl]; omega)) only [vcd, LI_nilC, ll_1]
          have ih := la_w hn f (p ++ [(x : Int)]) (by simp; omega)
          refine call_by (ih) rfl ?_
          simp (disch := first | omega | (simp only [vl]; omega)) only [vcd, LL_appC]
          rfl
        · simp (disch := first | omega | (simp only [vl]; omega)) only [vcd]
    · simp (disch := first | omega | (simp only [vl]; omega)) only [vcd]
      rfl
theorem la_s [Has K 133 ir_spec_l10All] {n : Nat} (h : n < 6) : K 133 [.n n, .l []] [LL (lA n n [])] := la_w (K := K) h n [] (by simp)

theorem cs_s5 [Has K 22 ir_spec_l1In] [Has K 73 ir_spec_IsPermutation] [Has K 80 ir_spec_l31Sort] [Has K 105 ir_spec_PassesOf] [Has K 111 ir_spec_CountSortable] [Has K 130 ir_spec_l31Sorted] [Has K 133 ir_spec_l10All] {n m : Nat} (hn : n < 6) (hm : m < 6) : K 111 [.n n, .n m] [.n (cF n m n [] : Nat)] := by
  refine body_by (f := ir_spec_CountSortable) rfl ?_; simp only [ir_spec_CountSortable]
  have e1 : inR 0 5 (n : Int) = true := inR_iff.2 (by omega)
  have e2 : inR 0 5 (m : Int) = true := inR_iff.2 (by omega)
  have hl := la_len hn
  simp (disch := first | omega | (simp only [vl]; omega)) only [vcd]
  repeat (first | (refine call_by (l1In_ok (K := K)) rfl ?_; try simp (disch := first | omega | (simp only [vl]; omega)) only [vcd, e1, e2]))
  refine call_by (la_s (K := K) hn) rfl ?_
  simp (disch := first | omega | (simp only [vl]; omega)) only [vcd]
  rw [cF_lA]
  have hrow : ∀ i, i < (lA n n []).length → (atL (lA n n []) i).length ≤ 1000 := by
    intro i hi
    have : atL (lA n n []) i ∈ lA n n [] := by
      simp only [atL, Int.toNat_natCast, List.getD_eq_getElem?_getD, List.getElem?_eq_getElem hi, Option.getD_some]
      exact List.getElem_mem hi
    have := lA_len this
    simp at this; omega
  have htk : ∀ i, i < (lA n n []).length → (lA n n []).take (i + 1) = (lA n n []).take i ++ [atL (lA n n []) i] := by
    intro i hi
    rw [List.take_add_one]
    simp [atL, hi]
  generalize lA n n [] = l at *
  refine loop_ix (fun i => True) (fun i => [.u, .n m, .u, LL l, .n ((l.take i).countP fun q => decide (psv q ≤ (m : Int)) : Nat), .n i, .u, .u, .u]) l.length trivial rfl (fun i hi hP => ?_) (fun hP => ?_)
  · have hc : (l.take i).countP (fun q => decide (psv q ≤ (m : Int))) ≤ (l.take i).length := List.countP_le_length
    have hc2 : (l.take i).length ≤ i := by simp; omega
    rw [htk i hi, List.countP_append]
    have := hrow i hi
    simp (disch := first | omega | (simp only [vl]; omega)) only [vcd]
    refine call_by (psv_s (K := K) (p := atL l i) (by omega)) rfl ?_
    by_cases h : psv (atL l i) ≤ (m : Int)
    · have e : List.countP (fun q => decide (psv q ≤ (m : Int))) [atL l i] = 1 := by simp [List.countP_cons, h]
      rw [e]
      simp (disch := first | omega | (simp only [vl]; omega)) only [vcd]
    · have e : List.countP (fun q => decide (psv q ≤ (m : Int))) [atL l i] = 0 := by simp [List.countP_cons, h]
      rw [e]
      simp (disch := first | omega | (simp only [vl]; omega)) only [vcd]
      rfl
  · simp (disch := first | omega | (simp only [vl]; omega)) only [vcd]
    rw [List.take_length]
theorem cs_i5 [Has K 23 ir_impl_within] [Has K 62 ir_impl_SortOnce] [Has K 74 ir_impl_IsPermutation] [Has K 75 ir_impl_copyInts] [Has K 81 ir_slices_Reverse___int_int_] [Has K 106 ir_impl_PassesOf] [Has K 112 ir_impl_CountSortable] [Has K 131 ir_impl_ascends] [Has K 134 ir_impl_CountSortable_f1] [Has K 135 ir_slices_Contains___int_int_] [Has K 178 ir_slices_IsSorted___int_int_] [Has K 179 ir_slices_Index___int_int_] [Has K 203 ir_cmp_Less_int_] [Has K 211 ir_cmp_isNaN_int_] {n m : Nat} (hn : n < 6) (hm : m < 6) : K 112 [.n n, .n m] [.n (cF n m n [] : Nat)] := by
  refine body_by (f := ir_impl_CountSortable) rfl ?_; simp only [ir_impl_CountSortable]
  have e1 : inR 0 5 (n : Int) = true := inR_iff.2 (by omega)
  have e2 : inR 0 5 (m : Int) = true := inR_iff.2 (by omega)
  have hb : bdF n ≤ 3125 := bd_5 (by omega)
  simp (disch := first | omega | (simp only [vl]; omega)) only [vcd]
  repeat (first | (refine call_by (within_ok (K := K)) rfl ?_; try simp (disch := first | omega | (simp only [vl]; omega)) only [vcd, e1, e2]))
  have := cs_f (K := K) (n := n) (pas := m) (by omega) (by omega) n [] 0 (by simp) (by omega)
  rw [Nat.zero_add] at this
  refine call_by (this) rfl ?_
  simp (disch := first | omega | (simp only [vl]; omega)) only [vcd]
theorem cs_out_s [Has K 22 ir_spec_l1In] [Has K 111 ir_spec_CountSortable] {a b : Int} (h : ¬ ((0 ≤ a ∧ a ≤ 5) ∧ 0 ≤ b ∧ b ≤ 5)) : K 111 [.n a, .n b] [.n (-1)] := by
  refine body_by (f := ir_spec_CountSortable) rfl ?_; simp only [ir_spec_CountSortable]
  have h1 := inR_iff (lo := 0) (hi := 5) (x := a)
  have h2 := inR_iff (lo := 0) (hi := 5) (x := b)
  cases e1 : inR 0 5 a <;> cases e2 : inR 0 5 b <;> rw [e1] at h1 <;> rw [e2] at h2
  · simp (disch := first | omega | (simp only [vl]; omega)) only [vcd]
    repeat (first | (refine call_by (l1In_ok (K := K)) rfl ?_; try simp (disch := first | omega | (simp only [vl]; omega)) only [vcd, e1]))
  · simp (disch := first | omega | (simp only [vl]; omega)) only [vcd]
    repeat (first | (refine call_by (l1In_ok (K := K)) rfl ?_; try simp (disch := first | omega | (simp only [vl]; omega)) only [vcd, e1]))
  · simp (disch := first | omega | (simp only [vl]; omega)) only [vcd]
    repeat (first | (refine call_by (l1In_ok (K := K)) rfl ?_; try simp (disch := first | omega | (simp only [vl]; omega)) only [vcd, e1, e2]))
  · exact absurd ⟨h1.1 rfl, h2.1 rfl⟩ h
theorem cs_out_i [Has K 23 ir_impl_within] [Has K 112 ir_impl_CountSortable] {a b : Int} (h : ¬ ((0 ≤ a ∧ a ≤ 5) ∧ 0 ≤ b ∧ b ≤ 5)) : K 112 [.n a, .n b] [.n (-1)] := by
  refine body_by (f := ir_impl_CountSortable) rfl ?_; simp only [ir_impl_CountSortable]
  have h1 := inR_iff (lo := 0) (hi := 5) (x := a)
  have h2 := inR_iff (lo := 0) (hi := 5) (x := b)
  cases e1 : inR 0 5 a <;> cases e2 : inR 0 5 b <;> rw [e1] at h1 <;> rw [e2] at h2
  · simp (disch := first | omega | (simp only [vl]; omega)) only [vcd]
    repeat (first | (refine call_by (within_ok (K := K)) rfl ?_; try simp (disch := first | omega | (simp only [vl]; omega)) only [vcd, e1]))
  · simp (disch := first | omega | (simp only [vl]; omega)) only [vcd]
    repeat (first | (refine call_by (within_ok (K := K)) rfl ?_; try simp (disch := first | omega | (simp only [vl]; omega)) only [vcd, e1]))
  · simp (disch := first | omega | (simp only [vl]; omega)) only [vcd]
    repeat (first | (refine call_by (within_ok (K := K)) rfl ?_; try simp (disch := first | omega | (simp only [vl]; omega)) only [vcd, e1, e2]))
  · exact absurd ⟨h1.1 rfl, h2.1 rfl⟩ h
theorem cs_same [Has K 22 ir_spec_l1In] [Has K 23 ir_impl_within] [Has K 62 ir_impl_SortOnce] [Has K 73 ir_spec_IsPermutation] [Has K 74 ir_impl_IsPermutation] [Has K 75 ir_impl_copyInts] [Has K 80 ir_spec_l31Sort] [Has K 81 ir_slices_Reverse___int_int_] [Has K 105 ir_spec_PassesOf] [Has K 106 ir_impl_PassesOf] [Has K 111 ir_spec_CountSortable] [Has K 112 ir_impl_CountSortable] [Has K 130 ir_spec_l31Sorted] [Has K 131 ir_impl_ascends] [Has K 133 ir_spec_l10All] [Has K 134 ir_impl_CountSortable_f1] [Has K 135 ir_slices_Contains___int_int_] [Has K 178 ir_slices_IsSorted___int_int_] [Has K 179 ir_slices_Index___int_int_] [Has K 203 ir_cmp_Less_int_] [Has K 211 ir_cmp_isNaN_int_] (a b : Int) : ∃ v, K 112 [.n a, .n b] [.n v] ∧ K 111 [.n a, .n b] [.n v] := by
  by_cases h : (0 ≤ a ∧ a ≤ 5) ∧ 0 ≤ b ∧ b ≤ 5
  · obtain ⟨⟨ha, ha2⟩, hb, hb2⟩ := h
    obtain ⟨m, rfl⟩ := Int.eq_ofNat_of_zero_le ha
    obtain ⟨n, rfl⟩ := Int.eq_ofNat_of_zero_le hb
    exact ⟨_, cs_i5 (K := K) (by omega) (by omega), cs_s5 (K := K) (by omega) (by omega)⟩
  · exact ⟨-1, cs_out_i (K := K) h, cs_out_s (K := K) h⟩
theorem csort_law [Has K 22 ir_spec_l1In] [Has K 23 ir_impl_within] [Has K 62 ir_impl_SortOnce] [Has K 73 ir_spec_IsPermutation] [Has K 74 ir_impl_IsPermutation] [Has K 75 ir_impl_copyInts] [Has K 80 ir_spec_l31Sort] [Has K 81 ir_slices_Reverse___int_int_] [Has K 92 ir_laws_FnExactCountSortable] [Has K 105 ir_spec_PassesOf] [Has K 106 ir_impl_PassesOf] [Has K 111 ir_spec_CountSortable] [Has K 112 ir_impl_CountSortable] [Has K 130 ir_spec_l31Sorted] [Has K 131 ir_impl_ascends] [Has K 133 ir_spec_l10All] [Has K 134 ir_impl_CountSortable_f1] [Has K 135 ir_slices_Contains___int_int_] [Has K 178 ir_slices_IsSorted___int_int_] [Has K 179 ir_slices_Index___int_int_] [Has K 203 ir_cmp_Less_int_] [Has K 211 ir_cmp_isNaN_int_] (a b : Int) : K 92 [.n a, .n b] [.b true] := by
  refine body_by (f := ir_laws_FnExactCountSortable) rfl ?_; simp only [ir_laws_FnExactCountSortable]
  obtain ⟨v, k1, k2⟩ := cs_same (K := K) a b
  simp (disch := first | omega | (simp only [vl]; omega)) only [vcd]
  refine call_by (k2) rfl ?_
  simp (disch := first | omega | (simp only [vl]; omega)) only [vcd]
  refine call_by (k1) rfl ?_
  simp (disch := first | omega | (simp only [vl]; omega)) only [vcd]
end Go.Cat

