/-
  Stack sorting, once.
-/
import Derived.Test.YthbpihoafdpicaaPfPerm
import Derived.Test.YthbpihoafdpicaaPfH
import Derived.Test.YthbpihoafdpicaaIrAllA
namespace Go.Cat
variable {K : Nat → List D → List D → Prop}

theorem at_last {t : List Int} {y : Int} : atI (t ++ [y]) t.length = y := by simp [atI]
theorem sub_init {t : List Int} {y : Int} : sub (t ++ [y]) 0 t.length = t := by simp [sub]

/-- What a stack (its top first) makes of the numbers that come. -/
def sortT : List Int → List Int → List Int
  | [], st => st
  | x :: p, st => st.takeWhile (fun y => decide (y < x)) ++ sortT p (x :: st.dropWhile (fun y => decide (y < x)))
theorem sortT_len : ∀ {p st : List Int}, (sortT p st).length = p.length + st.length
  | [], st => by simp [sortT]
  | x :: p, st => by
    simp only [sortT, List.length_append, List.length_cons, sortT_len]
    have := congrArg List.length (List.takeWhile_append_dropWhile (p := fun y => decide (y < x)) (l := st))
    rw [List.length_append] at this
    omega

theorem sortT_pop {x y : Int} {p st : List Int} (h : y < x) : sortT (x :: p) (y :: st) = y :: sortT (x :: p) st := by simp [sortT, h]
theorem sortT_push {x : Int} {p st : List Int} (h : ∀ y, st.head? = some y → ¬ y < x) : sortT (x :: p) st = sortT p (x :: st) := by
  cases st with
  | nil => simp [sortT]
  | cons y t =>
    have := h y rfl
    simp [sortT, this]

/-- Reversed in place. -/
theorem reverse_ok [Has K 81 ir_slices_Reverse___int_int_] {a : List Int} (h : a.length ≤ 1000000000) : K 81 [LI a] [LI a.reverse] := by
  refine body_by (f := ir_slices_Reverse___int_int_) rfl ?_; simp only [ir_slices_Reverse___int_int_]
  simp (disch := first | omega | (simp only [vl]; omega)) only [vcd]
  refine loop_wh (fun (x : Nat × List Int) => 2 * x.1 ≤ a.length + 1 ∧ x.2.length = a.length ∧ ∀ j : Nat, j < a.length → atI x.2 j = if j < x.1 ∨ a.length ≤ j + x.1 then atI a (a.length - 1 - j : Nat) else atI a j)
    (fun x => [LI x.2, .n x.1, .n ((a.length : Int) - 1 - x.1), .u]) (fun x => a.length - x.1) (0, a) ⟨by simp, rfl, by intro j hj; rw [if_neg (by omega)]⟩ (by simp (disch := first | omega | (simp only [vl]; omega)) only [vcd, Int.sub_zero]) ?_
  rintro ⟨i, o⟩ ⟨h1, h2, h3⟩
  simp only at h1 h2 h3
  by_cases hc : 2 * i + 1 < a.length
  · simp (disch := first | omega | (simp only [vl]; omega)) only [vcd]
    have e : ((a.length - 1 - i : Nat) : Int) = (a.length : Int) - 1 - i := by omega
    rw [← e]
    refine ⟨(i + 1, seI (seI o i (atI o ((a.length - 1 - i : Nat) : Int))) ((a.length - 1 - i : Nat) : Int) (atI o i)), ?_, ⟨?_, ?_, ?_⟩, ?_⟩
    rotate_left 4
    · have : ((a.length - 1 - i : Nat) : Int) - 1 = (a.length : Int) - 1 - ((i + 1 : Nat) : Int) := by omega
      rw [this]; rfl
    · show a.length - (i + 1) < a.length - i; omega
    · show 2 * (i + 1) ≤ a.length + 1; omega
    · show (seI (seI o i _) _ _).length = a.length
      rw [seI_len, seI_len, h2]
    · intro j hj
      show atI (seI (seI o i _) (a.length - 1 - i : Nat) _) j = _
      rw [atI_set (by rw [seI_len]; omega), atI_set (by omega)]
      have a1 := h3 i (by omega)
      have a2 := h3 (a.length - 1 - i) (by omega)
      rw [if_neg (by omega)] at a1 a2
      by_cases j1 : a.length - 1 - i = j
      · rw [if_pos j1, if_pos (by omega), a1]
        congr 2; omega
      · rw [if_neg j1]
        by_cases j2 : i = j
        · rw [if_pos j2, if_pos (by omega), a2]
          congr 2; omega
        · rw [if_neg j2, h3 j hj]
          by_cases j3 : j < i ∨ a.length ≤ j + i
          · rw [if_pos j3, if_pos (by omega)]
          · rw [if_neg j3, if_neg (by omega)]
  · simp (disch := first | omega | (simp only [vl]; omega)) only [vcd]
    refine Dl (extI (by simp [h2]) fun j hj => ?_)
    rw [List.length_reverse] at hj
    rw [h3 j hj]
    have hr : atI a.reverse j = atI a (a.length - 1 - j : Nat) := by
      simp only [atI, Int.toNat_natCast, List.getD_eq_getElem?_getD, List.getElem?_reverse hj]
    rw [hr]
    split
    · rfl
    · congr 2; omega

theorem sort_s [Has K 80 ir_spec_l31Sort] {p : List Int} (h : p.length ≤ 1000000000) : K 80 [LI p] [LI (sortT p [])] := by
  refine body_by (f := ir_spec_l31Sort) rfl ?_; simp only [ir_spec_l31Sort]
  simp (disch := first | omega | (simp only [vl]; omega)) only [vcd, LI_nil]
  refine loop_up (fun i (x : List Int × List Int) => x.1.length + x.2.length = i ∧ sortT p [] = x.1 ++ sortT (p.drop i) x.2) (fun i x => [LI p, .u, LI x.1, LI x.2.reverse, .n i, .u, .u, .u]) p.length ([], []) ⟨rfl, rfl⟩ rfl (fun i x hi hP => ?_) (fun x hP => ?_)
  · obtain ⟨o, st⟩ := x
    obtain ⟨h1, h2⟩ := hP
    simp only at h1 h2
    rw [dropI hi] at h2
    simp (disch := first | omega | (simp only [vl]; omega)) only [vcd]
    refine loop_wh (fun (x : List Int × List Int) => x.1.length + x.2.length = i ∧ sortT p [] = x.1 ++ sortT (atI p i :: p.drop (i + 1)) x.2) (fun x => [LI p, .u, LI x.1, LI x.2.reverse, .n i, .u, .u, .u]) (fun x => x.2.length) (o, st) ⟨h1, h2⟩ rfl ?_
    rintro ⟨o, st⟩ ⟨h1, h2⟩
    simp only at h1 h2
    cases st with
    | nil =>
      simp only [List.reverse_nil]
      simp (disch := first | omega | (simp only [vl]; omega)) only [vcd]
      refine ⟨(o, [atI p i]), ⟨?_, ?_⟩, ?_⟩
      · simpa using h1
      · rw [h2, sortT_push (by simp)]
      · rfl
    | cons y t =>
      simp only [List.length_cons] at h1
      have hl : t.reverse.length = t.length := List.length_reverse
      have e1 : atI (t.reverse ++ [y]) t.length = y := by rw [← hl]; exact at_last
      have e2 : sub (t.reverse ++ [y]) 0 t.length = t.reverse := by rw [← hl]; exact sub_init
      have e3 : (((t.reverse ++ [y]).length : Nat) : Int) = (t.length : Int) + 1 := by simp
      simp only [List.reverse_cons]
      by_cases hy : y < atI p i
      · simp (disch := first | omega | (simp only [vl]; omega)) only [vcd, e3, e1, e2, Int.add_sub_cancel, hy]
        refine ⟨(o ++ [y], t), ?_, ⟨?_, ?_⟩, ?_⟩
        · show t.length < (y :: t).length; simp
        · simp; omega
        · rw [h2, sortT_pop hy]; simp
        · rfl
      · simp (disch := first | omega | (simp only [vl]; omega)) only [vcd, e3, e1, e2, Int.add_sub_cancel, hy]
        refine ⟨(o, atI p i :: y :: t), ⟨?_, ?_⟩, ?_⟩
        · simp; omega
        · rw [h2, sortT_push (by simpa using hy)]
        · simp
  · obtain ⟨o, st⟩ := x
    obtain ⟨h1, h2⟩ := hP
    simp only at h1 h2
    rw [List.drop_length] at h2
    simp only [sortT] at h2
    simp (disch := first | omega | (simp only [vl]; omega)) only [vcd]
    refine loop_wh (fun (x : List Int × List Int × D × D) => x.1.length + x.2.1.length = p.length ∧ sortT p [] = x.1 ++ x.2.1) (fun x => [x.2.2.1, .u, LI x.1, LI x.2.1.reverse, x.2.2.2, .u, .u, .u]) (fun x => x.2.1.length) (o, st, LI p, .n p.length) ⟨h1, h2⟩ rfl ?_
    rintro ⟨o, st, dx, dy⟩ ⟨h1, h2⟩
    simp only at h1 h2
    cases st with
    | nil =>
      simp only [List.reverse_nil]
      simp (disch := first | omega | (simp only [vl]; omega)) only [vcd]
      rw [h2]; simp
    | cons y t =>
      simp only [List.length_cons] at h1
      have hl : t.reverse.length = t.length := List.length_reverse
      have e1 : atI (t.reverse ++ [y]) t.length = y := by rw [← hl]; exact at_last
      have e2 : sub (t.reverse ++ [y]) 0 t.length = t.reverse := by rw [← hl]; exact sub_init
      have e3 : (((t.reverse ++ [y]).length : Nat) : Int) = (t.length : Int) + 1 := by simp
      simp only [List.reverse_cons]
      simp (disch := first | omega | (simp only [vl]; omega)) only [vcd, e3, e1, e2, Int.add_sub_cancel]
      refine ⟨(o ++ [y], t, .u, .u), ?_, ⟨?_, ?_⟩, ?_⟩
      · show t.length < (y :: t).length; simp
      · simp; omega
      · rw [h2]; simp
      · rfl

def sortR (p : List Int) : List Int := if permF p = true then sortT p [] else []
theorem sortR_len {p : List Int} : (sortR p).length ≤ p.length := by
  unfold sortR; split
  · rw [sortT_len]; simp
  · simp

theorem sortO_s [Has K 22 ir_spec_l1In] [Has K 61 ir_spec_SortOnce] [Has K 73 ir_spec_IsPermutation] [Has K 80 ir_spec_l31Sort] {p : List Int} (h : p.length ≤ 1000000000) : K 61 [LI p] [LI (sortR p), .b (permF p)] := by
  refine body_by (f := ir_spec_SortOnce) rfl ?_; simp only [ir_spec_SortOnce]
  simp (disch := first | omega | (simp only [vl]; omega)) only [vcd]
  cases hp : permF p
  all_goals repeat (first | (refine call_by (perm_s (K := K) (by omega)) rfl ?_; try simp (disch := first | omega | (simp only [vl]; omega)) only [vcd, hp]) | (refine call_by (sort_s (K := K) (by omega)) rfl ?_; try simp (disch := first | omega | (simp only [vl]; omega)) only [vcd, hp]))
  all_goals simp [sortR, hp]
  rfl

theorem sortO_i [Has K 23 ir_impl_within] [Has K 62 ir_impl_SortOnce] [Has K 74 ir_impl_IsPermutation] [Has K 81 ir_slices_Reverse___int_int_] {p : List Int} (h : p.length ≤ 1000000000) : K 62 [LI p] [LI (sortR p), .b (permF p)] := by
  refine body_by (f := ir_impl_SortOnce) rfl ?_; simp only [ir_impl_SortOnce]
  simp (disch := first | omega | (simp only [vl]; omega)) only [vcd, LI_nil]
  cases hp : permF p
  · repeat (first | (refine call_by (perm_i (K := K) (by omega)) rfl ?_; try simp (disch := first | omega | (simp only [vl]; omega)) only [vcd, hp]))
    simp [sortR, hp]
  repeat (first | (refine call_by (perm_i (K := K) (by omega)) rfl ?_; try simp (disch := first | omega | (simp only [vl]; omega)) only [vcd, hp, LI_nil]))
  refine loop_up (fun i (x : List Int × List Int) => x.1.length + x.2.length = i ∧ sortT p [] = x.1 ++ sortT (p.drop i) x.2) (fun i x => [.u, .u, .u, LI x.1, LI x.2.reverse, .u, .u, LI p, .n p.length, .n i, .u, .u]) p.length ([], []) ⟨rfl, rfl⟩ rfl (fun i x hi hP => ?_) (fun x hP => ?_)
  · obtain ⟨o, st⟩ := x
    obtain ⟨h1, h2⟩ := hP
    simp only at h1 h2
    rw [dropI hi] at h2
    simp (disch := first | omega | (simp only [vl]; omega)) only [vcd]
    refine loop_wh (fun (x : List Int × List Int) => x.1.length + x.2.length = i ∧ sortT p [] = x.1 ++ sortT (atI p i :: p.drop (i + 1)) x.2) (fun x => [.u, .u, .u, LI x.1, LI x.2.reverse, .n (atI p i), .u, LI p, .n p.length, .n i, .u, .u]) (fun x => x.2.length) (o, st) ⟨h1, h2⟩ rfl ?_
    rintro ⟨o, st⟩ ⟨h1, h2⟩
    simp only at h1 h2
    cases st with
    | nil =>
      simp only [List.reverse_nil]
      simp (disch := first | omega | (simp only [vl]; omega)) only [vcd]
      refine ⟨(o, [atI p i]), ⟨?_, ?_⟩, ?_⟩
      · simpa using h1
      · rw [h2, sortT_push (by simp)]
      · rfl
    | cons y t =>
      simp only [List.length_cons] at h1
      have hl : t.reverse.length = t.length := List.length_reverse
      have e1 : atI (t.reverse ++ [y]) t.length = y := by rw [← hl]; exact at_last
      have e2 : sub (t.reverse ++ [y]) 0 t.length = t.reverse := by rw [← hl]; exact sub_init
      have e3 : (((t.reverse ++ [y]).length : Nat) : Int) = (t.length : Int) + 1 := by simp
      simp only [List.reverse_cons]
      by_cases hy : y < atI p i
      · simp (disch := first | omega | (simp only [vl]; omega)) only [vcd, e3, e1, e2, Int.add_sub_cancel, hy]
        refine ⟨(o ++ [y], t), ?_, ⟨?_, ?_⟩, ?_⟩
        · show t.length < (y :: t).length; simp
        · simp; omega
        · rw [h2, sortT_pop hy]; simp
        · rfl
      · simp (disch := first | omega | (simp only [vl]; omega)) only [vcd, e3, e1, e2, Int.add_sub_cancel, hy]
        refine ⟨(o, atI p i :: y :: t), ⟨?_, ?_⟩, ?_⟩
        · simp; omega
        · rw [h2, sortT_push (by simpa using hy)]
        · simp
  · obtain ⟨o, st⟩ := x
    obtain ⟨h1, h2⟩ := hP
    simp only at h1 h2
    rw [List.drop_length] at h2
    simp only [sortT] at h2
    have hl : st.reverse.length ≤ 1000000000 := by rw [List.length_reverse]; omega
    simp (disch := first | omega | (simp only [vl]; omega)) only [vcd]
    repeat (first | (refine call_by (reverse_ok (K := K) hl) rfl ?_; try simp (disch := first | omega | (simp only [vl]; omega)) only [vcd, List.reverse_reverse]))
    simp [sortR, hp, h2]

theorem sort_law [Has K 22 ir_spec_l1In] [Has K 23 ir_impl_within] [Has K 38 ir_laws_FnExactSortOnce] [Has K 42 ir_laws_toIntS] [Has K 44 ir_laws_eqIntS] [Has K 45 ir_laws_markIntS] [Has K 46 ir_laws_heldIntS] [Has K 61 ir_spec_SortOnce] [Has K 62 ir_impl_SortOnce] [Has K 73 ir_spec_IsPermutation] [Has K 74 ir_impl_IsPermutation] [Has K 80 ir_spec_l31Sort] [Has K 81 ir_slices_Reverse___int_int_] (p : List Int) : K 38 [LI p] [.b true] := by
  refine body_by (f := ir_laws_FnExactSortOnce) rfl ?_; simp only [ir_laws_FnExactSortOnce]
  have hr := sortR_len (p := p)
  by_cases h : p.length ≤ 1048576 <;> simp (disch := first | omega | (simp only [vl]; omega)) only [vcd]
  repeat (first | (refine call_by (toIntS_ok (K := K) (by omega)) rfl ?_; try simp (disch := first | omega | (simp only [vl]; omega)) only [vcd]) | (refine call_by (sortO_s (K := K) (by omega)) rfl ?_; try simp (disch := first | omega | (simp only [vl]; omega)) only [vcd]) | (refine call_by (sortO_i (K := K) (by omega)) rfl ?_; try simp (disch := first | omega | (simp only [vl]; omega)) only [vcd]) | (refine call_by (eqIntS_t (K := K) (by omega)) rfl ?_; try simp (disch := first | omega | (simp only [vl]; omega)) only [vcd]) | (refine call_by (markIntS_ok (K := K) (by omega) (by omega)) rfl ?_; try simp (disch := first | omega | (simp only [vl]; omega)) only [vcd]) | (refine call_by (held_mark (K := K) (by omega) (by omega)) rfl ?_; try simp (disch := first | omega | (simp only [vl]; omega)) only [vcd]))
end Go.Cat

