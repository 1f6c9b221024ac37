/-
  Words and their reflections.
-/
import Derived.Test.YtfjkbocblpjpjaaPfPath
import Derived.Test.YtfjkbocblpjpjaaIrAllA
namespace Go.Cat
variable {K : Nat → List D → List D → Prop}

def allud (w : List Nat) : Bool := w.all fun c => decide (c = 117 ∨ c = 100)
theorem allud_cons {c : Nat} {w : List Nat} : allud (c :: w) = (decide (c = 117 ∨ c = 100) && allud w) := rfl
theorem steps_allud : ∀ (w : List Nat), steps w = allud w
  | [] => rfl
  | c :: w => by
    have ih := steps_allud w
    have hl := cnt_le (w := w) (c := 117)
    have : cnt w 117 + cnt w 100 ≤ w.length := by
      clear ih hl
      induction w with
      | nil => simp [cnt]
      | cons a w ih => simp only [cnt_cons, List.length_cons]; split <;> split <;> omega
    rw [allud_cons, ← ih]
    simp only [steps, cnt_cons, List.length_cons]
    by_cases h1 : c = 117
    · subst h1; simp; omega
    · by_cases h2 : c = 100
      · subst h2; simp; omega
      · simp [h1, h2]; omega

theorem l29Word_ok [Has K 63 ir_spec_l29Word] {w : List Nat} (h : w.length ≤ 1000000000) :
    K 63 [.s w] [.n (if allud w = true then (cnt w 117 : Int) else 0), .n (if allud w = true then (cnt w 100 : Int) else 0), .b (allud w && decide (w.length ≤ 16))] := by
  refine body_by (f := ir_spec_l29Word) rfl ?_; simp only [ir_spec_l29Word]
  simp (disch := first | omega | (simp only [vl]; omega)) only [vcd]
  refine loop_up (fun i (x : Int × Int) => (0 ≤ x.1 ∧ x.1 ≤ i) ∧ (0 ≤ x.2 ∧ x.2 ≤ i) ∧ x.1 + cnt (w.drop i) 117 = cnt w 117 ∧ x.2 + cnt (w.drop i) 100 = cnt w 100 ∧ allud w = allud (w.drop i)) (fun i x => [.s w, .u, .u, .u, .n x.1, .n x.2, .n i, .u, .u, .u, .u]) w.length (0, 0) ⟨by simp, by simp, by simp, by simp, by simp⟩ rfl (fun i x hi hP => ?_) (fun x hP => ?_)
  · obtain ⟨a, b⟩ := x
    obtain ⟨h1, h2, h3, h4, h5⟩ := hP
    simp only at h1 h2 h3 h4 h5
    rw [dropB hi, cnt_cons] at h3 h4
    rw [dropB hi, allud_cons] at h5
    by_cases hu : atB w i = 117
    · rw [hu] at h3 h4 h5
      simp at h3 h4 h5
      simp (disch := first | omega | (simp only [vl]; omega)) only [vcd]
      exact ⟨(a + 1, b), ⟨by simp; omega, by simp; omega, by simp; omega, by simp; omega, h5⟩, rfl⟩
    · by_cases hd : atB w i = 100
      · rw [hd] at h3 h4 h5
        simp at h3 h4 h5
        simp (disch := first | omega | (simp only [vl]; omega)) only [vcd]
        exact ⟨(a, b + 1), ⟨by simp; omega, by simp; omega, by simp; omega, by simp; omega, h5⟩, rfl⟩
      · simp [hu, hd] at h5
        simp (disch := first | omega | (simp only [vl]; omega)) only [vcd]
        simp [h5]
  · obtain ⟨a, b⟩ := x
    obtain ⟨h1, h2, h3, h4, h5⟩ := hP
    simp only at h1 h2 h3 h4 h5
    rw [List.drop_length] at h3 h4 h5
    simp [cnt, allud] at h3 h4
    have h6 : allud w = true := by rw [h5]; rfl
    simp (disch := first | omega | (simp only [vl]; omega)) only [vcd]
    simp [h6, h3, h4, cnt]
    omega

/-- As many u as d, and no path. -/
def badF (w : List Nat) : Bool := decide (w.length ≤ 16) && allud w && decide (cnt w 117 = cnt w 100) && !dyck w

theorem bad_i [Has K 40 ir_impl_IsBad] [Has K 65 ir_impl_areSteps] [Has K 66 ir_impl_count] [Has K 67 ir_impl_IsDyck] [Has K 82 ir_impl_heights] {w : List Nat} (h : w.length ≤ 1000000000) : K 40 [.s w] [.b (badF w)] := by
  refine body_by (f := ir_impl_IsBad) rfl ?_; simp only [ir_impl_IsBad]
  have hs := steps_allud w
  by_cases hl : w.length ≤ 16 <;> simp (disch := first | omega | (simp only [vl]; omega)) only [vcd]
  · cases hw : allud w <;> rw [hw] at hs <;> by_cases hc : cnt w 117 = cnt w 100
    all_goals repeat (first | (refine call_by (areSteps_ok (K := K) h) rfl ?_; try simp (disch := first | omega | (simp only [vl]; omega)) only [vcd, hs]) | (refine call_by (count_ok (K := K) (c := 117) h) rfl ?_; try simp (disch := first | omega | (simp only [vl]; omega)) only [vcd, hs]) | (refine call_by (count_ok (K := K) (c := 100) h) rfl ?_; try simp (disch := first | omega | (simp only [vl]; omega)) only [vcd, hs]) | (refine call_by (dyck_i (K := K) h) rfl ?_; try simp (disch := first | omega | (simp only [vl]; omega)) only [vcd, hs]))
    all_goals simp [badF, hl, hw, hc]
  · simp [badF, hl]

theorem bad_s [Has K 39 ir_spec_IsBad] [Has K 63 ir_spec_l29Word] [Has K 64 ir_spec_IsDyck] {w : List Nat} (h : w.length ≤ 1000000000) : K 39 [.s w] [.b (badF w)] := by
  refine body_by (f := ir_spec_IsBad) rfl ?_; simp only [ir_spec_IsBad]
  simp (disch := first | omega | (simp only [vl]; omega)) only [vcd]
  cases hw : allud w <;> by_cases hl : w.length ≤ 16 <;> by_cases hc : cnt w 117 = cnt w 100
  all_goals have hl2 : decide (w.length ≤ 16) = decide (w.length ≤ 16) := rfl
  all_goals simp only [hl, decide_true, decide_false] at hl2
  all_goals repeat (first | (refine call_by (l29Word_ok (K := K) h) rfl ?_; try simp (disch := first | omega | (simp only [vl]; omega)) only [vcd, hw, hl, hc]) | (refine call_by (dyck_s (K := K) h) rfl ?_; try simp (disch := first | omega | (simp only [vl]; omega)) only [vcd, hw, hl, hc]))
  all_goals simp [badF, hl, hw, hc]

theorem bad_law [Has K 29 ir_laws_FnExactIsBad] [Has K 39 ir_spec_IsBad] [Has K 40 ir_impl_IsBad] [Has K 63 ir_spec_l29Word] [Has K 64 ir_spec_IsDyck] [Has K 65 ir_impl_areSteps] [Has K 66 ir_impl_count] [Has K 67 ir_impl_IsDyck] [Has K 82 ir_impl_heights] (w : List Nat) : K 29 [.s w] [.b true] := by
  refine body_by (f := ir_laws_FnExactIsBad) rfl ?_; simp only [ir_laws_FnExactIsBad]
  by_cases h : w.length ≤ 1048576 <;> simp (disch := first | omega | (simp only [vl]; omega)) only [vcd]
  repeat (first | (refine call_by (bad_s (K := K) (by omega)) rfl ?_; try simp (disch := first | omega | (simp only [vl]; omega)) only [vcd]) | (refine call_by (bad_i (K := K) (by omega)) rfl ?_; try simp (disch := first | omega | (simp only [vl]; omega)) only [vcd]))

/-- u for d, d for u. -/
def swp (c : Nat) : Nat := if c = 117 then 100 else 117
/-- All letters changed behind the first place at which the height is -1. -/
def refl : List Nat → Int → List Nat
  | [], _ => []
  | c :: w, h => if (if c = 117 then h + 1 else h - 1) = -1 then c :: w.map swp else c :: refl w (if c = 117 then h + 1 else h - 1)

theorem refl_len : ∀ (w : List Nat) (h : Int), (refl w h).length = w.length
  | [], _ => rfl
  | c :: w, h => by
    simp only [refl]
    generalize (if c = 117 then h + 1 else h - 1) = k
    split
    · simp
    · simp [refl_len w]

/-- Two letters for two others. -/
def exl (a c d x : Nat) : Nat := if x = a then c else d
theorem exl_lt {a c d x : Nat} (hc : c < 256) (hd : d < 256) : exl a c d x < 256 := by unfold exl; split <;> assumption
def only (a b : Nat) (w : List Nat) : Bool := w.all fun x => decide (x = a ∨ x = b)
theorem only_cons {a b c : Nat} {w : List Nat} : only a b (c :: w) = (decide (c = a ∨ c = b) && only a b w) := rfl

theorem exchanged_ok [Has K 83 ir_impl_exchanged] {w : List Nat} {a b c d : Nat} (h : w.length ≤ 1000000000) (hc : c < 256) (hd : d < 256) :
    K 83 [.s w, .s [a, b], .s [c, d]] [.s (if only a b w = true then w.map (exl a c d) else []), .b (only a b w)] := by
  refine body_by (f := ir_impl_exchanged) rfl ?_; simp only [ir_impl_exchanged]
  have f0 : atB [a, b] 0 = a := rfl
  have f1 : atB [a, b] 1 = b := rfl
  have f2 : atB [c, d] 0 = c := rfl
  have f3 : atB [c, d] 1 = d := rfl
  simp (disch := first | omega | (simp only [vl]; omega)) only [vcd, LB_nil]
  refine loop_up (fun i (l : List Nat) => l.length = i ∧ (∀ x ∈ l, x < 256) ∧ l ++ (w.drop i).map (exl a c d) = w.map (exl a c d) ∧ only a b w = only a b (w.drop i)) (fun i l => [.s w, .s [a, b], .s [c, d], .u, .u, LB l, .n i, .u, .u, .u, .u]) w.length [] ⟨rfl, by simp, by simp, by simp⟩ rfl (fun i l hi hP => ?_) (fun l hP => ?_)
  · obtain ⟨h1, h2, h3, h4⟩ := hP
    rw [dropB hi] at h3 h4
    rw [only_cons] at h4
    rw [List.map_cons] at h3
    by_cases ha : atB w i = a
    · have e : exl a c d (atB w i) = c := by simp [exl, ha]
      simp (disch := first | omega | (simp only [vl]; omega)) only [vcd, f0, f2]
      refine ⟨l ++ [c], ⟨by simp; omega, ?_, ?_, ?_⟩, rfl⟩
      · intro x hx
        rcases List.mem_append.1 hx with q | q
        · exact h2 x q
        · simp at q; omega
      · rw [← h3, e]; simp
      · rw [h4, ha]; simp
    · by_cases hb : atB w i = b
      · have e : exl a c d (atB w i) = d := by simp [exl, ha]
        simp (disch := first | omega | (simp only [vl]; omega)) only [vcd, f0, f1, f3]
        refine ⟨l ++ [d], ⟨by simp; omega, ?_, ?_, ?_⟩, rfl⟩
        · intro x hx
          rcases List.mem_append.1 hx with q | q
          · exact h2 x q
          · simp at q; omega
        · rw [← h3, e]; simp
        · rw [h4, hb]; simp
      · simp (disch := first | omega | (simp only [vl]; omega)) only [vcd, f0, f1]
        have : only a b w = false := by rw [h4]; simp [ha, hb]
        simp [this]
  · obtain ⟨h1, h2, h3, h4⟩ := hP
    rw [List.drop_length] at h3 h4
    simp at h3
    have h5 : only a b w = true := by rw [h4]; rfl
    simp (disch := first | omega | (simp only [vl]; omega)) only [vcd, LB_bs h2]
    simp [h5, h3]

theorem only_allud {w : List Nat} : only 117 100 w = allud w := rfl
theorem exl_swp : exl 117 100 117 = swp := rfl

theorem allud_drop {w : List Nat} {i : Nat} (h : allud w = true) : allud (w.drop i) = true := by
  simp only [allud, List.all_eq_true] at h ⊢
  exact fun x hx => h x (List.mem_of_mem_drop hx)

theorem sub_drop {α : Type} {w : List α} {i : Nat} : sub w ((i : Int) + 1) w.length = w.drop (i + 1) := by
  simp only [sub, Int.toNat_natCast]
  rw [List.take_of_length_le (Nat.le_refl _)]
  congr 1
theorem sub_take {α : Type} {w : List α} {i : Nat} : sub w 0 ((i : Int) + 1) = w.take (i + 1) := by
  have : ((i : Int) + 1).toNat = i + 1 := by omega
  simp [sub, this]

theorem reflected_ok [Has K 77 ir_impl_reflected] [Has K 83 ir_impl_exchanged] {w : List Nat} (h : w.length ≤ 1000000000) (hw : allud w = true) : K 77 [.s w] [.s (refl w 0)] := by
  refine body_by (f := ir_impl_reflected) rfl ?_; simp only [ir_impl_reflected]
  simp (disch := first | omega | (simp only [vl]; omega)) only [vcd]
  refine loop_up (fun i (x : Int) => -(i : Int) ≤ x ∧ x ≤ i ∧ refl w 0 = w.take i ++ refl (w.drop i) x) (fun i x => [.s w, .u, .n x, .n i, .u, .u, .u, .u]) w.length 0 ⟨by simp, by simp, by simp⟩ rfl (fun i x hi hP => ?_) (fun x hP => ?_)
  · obtain ⟨h1, h2, h3⟩ := hP
    rw [dropB hi] at h3
    simp only [refl] at h3
    have ht : w.take (i + 1) = w.take i ++ [atB w i] := by
      rw [List.take_succ_eq_append_getElem hi]; simp [atB, hi]
    have hd : allud (w.drop (i + 1)) = true := allud_drop hw
    have hl : (w.drop (i + 1)).length ≤ 1000000000 := by simp; omega
    have hl2 : (w.take (i + 1)).length = i + 1 := by simp; omega
    have fin : ∀ x, (if x = -1 then atB w i :: (w.drop (i + 1)).map swp else atB w i :: refl (w.drop (i + 1)) x) = [atB w i] ++ if x = -1 then (w.drop (i + 1)).map swp else refl (w.drop (i + 1)) x := by
      intro x; split <;> rfl
    rw [fin, ← List.append_assoc, ← ht] at h3
    by_cases hu : atB w i = 117
    · simp only [hu, if_true] at h3
      by_cases hm : x + 1 = -1
      · rw [if_pos hm] at h3
        simp (disch := first | omega | (simp only [vl]; omega)) only [vcd, sub_drop, sub_take]
        refine call_by (exchanged_ok (K := K) hl (by omega) (by omega)) rfl ?_
        simp (disch := first | omega | (simp only [vl]; omega)) only [vcd, only_allud, hd, exl_swp, sub_take, h3]
      · rw [if_neg hm] at h3
        simp (disch := first | omega | (simp only [vl]; omega)) only [vcd]
        exact ⟨x + 1, ⟨by omega, by omega, h3⟩, rfl⟩
    · simp only [hu, if_false] at h3
      by_cases hm : x - 1 = -1
      · rw [if_pos hm] at h3
        simp (disch := first | omega | (simp only [vl]; omega)) only [vcd, sub_drop, sub_take]
        refine call_by (exchanged_ok (K := K) hl (by omega) (by omega)) rfl ?_
        simp (disch := first | omega | (simp only [vl]; omega)) only [vcd, only_allud, hd, exl_swp, sub_take, h3]
      · rw [if_neg hm] at h3
        simp (disch := first | omega | (simp only [vl]; omega)) only [vcd]
        exact ⟨x - 1, ⟨by omega, by omega, h3⟩, rfl⟩
  · obtain ⟨h1, h2, h3⟩ := hP
    rw [List.drop_length] at h3
    simp [refl] at h3
    simp (disch := first | omega | (simp only [vl]; omega)) only [vcd]
    exact D1 (by rw [h3])

theorem sub_one {w : List Nat} {i : Nat} (h : i < w.length) : sub w i ((i : Int) + 1) = [atB w i] := by
  have e : ((i : Int) + 1).toNat = i + 1 := by omega
  have h2 : (w.take i).length = i := by simp; omega
  simp only [sub, e, Int.toNat_natCast, List.take_succ_eq_append_getElem h]
  rw [List.drop_append_of_le_length (by omega), List.drop_of_length_le (by omega)]
  simp [atB, h]

theorem flip_ok [Has K 76 ir_spec_l29Flip] {w : List Nat} (h : w.length ≤ 1000000000) : K 76 [.s w, .n (-1)] [.s (refl w 0)] := by
  refine body_by (f := ir_spec_l29Flip) rfl ?_; simp only [ir_spec_l29Flip]
  simp (disch := first | omega | (simp only [vl]; omega)) only [vcd]
  refine loop_up (fun i (x : Int × List Nat × Bool) => -(i : Int) ≤ x.1 ∧ x.1 ≤ i ∧ x.2.1.length = i ∧ refl w 0 = x.2.1 ++ if x.2.2 = true then (w.drop i).map swp else refl (w.drop i) x.1) (fun i x => [.s w, .n (-1), .u, .n x.1, .s x.2.1, .b x.2.2, .n i, .u, .u, .u, .u]) w.length (0, [], false) ⟨by simp, by simp, by simp, by simp⟩ rfl (fun i x hi hP => ?_) (fun x hP => ?_)
  · obtain ⟨x, o, m⟩ := x
    obtain ⟨h1, h2, h3, h4⟩ := hP
    simp only at h1 h2 h3 h4
    rw [dropB hi] at h4
    have so := sub_one hi
    cases m with
    | true =>
      simp only [if_true, List.map_cons] at h4
      by_cases hu : atB w i = 117
      · simp (disch := first | omega | (simp only [vl]; omega)) only [vcd]
        refine ⟨(x, o ++ [100], true), ⟨by simp; omega, by simp; omega, by simp; omega, ?_⟩, rfl⟩
        rw [h4, swp, if_pos hu]; simp
      · simp (disch := first | omega | (simp only [vl]; omega)) only [vcd]
        refine ⟨(x, o ++ [117], true), ⟨by simp; omega, by simp; omega, by simp; omega, ?_⟩, rfl⟩
        rw [h4, swp, if_neg hu]; simp
    | false =>
      simp only [Bool.false_eq_true, if_false, refl] at h4
      by_cases hu : atB w i = 117
      · simp only [hu, if_true] at h4
        simp (disch := first | omega | (simp only [vl]; omega)) only [vcd, so]
        refine ⟨(x + 1, o ++ [atB w i], decide (x + 1 = -1)), ⟨by simp; omega, by simp; omega, by simp; omega, ?_⟩, rfl⟩
        rw [h4, hu]; by_cases hm : x + 1 = -1 <;> simp [hm]
      · simp only [hu, if_false] at h4
        simp (disch := first | omega | (simp only [vl]; omega)) only [vcd, so]
        refine ⟨(x - 1, o ++ [atB w i], decide (x - 1 = -1)), ⟨by simp; omega, by simp; omega, by simp; omega, ?_⟩, rfl⟩
        rw [h4]; by_cases hm : x - 1 = -1 <;> simp [hm]
  · obtain ⟨x, o, m⟩ := x
    obtain ⟨h1, h2, h3, h4⟩ := hP
    simp only at h1 h2 h3 h4
    rw [List.drop_length] at h4
    simp (disch := first | omega | (simp only [vl]; omega)) only [vcd]
    refine D1 ?_
    rw [h4]; cases m <;> simp [refl]

def unrO (w : List Nat) : Bool := allud w && decide (w.length ≤ 16) && decide (cnt w 100 = cnt w 117 + 2)
def unrR (w : List Nat) : List Nat := if unrO w = true then refl w 0 else []

theorem unr_i [Has K 54 ir_impl_UnreflectWord] [Has K 65 ir_impl_areSteps] [Has K 66 ir_impl_count] [Has K 77 ir_impl_reflected] [Has K 83 ir_impl_exchanged] {w : List Nat} (h : w.length ≤ 1000000000) : K 54 [.s w] [.s (unrR w), .b (unrO w)] := by
  refine body_by (f := ir_impl_UnreflectWord) rfl ?_; simp only [ir_impl_UnreflectWord]
  have hs := steps_allud w
  have := cnt_le (w := w) (c := 117)
  by_cases hl : w.length ≤ 16 <;> simp (disch := first | omega | (simp only [vl]; omega)) only [vcd]
  · cases hw : allud w <;> rw [hw] at hs <;> by_cases hc : cnt w 100 = cnt w 117 + 2
    all_goals repeat (first | (refine call_by (areSteps_ok (K := K) h) rfl ?_; try simp (disch := first | omega | (simp only [vl]; omega)) only [vcd, hs]) | (refine call_by (count_ok (K := K) (c := 117) h) rfl ?_; try simp (disch := first | omega | (simp only [vl]; omega)) only [vcd, hs]) | (refine call_by (count_ok (K := K) (c := 100) h) rfl ?_; try simp (disch := first | omega | (simp only [vl]; omega)) only [vcd, hs]) | (refine call_by (reflected_ok (K := K) h (by assumption)) rfl ?_; try simp (disch := first | omega | (simp only [vl]; omega)) only [vcd, hs]))
    all_goals simp [unrR, unrO, hl, hw, hc]
  · simp [unrR, unrO, hl]

theorem unr_s [Has K 53 ir_spec_UnreflectWord] [Has K 63 ir_spec_l29Word] [Has K 76 ir_spec_l29Flip] {w : List Nat} (h : w.length ≤ 1000000000) : K 53 [.s w] [.s (unrR w), .b (unrO w)] := by
  refine body_by (f := ir_spec_UnreflectWord) rfl ?_; simp only [ir_spec_UnreflectWord]
  have := cnt_le (w := w) (c := 117)
  simp (disch := first | omega | (simp only [vl]; omega)) only [vcd]
  cases hw : allud w <;> by_cases hl : w.length ≤ 16 <;> by_cases hc : cnt w 100 = cnt w 117 + 2
  all_goals repeat (first | (refine call_by (l29Word_ok (K := K) h) rfl ?_; try simp (disch := first | omega | (simp only [vl]; omega)) only [vcd, hw, hl]) | (refine call_by (flip_ok (K := K) h) rfl ?_; try simp (disch := first | omega | (simp only [vl]; omega)) only [vcd, hw, hl]))
  all_goals simp [unrR, unrO, hl, hw, hc]

theorem unr_law [Has K 34 ir_laws_FnExactUnreflectWord] [Has K 53 ir_spec_UnreflectWord] [Has K 54 ir_impl_UnreflectWord] [Has K 63 ir_spec_l29Word] [Has K 65 ir_impl_areSteps] [Has K 66 ir_impl_count] [Has K 76 ir_spec_l29Flip] [Has K 77 ir_impl_reflected] [Has K 83 ir_impl_exchanged] (w : List Nat) : K 34 [.s w] [.b true] := by
  refine body_by (f := ir_laws_FnExactUnreflectWord) rfl ?_; simp only [ir_laws_FnExactUnreflectWord]
  by_cases h : w.length ≤ 1048576 <;> simp (disch := first | omega | (simp only [vl]; omega)) only [vcd]
  repeat (first | (refine call_by (unr_s (K := K) (by omega)) rfl ?_; try simp (disch := first | omega | (simp only [vl]; omega)) only [vcd]) | (refine call_by (unr_i (K := K) (by omega)) rfl ?_; try simp (disch := first | omega | (simp only [vl]; omega)) only [vcd]))
end Go.Cat

