/-
  Words in a circle.
-/
import Derived.Test.YtfjkbocblpjpjaaPfRefl
import Derived.Test.YtfjkbocblpjpjaaIrAllA
namespace Go.Cat
variable {K : Nat → List D → List D → Prop}

def rot (w : List Nat) (k : Nat) : List Nat := w.drop k ++ w.take k
theorem rot_len {w : List Nat} {k : Nat} (h : k ≤ w.length) : (rot w k).length = w.length := by simp [rot]; omega
theorem sub_fromB {w : List Nat} {k : Nat} : sub w k w.length = w.drop k := by simp [sub]
theorem sub_toB {w : List Nat} {k : Nat} : sub w 0 k = w.take k := by simp [sub]

/-- A path, and one d more. -/
def goodW (s : List Nat) : Bool := decide (atB s ((s.length : Int) - 1) = 100) && dyck (sub s 0 ((s.length : Int) - 1))
def goodF (w : List Nat) (k : Nat) : Bool := goodW (rot w k)
def balF (w : List Nat) : Bool := decide (w.length ≤ 17) && allud w && decide (cnt w 100 = cnt w 117 + 1)
theorem balF_pos {w : List Nat} (h : balF w = true) : 0 < w.length ∧ w.length ≤ 17 := by
  simp only [balF, Bool.and_eq_true, decide_eq_true_eq] at h
  have := cnt_le (w := w) (c := 100)
  omega

theorem good_i [Has K 67 ir_impl_IsDyck] [Has K 82 ir_impl_heights] [Has K 177 ir_impl_good] {w : List Nat} {k : Nat} (h : w.length ≤ 1000000000) (h0 : 0 < w.length) (hk : k < w.length) : K 177 [.s w, .n k] [.b (goodF w k)] := by
  refine body_by (f := ir_impl_good) rfl ?_; simp only [ir_impl_good]
  have hl := rot_len (w := w) (k := k) (by omega)
  have e0 : w.drop k ++ w.take k = rot w k := rfl
  have hs : (sub (rot w k) 0 ((w.length : Int) - 1)).length ≤ 1000000000 := by simp only [vl]; omega
  have e1 : (((rot w k).length : Nat) : Int) = w.length := by omega
  by_cases hc : atB (rot w k) ((w.length : Int) - 1) = 100
  · have hc2 : atB (w.drop k ++ w.take k) (((w.drop k ++ w.take k).length : Int) - 1) = 100 := by rw [e0, hl]; exact hc
    simp (disch := first | omega | (simp only [vl]; omega)) only [vcd, sub_fromB, sub_toB]
    simp (disch := first | omega | (simp only [vl]; omega)) only [vcd, e0, e1]
    repeat (first | (refine call_by (dyck_i (K := K) hs) rfl ?_; try simp (disch := first | omega | (simp only [vl]; omega)) only [vcd]))
    simp [goodF, goodW, hc, hl]
  · have hc2 : ¬ atB (w.drop k ++ w.take k) (((w.drop k ++ w.take k).length : Int) - 1) = 100 := by rw [e0, hl]; exact hc
    simp (disch := first | omega | (simp only [vl]; omega)) only [vcd, sub_fromB, sub_toB]
    simp [goodF, goodW, hc, hl]

theorem good_s [Has K 64 ir_spec_IsDyck] [Has K 175 ir_spec_l28Good] {s : List Nat} (h : s.length ≤ 1000000000) (h0 : 0 < s.length) : K 175 [.s s] [.b (goodW s)] := by
  refine body_by (f := ir_spec_l28Good) rfl ?_; simp only [ir_spec_l28Good]
  have hs : (sub s 0 ((s.length : Int) - 1)).length ≤ 1000000000 := by simp only [vl]; omega
  simp (disch := first | omega | (simp only [vl]; omega)) only [vcd]
  cases hd : dyck (sub s 0 ((s.length : Int) - 1))
  · repeat (first | (refine call_by (dyck_s (K := K) hs) rfl ?_; try simp (disch := first | omega | (simp only [vl]; omega)) only [vcd, hd]))
    simp [goodW, hd]
  · repeat (first | (refine call_by (dyck_s (K := K) hs) rfl ?_; try simp (disch := first | omega | (simp only [vl]; omega)) only [vcd, hd]))
    refine Db ?_
    simp only [goodW, hd, Bool.and_true]
    congr 1
    apply propext
    omega

theorem bal_i [Has K 65 ir_impl_areSteps] [Has K 66 ir_impl_count] [Has K 176 ir_impl_IsBalanced] {w : List Nat} (h : w.length ≤ 1000000000) : K 176 [.s w] [.b (balF w)] := by
  refine body_by (f := ir_impl_IsBalanced) rfl ?_; simp only [ir_impl_IsBalanced]
  have hs := steps_allud w
  have := cnt_le (w := w) (c := 117)
  by_cases hl : w.length ≤ 17 <;> simp (disch := first | omega | (simp only [vl]; omega)) only [vcd]
  · cases hw : allud w <;> rw [hw] at hs <;> by_cases hc : cnt w 100 = cnt w 117 + 1
    all_goals repeat (first | (refine call_by (areSteps_ok (K := K) h) rfl ?_; try simp (disch := first | omega | (simp only [vl]; omega)) only [vcd, hs]) | (refine call_by (count_ok (K := K) (c := 117) h) rfl ?_; try simp (disch := first | omega | (simp only [vl]; omega)) only [vcd, hs]) | (refine call_by (count_ok (K := K) (c := 100) h) rfl ?_; try simp (disch := first | omega | (simp only [vl]; omega)) only [vcd, hs]))
    all_goals simp [balF, hl, hw, hc]
  · simp [balF, hl]

theorem bal_s [Has K 174 ir_spec_IsBalanced] {w : List Nat} (h : w.length ≤ 1000000000) : K 174 [.s w] [.b (balF w)] := by
  refine body_by (f := ir_spec_IsBalanced) rfl ?_; simp only [ir_spec_IsBalanced]
  simp (disch := first | omega | (simp only [vl]; omega)) only [vcd]
  refine loop_up (fun i (x : Int) => (-(i : Int) ≤ x ∧ x ≤ i) ∧ x + cnt (w.drop i) 117 - cnt (w.drop i) 100 = (cnt w 117 : Int) - cnt w 100 ∧ allud w = allud (w.drop i)) (fun i x => [.s w, .u, .n x, .n i, .u, .u, .u, .u]) w.length 0 ⟨by simp, by simp, by simp⟩ rfl (fun i x hi hP => ?_) (fun x hP => ?_)
  · obtain ⟨h1, h3, h5⟩ := hP
    rw [dropB hi, cnt_cons, cnt_cons] at h3
    rw [dropB hi, allud_cons] at h5
    by_cases hu : atB w i = 117
    · rw [hu] at h3 h5
      simp at h3 h5
      simp (disch := first | omega | (simp only [vl]; omega)) only [vcd]
      exact ⟨x + 1, ⟨by omega, by omega, h5⟩, rfl⟩
    · by_cases hd : atB w i = 100
      · rw [hd] at h3 h5
        simp at h3 h5
        simp (disch := first | omega | (simp only [vl]; omega)) only [vcd]
        exact ⟨x - 1, ⟨by omega, by omega, h5⟩, rfl⟩
      · simp [hu, hd] at h5
        simp (disch := first | omega | (simp only [vl]; omega)) only [vcd]
        simp [balF, h5]
  · obtain ⟨h1, h3, h5⟩ := hP
    rw [List.drop_length] at h3 h5
    simp only [cnt, List.count_nil] at h3
    have h6 : allud w = true := by rw [h5]; rfl
    by_cases hx : x = -1
    · simp (disch := first | omega | (simp only [vl]; omega)) only [vcd]
      have : List.count 100 w = List.count 117 w + 1 := by omega
      refine Db ?_
      simp only [balF, h6, cnt, this, decide_true, Bool.and_true]
      congr 1; apply propext; omega
    · simp (disch := first | omega | (simp only [vl]; omega)) only [vcd]
      have : ¬ List.count 100 w = List.count 117 w + 1 := by omega
      simp [balF, cnt, this]

/-- The first good shift. -/
def fsF (w : List Nat) : Option Nat := if balF w = true then (List.range w.length).find? (goodF w) else none
theorem fs_no {w : List Nat} (h : ∀ j : Nat, j < w.length → goodF w j = false) : fsF w = none := by
  unfold fsF
  split
  · rw [List.find?_eq_none]
    intro j hj
    rw [h j (by simpa using hj)]; simp
  · rfl
theorem fs_yes {w : List Nat} {k : Nat} (hb : balF w = true) (h : ∀ j : Nat, j < k → goodF w j = false) (hk : k < w.length) (hg : goodF w k = true) : fsF w = some k := by
  unfold fsF
  rw [if_pos hb, List.find?_range_eq_some]
  refine ⟨hg, by simpa using hk, fun j hj => ?_⟩
  rw [h j hj]; rfl
def gsK (w : List Nat) : Int := ((fsF w).getD 0 : Nat)
def gsO (w : List Nat) : Bool := (fsF w).isSome
theorem gs_lt {w : List Nat} : gsO w = true → ∃ k : Nat, gsK w = k ∧ k < w.length := by
  intro h
  obtain ⟨k, hk⟩ := Option.isSome_iff_exists.1 h
  refine ⟨k, by simp [gsK, hk], ?_⟩
  unfold fsF at hk
  split at hk
  · have := List.mem_of_find?_eq_some hk
    simpa using this
  · cases hk

theorem gs_i [Has K 65 ir_impl_areSteps] [Has K 66 ir_impl_count] [Has K 67 ir_impl_IsDyck] [Has K 82 ir_impl_heights] [Has K 129 ir_impl_GoodShift] [Has K 176 ir_impl_IsBalanced] [Has K 177 ir_impl_good] {w : List Nat} (h : w.length ≤ 1000000000) : K 129 [.s w] [.n (gsK w), .b (gsO w)] := by
  refine body_by (f := ir_impl_GoodShift) rfl ?_; simp only [ir_impl_GoodShift]
  simp (disch := first | omega | (simp only [vl]; omega)) only [vcd]
  cases hb : balF w
  · repeat (first | (refine call_by (bal_i (K := K) h) rfl ?_; try simp (disch := first | omega | (simp only [vl]; omega)) only [vcd, hb]))
    simp [gsK, gsO, fsF, hb]
  · have hl := balF_pos hb
    repeat (first | (refine call_by (bal_i (K := K) h) rfl ?_; try simp (disch := first | omega | (simp only [vl]; omega)) only [vcd, hb]))
    refine loop_ix (fun i => ∀ j : Nat, j < i → goodF w j = false) (fun i => [.s w, .u, .u, .u, .u, .n w.length, .n i, .u, .u]) w.length (by simp) rfl (fun i hi hP => ?_) (fun hP => ?_)
    · cases hg : goodF w i
      · simp (disch := first | omega | (simp only [vl]; omega)) only [vcd]
        repeat (first | (refine call_by (good_i (K := K) h (by omega) hi) rfl ?_; try simp (disch := first | omega | (simp only [vl]; omega)) only [vcd, hg]))
        exact all_s hP hg
      · simp (disch := first | omega | (simp only [vl]; omega)) only [vcd]
        repeat (first | (refine call_by (good_i (K := K) h (by omega) hi) rfl ?_; try simp (disch := first | omega | (simp only [vl]; omega)) only [vcd, hg]))
        simp [gsK, gsO, fs_yes hb hP hi hg]
    · simp (disch := first | omega | (simp only [vl]; omega)) only [vcd]
      simp [gsK, gsO, fs_no hP]

theorem gs_s [Has K 64 ir_spec_IsDyck] [Has K 128 ir_spec_GoodShift] [Has K 174 ir_spec_IsBalanced] [Has K 175 ir_spec_l28Good] {w : List Nat} (h : w.length ≤ 1000000000) : K 128 [.s w] [.n (gsK w), .b (gsO w)] := by
  refine body_by (f := ir_spec_GoodShift) rfl ?_; simp only [ir_spec_GoodShift]
  simp (disch := first | omega | (simp only [vl]; omega)) only [vcd]
  cases hb : balF w
  · refine loop_ix (fun i => i = 0) (fun i => [.s w, .u, .u, .n i, .u, .u]) w.length rfl rfl (fun i hi hP => ?_) (fun hP => ?_)
    · simp (disch := first | omega | (simp only [vl]; omega)) only [vcd]
      repeat (first | (refine call_by (bal_s (K := K) h) rfl ?_; try simp (disch := first | omega | (simp only [vl]; omega)) only [vcd, hb]))
      simp [gsK, gsO, fsF, hb]
    · simp (disch := first | omega | (simp only [vl]; omega)) only [vcd]
      simp [gsK, gsO, fsF, hb]
  · have hl := balF_pos hb
    refine loop_ix (fun i => ∀ j : Nat, j < i → goodF w j = false) (fun i => [.s w, .u, .u, .n i, .u, .u]) w.length (by simp) rfl (fun i hi hP => ?_) (fun hP => ?_)
    · have hr : (rot w i).length ≤ 1000000000 := by rw [rot_len (by omega)]; omega
      have hr0 : 0 < (rot w i).length := by rw [rot_len (by omega)]; omega
      have e0 : w.drop i ++ w.take i = rot w i := rfl
      cases hg : goodF w i
      · have hg2 : goodW (rot w i) = false := hg
        simp (disch := first | omega | (simp only [vl]; omega)) only [vcd]
        repeat (first | (refine call_by (bal_s (K := K) h) rfl ?_; try simp (disch := first | omega | (simp only [vl]; omega)) only [vcd, hb, hg2, sub_fromB, sub_toB, e0]) | (refine call_by (good_s (K := K) hr hr0) rfl ?_; try simp (disch := first | omega | (simp only [vl]; omega)) only [vcd, hb, hg2, sub_fromB, sub_toB, e0]))
        exact all_s hP hg
      · have hg2 : goodW (rot w i) = true := hg
        simp (disch := first | omega | (simp only [vl]; omega)) only [vcd]
        repeat (first | (refine call_by (bal_s (K := K) h) rfl ?_; try simp (disch := first | omega | (simp only [vl]; omega)) only [vcd, hb, hg2, sub_fromB, sub_toB, e0]) | (refine call_by (good_s (K := K) hr hr0) rfl ?_; try simp (disch := first | omega | (simp only [vl]; omega)) only [vcd, hb, hg2, sub_fromB, sub_toB, e0]))
        simp [gsK, gsO, fs_yes hb hP hi hg]
    · simp (disch := first | omega | (simp only [vl]; omega)) only [vcd]
      simp [gsK, gsO, fs_no hP]

def dcR (w : List Nat) : List Nat := if gsO w = true then sub (rot w (gsK w).toNat) 0 ((w.length : Int) - 1) else []

theorem dc_i [Has K 65 ir_impl_areSteps] [Has K 66 ir_impl_count] [Has K 67 ir_impl_IsDyck] [Has K 82 ir_impl_heights] [Has K 100 ir_impl_DyckOfCircle] [Has K 129 ir_impl_GoodShift] [Has K 176 ir_impl_IsBalanced] [Has K 177 ir_impl_good] {w : List Nat} (h : w.length ≤ 1000000000) : K 100 [.s w] [.s (dcR w), .b (gsO w)] := by
  refine body_by (f := ir_impl_DyckOfCircle) rfl ?_; simp only [ir_impl_DyckOfCircle]
  simp (disch := first | omega | (simp only [vl]; omega)) only [vcd]
  cases ho : gsO w
  · repeat (first | (refine call_by (gs_i (K := K) h) rfl ?_; try simp (disch := first | omega | (simp only [vl]; omega)) only [vcd, ho]))
    simp [dcR, ho]
  · obtain ⟨k, hk, hkl⟩ := gs_lt ho
    have e0 : w.drop k ++ w.take k = rot w k := rfl
    have e1 : (((rot w k).length : Nat) : Int) = w.length := by rw [rot_len (by omega)]
    repeat (first | (refine call_by (gs_i (K := K) h) rfl ?_; try simp (disch := first | omega | (simp only [vl]; omega)) only [vcd, ho, hk, sub_fromB, sub_toB, e0, e1]))
    simp [dcR, ho, hk]

theorem dc_s [Has K 64 ir_spec_IsDyck] [Has K 99 ir_spec_DyckOfCircle] [Has K 128 ir_spec_GoodShift] [Has K 174 ir_spec_IsBalanced] [Has K 175 ir_spec_l28Good] {w : List Nat} (h : w.length ≤ 1000000000) : K 99 [.s w] [.s (dcR w), .b (gsO w)] := by
  refine body_by (f := ir_spec_DyckOfCircle) rfl ?_; simp only [ir_spec_DyckOfCircle]
  simp (disch := first | omega | (simp only [vl]; omega)) only [vcd]
  cases ho : gsO w
  · repeat (first | (refine call_by (gs_s (K := K) h) rfl ?_; try simp (disch := first | omega | (simp only [vl]; omega)) only [vcd, ho]))
    simp [dcR, ho]
  · obtain ⟨k, hk, hkl⟩ := gs_lt ho
    have e0 : w.drop k ++ w.take k = rot w k := rfl
    have e1 : (((rot w k).length : Nat) : Int) = w.length := by rw [rot_len (by omega)]
    repeat (first | (refine call_by (gs_s (K := K) h) rfl ?_; try simp (disch := first | omega | (simp only [vl]; omega)) only [vcd, ho, hk, sub_fromB, sub_toB, e0, e1]))
    simp [dcR, ho, hk]

theorem dc_law [Has K 64 ir_spec_IsDyck] [Has K 65 ir_impl_areSteps] [Has K 66 ir_impl_count] [Has K 67 ir_impl_IsDyck] [Has K 82 ir_impl_heights] [Has K 86 ir_laws_FnExactDyckOfCircle] [Has K 99 ir_spec_DyckOfCircle] [Has K 100 ir_impl_DyckOfCircle] [Has K 128 ir_spec_GoodShift] [Has K 129 ir_impl_GoodShift] [Has K 174 ir_spec_IsBalanced] [Has K 175 ir_spec_l28Good] [Has K 176 ir_impl_IsBalanced] [Has K 177 ir_impl_good] (w : List Nat) : K 86 [.s w] [.b true] := by
  refine body_by (f := ir_laws_FnExactDyckOfCircle) rfl ?_; simp only [ir_laws_FnExactDyckOfCircle]
  by_cases h : w.length ≤ 1048576 <;> simp (disch := first | omega | (simp only [vl]; omega)) only [vcd]
  repeat (first | (refine call_by (dc_s (K := K) (by omega)) rfl ?_; try simp (disch := first | omega | (simp only [vl]; omega)) only [vcd]) | (refine call_by (dc_i (K := K) (by omega)) rfl ?_; try simp (disch := first | omega | (simp only [vl]; omega)) only [vcd]))
end Go.Cat

