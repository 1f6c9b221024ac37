/-
  Words of Motzkin.
-/
import Derived.Test.YtfjkbocblpjpjaaPfPath
import Derived.Test.YtfjkbocblpjpjaaIrAllA
namespace Go.Cat
variable {K : Nat → List D → List D → Prop}

/-- The height at the end, if none is below 0. -/
def walkM : List Nat → Int → Option Int
  | [], h => some h
  | c :: w, h => if c = 117 then walkM w (h + 1) else if c = 100 then (if h - 1 < 0 then none else walkM w (h - 1)) else if c = 108 then walkM w h else none
def motz (w : List Nat) : Bool := decide (walkM w 0 = some 0) && decide (w.length ≤ 12)

theorem rises_ok [Has K 311 ir_impl_rises] {w : List Nat} (h : w.length ≤ 1000000000) : K 311 [.s w] [.b (decide (walkM w 0 = some 0))] := by
  refine body_by (f := ir_impl_rises) rfl ?_; simp only [ir_impl_rises]
  simp (disch := first | omega | (simp only [vl]; omega)) only [vcd]
  refine loop_up (fun i (x : Int) => (0 ≤ x ∧ x ≤ i) ∧ walkM w 0 = walkM (w.drop i) x) (fun i x => [.s w, .u, .n x, .n i, .u, .u, .u, .u, .u, .u]) w.length 0 ⟨by simp, by simp⟩ rfl (fun i x hi hP => ?_) (fun x hP => ?_)
  · obtain ⟨h1, h2⟩ := hP
    rw [dropB hi] at h2
    simp only [walkM] at h2
    by_cases c1 : atB w i = 117
    · rw [if_pos c1] at h2
      simp (disch := first | omega | (simp only [vl]; omega)) only [vcd]
      exact ⟨x + 1, ⟨by omega, h2⟩, rfl⟩
    · rw [if_neg c1] at h2
      by_cases c2 : atB w i = 100
      · rw [if_pos c2] at h2
        by_cases c3 : x - 1 < 0
        · rw [if_pos c3] at h2
          simp (disch := first | omega | (simp only [vl]; omega)) only [vcd]
          simp [h2]
        · rw [if_neg c3] at h2
          simp (disch := first | omega | (simp only [vl]; omega)) only [vcd]
          exact ⟨x - 1, ⟨by omega, h2⟩, rfl⟩
      · rw [if_neg c2] at h2
        by_cases c3 : atB w i = 108
        · rw [if_pos c3] at h2
          simp (disch := first | omega | (simp only [vl]; omega)) only [vcd]
          exact ⟨x, ⟨by omega, h2⟩, rfl⟩
        · rw [if_neg c3] at h2
          simp (disch := first | omega | (simp only [vl]; omega)) only [vcd]
          simp [h2]
  · obtain ⟨h1, h2⟩ := hP
    rw [List.drop_length] at h2
    simp only [walkM] at h2
    simp (disch := first | omega | (simp only [vl]; omega)) only [vcd]
    simp [h2]

theorem motz_i [Has K 257 ir_impl_IsMotzkin] [Has K 311 ir_impl_rises] {w : List Nat} (h : w.length ≤ 1000000000) : K 257 [.s w] [.b (motz w)] := by
  refine body_by (f := ir_impl_IsMotzkin) rfl ?_; simp only [ir_impl_IsMotzkin]
  by_cases hl : w.length ≤ 12
  · simp (disch := first | omega | (simp only [vl]; omega)) only [vcd]
    repeat (first | (refine call_by (rises_ok (K := K) h) rfl ?_; try simp (disch := first | omega | (simp only [vl]; omega)) only [vcd]))
    simp [motz, hl]
  · simp (disch := first | omega | (simp only [vl]; omega)) only [vcd]
    simp [motz, hl]

theorem motz_s [Has K 266 ir_spec_IsMotzkin] {w : List Nat} (h : w.length ≤ 1000000000) : K 266 [.s w] [.b (motz w)] := by
  refine body_by (f := ir_spec_IsMotzkin) rfl ?_; simp only [ir_spec_IsMotzkin]
  simp (disch := first | omega | (simp only [vl]; omega)) only [vcd]
  refine loop_up (fun i (x : Int) => (0 ≤ x ∧ x ≤ i) ∧ walkM w 0 = walkM (w.drop i) x) (fun i x => [.s w, .u, .n x, .n i, .u, .u, .u, .u, .u, .u]) w.length 0 ⟨by simp, by simp⟩ rfl (fun i x hi hP => ?_) (fun x hP => ?_)
  · obtain ⟨h1, h2⟩ := hP
    rw [dropB hi] at h2
    simp only [walkM] at h2
    by_cases c1 : atB w i = 117
    · rw [if_pos c1] at h2
      simp (disch := first | omega | (simp only [vl]; omega)) only [vcd]
      exact ⟨x + 1, ⟨by omega, h2⟩, rfl⟩
    · rw [if_neg c1] at h2
      by_cases c2 : atB w i = 100
      · rw [if_pos c2] at h2
        by_cases c3 : x - 1 < 0
        · rw [if_pos c3] at h2
          simp (disch := first | omega | (simp only [vl]; omega)) only [vcd]
          simp [motz, h2]
        · rw [if_neg c3] at h2
          simp (disch := first | omega | (simp only [vl]; omega)) only [vcd]
          exact ⟨x - 1, ⟨by omega, h2⟩, rfl⟩
      · rw [if_neg c2] at h2
        by_cases c3 : atB w i = 108
        · rw [if_pos c3] at h2
          simp (disch := first | omega | (simp only [vl]; omega)) only [vcd]
          exact ⟨x, ⟨by omega, h2⟩, rfl⟩
        · rw [if_neg c3] at h2
          simp (disch := first | omega | (simp only [vl]; omega)) only [vcd]
          simp [motz, h2]
  · obtain ⟨h1, h2⟩ := hP
    rw [List.drop_length] at h2
    simp only [walkM] at h2
    by_cases h0 : x = 0
    · simp (disch := first | omega | (simp only [vl]; omega)) only [vcd]
      simp [motz, h2, h0]
      omega
    · simp (disch := first | omega | (simp only [vl]; omega)) only [vcd]
      simp [motz, h2, h0]

/-- Each step doubled. -/
def dbl (c : Nat) : List Nat := if c = 117 then [117, 117] else if c = 100 then [100, 100] else [117, 100]
def dmO (w : List Nat) : Bool := motz w && decide (w.length ≤ 8)
def dmR (w : List Nat) : List Nat := if dmO w = true then w.flatMap dbl else []

theorem dm_i [Has K 257 ir_impl_IsMotzkin] [Has K 259 ir_impl_DyckOfMotzkin] [Has K 311 ir_impl_rises] {w : List Nat} (h : w.length ≤ 1000000000) : K 259 [.s w] [.s (dmR w), .b (dmO w)] := by
  refine body_by (f := ir_impl_DyckOfMotzkin) rfl ?_; simp only [ir_impl_DyckOfMotzkin]
  simp (disch := first | omega | (simp only [vl]; omega)) only [vcd]
  refine call_by (motz_i (K := K) h) rfl ?_
  cases hm : motz w
  · simp (disch := first | omega | (simp only [vl]; omega)) only [vcd]
    simp [dmR, dmO, hm]
  · by_cases hl : w.length ≤ 8
    · simp (disch := first | omega | (simp only [vl]; omega)) only [vcd]
      refine loop_up (fun i (x : List Nat) => x.length = 2 * i ∧ w.flatMap dbl = x ++ (w.drop i).flatMap dbl) (fun i x => [.s w, .u, .u, .s x, .n i, .u, .u, .u, .u, .u]) w.length [] ⟨rfl, by simp⟩ rfl (fun i x hi hP => ?_) (fun x hP => ?_)
      · obtain ⟨h1, h2⟩ := hP
        rw [dropB hi, List.flatMap_cons, dbl] at h2
        by_cases c1 : atB w i = 117
        · rw [if_pos c1] at h2
          simp (disch := first | omega | (simp only [vl]; omega)) only [vcd]
          exact ⟨x ++ [117, 117], ⟨by simp; omega, by rw [h2]; simp⟩, rfl⟩
        · rw [if_neg c1] at h2
          by_cases c2 : atB w i = 100
          · rw [if_pos c2] at h2
            simp (disch := first | omega | (simp only [vl]; omega)) only [vcd]
            exact ⟨x ++ [100, 100], ⟨by simp; omega, by rw [h2]; simp⟩, rfl⟩
          · rw [if_neg c2] at h2
            simp (disch := first | omega | (simp only [vl]; omega)) only [vcd]
            exact ⟨x ++ [117, 100], ⟨by simp; omega, by rw [h2]; simp⟩, rfl⟩
      · obtain ⟨h1, h2⟩ := hP
        rw [List.drop_length] at h2
        simp at h2
        simp (disch := first | omega | (simp only [vl]; omega)) only [vcd]
        simp [dmR, dmO, hm, hl, h2]
    · simp (disch := first | omega | (simp only [vl]; omega)) only [vcd]
      simp [dmR, dmO, hm, hl]

theorem dm_s [Has K 260 ir_spec_DyckOfMotzkin] [Has K 266 ir_spec_IsMotzkin] {w : List Nat} (h : w.length ≤ 1000000000) : K 260 [.s w] [.s (dmR w), .b (dmO w)] := by
  refine body_by (f := ir_spec_DyckOfMotzkin) rfl ?_; simp only [ir_spec_DyckOfMotzkin]
  simp (disch := first | omega | (simp only [vl]; omega)) only [vcd]
  refine call_by (motz_s (K := K) h) rfl ?_
  cases hm : motz w
  · simp (disch := first | omega | (simp only [vl]; omega)) only [vcd]
    simp [dmR, dmO, hm]
  · by_cases hl : w.length ≤ 8
    · simp (disch := first | omega | (simp only [vl]; omega)) only [vcd]
      refine loop_up (fun i (x : List Nat) => x.length = 2 * i ∧ w.flatMap dbl = x ++ (w.drop i).flatMap dbl) (fun i x => [.s w, .u, .u, .s x, .n i, .u, .u, .u, .u, .u]) w.length [] ⟨rfl, by simp⟩ rfl (fun i x hi hP => ?_) (fun x hP => ?_)
      · obtain ⟨h1, h2⟩ := hP
        rw [dropB hi, List.flatMap_cons, dbl] at h2
        by_cases c1 : atB w i = 117
        · rw [if_pos c1] at h2
          simp (disch := first | omega | (simp only [vl]; omega)) only [vcd]
          exact ⟨x ++ [117, 117], ⟨by simp; omega, by rw [h2]; simp⟩, rfl⟩
        · rw [if_neg c1] at h2
          by_cases c2 : atB w i = 100
          · rw [if_pos c2] at h2
            simp (disch := first | omega | (simp only [vl]; omega)) only [vcd]
            exact ⟨x ++ [100, 100], ⟨by simp; omega, by rw [h2]; simp⟩, rfl⟩
          · rw [if_neg c2] at h2
            simp (disch := first | omega | (simp only [vl]; omega)) only [vcd]
            exact ⟨x ++ [117, 100], ⟨by simp; omega, by rw [h2]; simp⟩, rfl⟩
      · obtain ⟨h1, h2⟩ := hP
        rw [List.drop_length] at h2
        simp at h2
        simp (disch := first | omega | (simp only [vl]; omega)) only [vcd]
        simp [dmR, dmO, hm, hl, h2]
    · simp (disch := first | omega | (simp only [vl]; omega)) only [vcd]
      simp [dmR, dmO, hm, hl]

def lvS (w : List Nat) : Int := if motz w = true then (cnt w 108 : Int) else -1
theorem lv_i [Has K 66 ir_impl_count] [Has K 257 ir_impl_IsMotzkin] [Has K 268 ir_impl_LevelSteps] [Has K 311 ir_impl_rises] {w : List Nat} (h : w.length ≤ 1000000000) : K 268 [.s w] [.n (lvS w)] := by
  refine body_by (f := ir_impl_LevelSteps) rfl ?_; simp only [ir_impl_LevelSteps]
  simp (disch := first | omega | (simp only [vl]; omega)) only [vcd]
  cases hm : motz w
  · repeat (first | (refine call_by (motz_i (K := K) h) rfl ?_; try simp (disch := first | omega | (simp only [vl]; omega)) only [vcd, hm]))
    simp [lvS, hm]
  · repeat (first | (refine call_by (motz_i (K := K) h) rfl ?_; try simp (disch := first | omega | (simp only [vl]; omega)) only [vcd, hm]) | (refine call_by (count_ok (K := K) (c := 108) h) rfl ?_; try simp (disch := first | omega | (simp only [vl]; omega)) only [vcd, hm]))
    simp [lvS, hm]
theorem lv_s [Has K 266 ir_spec_IsMotzkin] [Has K 269 ir_spec_LevelSteps] {w : List Nat} (h : w.length ≤ 1000000000) : K 269 [.s w] [.n (lvS w)] := by
  refine body_by (f := ir_spec_LevelSteps) rfl ?_; simp only [ir_spec_LevelSteps]
  simp (disch := first | omega | (simp only [vl]; omega)) only [vcd]
  refine call_by (motz_s (K := K) h) rfl ?_
  cases hm : motz w
  · simp (disch := first | omega | (simp only [vl]; omega)) only [vcd]
    simp [lvS, hm]
  · simp (disch := first | omega | (simp only [vl]; omega)) only [vcd]
    refine loop_up (fun i (x : Int) => (0 ≤ x ∧ x ≤ i) ∧ x + cnt (w.drop i) 108 = cnt w 108) (fun i x => [.s w, .u, .n x, .n i, .u, .u, .u]) w.length 0 ⟨by simp, by simp⟩ rfl (fun i x hi hP => ?_) (fun x hP => ?_)
    · obtain ⟨h1, h2⟩ := hP
      rw [dropB hi, cnt_cons] at h2
      by_cases c1 : atB w i = 108
      · rw [if_pos c1] at h2
        simp (disch := first | omega | (simp only [vl]; omega)) only [vcd]
        exact ⟨x + 1, ⟨by omega, by omega⟩, rfl⟩
      · rw [if_neg c1] at h2
        simp (disch := first | omega | (simp only [vl]; omega)) only [vcd]
        exact ⟨x, ⟨by omega, by omega⟩, rfl⟩
    · obtain ⟨h1, h2⟩ := hP
      rw [List.drop_length] at h2
      simp [cnt] at h2
      simp (disch := first | omega | (simp only [vl]; omega)) only [vcd]
      simp [lvS, hm, cnt, h2]
theorem walkH_par : ∀ {w : List Nat} {h k : Int}, walkH w h = some k → ∃ q : Int, k + w.length = h + 2 * q
  | [], h, k, e => by simp only [walkH, Option.some.injEq] at e; exact ⟨0, by simp; omega⟩
  | c :: w, h, k, e => by
    simp only [walkH] at e
    simp only [List.length_cons]
    split at e
    · obtain ⟨q, hq⟩ := walkH_par e; exact ⟨q + 1, by omega⟩
    · split at e
      · split at e
        · cases e
        · obtain ⟨q, hq⟩ := walkH_par e; exact ⟨q, by omega⟩
      · cases e
theorem dyck_even {w : List Nat} (h : dyck w = true) : w.length % 2 = 0 := by
  simp only [dyck, Bool.and_eq_true, decide_eq_true_eq] at h
  obtain ⟨q, hq⟩ := walkH_par h.1
  omega
theorem sub_two {w : List Nat} {i : Nat} (h : i + 1 < w.length) : sub w i ((i : Int) + 2) = [atB w i, atB w ((i : Int) + 1)] := by
  have e : ((i : Int) + 2).toNat = i + 2 := by omega
  have e1 : ((i : Int) + 1) = ((i + 1 : Nat) : Int) := by omega
  have h2 : (w.take i).length = i := by simp; omega
  simp only [sub, e, Int.toNat_natCast]
  rw [List.take_succ_eq_append_getElem h, List.take_succ_eq_append_getElem (show i < w.length by omega), List.append_assoc]
  rw [List.drop_append_of_le_length (by omega), List.drop_of_length_le (by omega), e1]
  have : i < w.length := by omega
  simp [atB, h, this]

/-- Pairs of letters read. -/
def moF : List Nat → Option (List Nat)
  | a :: b :: w => if a = 117 ∧ b = 117 then (moF w).map (117 :: ·) else if a = 100 ∧ b = 100 then (moF w).map (100 :: ·) else if a = 117 ∧ b = 100 then (moF w).map (108 :: ·) else none
  | _ => some []
def moO (w : List Nat) : Bool := dyck w && (moF w).isSome
def moR (w : List Nat) : List Nat := if dyck w = true then (moF w).getD [] else []

theorem mo_i [Has K 67 ir_impl_IsDyck] [Has K 82 ir_impl_heights] [Has K 261 ir_impl_MotzkinOf] {w : List Nat} (h : w.length ≤ 1000000000) : K 261 [.s w] [.s (moR w), .b (moO w)] := by
  refine body_by (f := ir_impl_MotzkinOf) rfl ?_; simp only [ir_impl_MotzkinOf]
  simp (disch := first | omega | (simp only [vl]; omega)) only [vcd]
  refine call_by (dyck_i (K := K) h) rfl ?_
  cases hd : dyck w
  · simp (disch := first | omega | (simp only [vl]; omega)) only [vcd]
    simp [moR, moO, hd]
  · have hpar := dyck_even hd
    simp (disch := first | omega | (simp only [vl]; omega)) only [vcd]
    refine loop_wh (fun (q : Nat × List Nat) => (q.1 % 2 = 0 ∧ q.1 ≤ w.length ∧ 2 * q.2.length = q.1) ∧ moF w = (moF (w.drop q.1)).map (q.2 ++ ·)) (fun q => [.s w, .u, .u, .s q.2, .n q.1, .u, .u, .u, .u, .u, .u]) (fun q => w.length - q.1) (0, []) ⟨⟨rfl, by simp, rfl⟩, by show moF w = (moF w).map ([] ++ ·); cases moF w <;> rfl⟩ rfl ?_
    rintro ⟨j, x⟩ ⟨⟨a1, a2, a3⟩, a4⟩
    simp only at a1 a2 a3 a4 ⊢
    by_cases hj : j < w.length
    · have hj2 : j + 1 < w.length := by omega
      have e : w.drop j = atB w j :: atB w ((j : Int) + 1) :: w.drop (j + 2) := by
        rw [dropB hj, dropB hj2]; rfl
      rw [e] at a4
      obtain ⟨a, ha⟩ : ∃ a, a = atB w j := ⟨_, rfl⟩
      obtain ⟨b, hb⟩ : ∃ b, b = atB w ((j : Int) + 1) := ⟨_, rfl⟩
      have es := sub_two hj2
      rw [← ha, ← hb] at a4 es
      simp only [moF] at a4
      by_cases c1 : a = 117 ∧ b = 117
      · rw [if_pos c1] at a4
        obtain ⟨rfl, rfl⟩ := c1
        simp (disch := first | omega | (simp only [vl]; omega)) only [vcd, es, beq_self_eq_true]
        refine ⟨(j + 2, x ++ [117]), by show w.length - (j + 2) < w.length - j; omega, ⟨⟨by simp only []; omega, by simp only []; omega, by simp; omega⟩, ?_⟩, rfl⟩
        simp only
        rw [a4]; cases moF (w.drop (j + 2)) <;> simp
      · rw [if_neg c1] at a4
        have f1 : ([a, b] == [117, 117]) = false := by simp; omega
        by_cases c2 : a = 100 ∧ b = 100
        · rw [if_pos c2] at a4
          obtain ⟨rfl, rfl⟩ := c2
          simp (disch := first | omega | (simp only [vl]; omega)) only [vcd, es, f1, beq_self_eq_true]
          refine ⟨(j + 2, x ++ [100]), by show w.length - (j + 2) < w.length - j; omega, ⟨⟨by simp only []; omega, by simp only []; omega, by simp; omega⟩, ?_⟩, rfl⟩
          simp only
          rw [a4]; cases moF (w.drop (j + 2)) <;> simp
        · rw [if_neg c2] at a4
          have f2 : ([a, b] == [100, 100]) = false := by simp; omega
          by_cases c3 : a = 117 ∧ b = 100
          · rw [if_pos c3] at a4
            obtain ⟨rfl, rfl⟩ := c3
            simp (disch := first | omega | (simp only [vl]; omega)) only [vcd, es, f1, f2, beq_self_eq_true]
            refine ⟨(j + 2, x ++ [108]), by show w.length - (j + 2) < w.length - j; omega, ⟨⟨by simp only []; omega, by simp only []; omega, by simp; omega⟩, ?_⟩, rfl⟩
            simp only
            rw [a4]; cases moF (w.drop (j + 2)) <;> simp
          · rw [if_neg c3] at a4
            have f3 : ([a, b] == [117, 100]) = false := by simp; omega
            simp (disch := first | omega | (simp only [vl]; omega)) only [vcd, es, f1, f2, f3]
            simp [moR, moO, hd, a4]
    · have hj3 : j = w.length := by omega
      rw [hj3, List.drop_length] at a4
      simp only [moF, Option.map_some] at a4
      simp (disch := first | omega | (simp only [vl]; omega)) only [vcd]
      simp [moR, moO, hd, a4]

theorem mo_s [Has K 64 ir_spec_IsDyck] [Has K 263 ir_spec_MotzkinOf] {w : List Nat} (h : w.length ≤ 1000000000) : K 263 [.s w] [.s (moR w), .b (moO w)] := by
  refine body_by (f := ir_spec_MotzkinOf) rfl ?_; simp only [ir_spec_MotzkinOf]
  simp (disch := first | omega | (simp only [vl]; omega)) only [vcd]
  refine call_by (dyck_s (K := K) h) rfl ?_
  cases hd : dyck w
  · simp (disch := first | omega | (simp only [vl]; omega)) only [vcd]
    simp [moR, moO, hd]
  · have hpar := dyck_even hd
    simp (disch := first | omega | (simp only [vl]; omega)) only [vcd]
    refine loop_wh (fun (q : Nat × List Nat) => (q.1 % 2 = 0 ∧ q.1 ≤ w.length ∧ 2 * q.2.length = q.1) ∧ moF w = (moF (w.drop q.1)).map (q.2 ++ ·)) (fun q => [.s w, .u, .u, .s q.2, .n q.1, .u, .u, .u, .u, .u, .u]) (fun q => w.length - q.1) (0, []) ⟨⟨rfl, by simp, rfl⟩, by show moF w = (moF w).map ([] ++ ·); cases moF w <;> rfl⟩ rfl ?_
    rintro ⟨j, x⟩ ⟨⟨a1, a2, a3⟩, a4⟩
    simp only at a1 a2 a3 a4 ⊢
    by_cases hj : j < w.length
    · have hj2 : j + 1 < w.length := by omega
      have e : w.drop j = atB w j :: atB w ((j : Int) + 1) :: w.drop (j + 2) := by
        rw [dropB hj, dropB hj2]; rfl
      rw [e] at a4
      obtain ⟨a, ha⟩ : ∃ a, a = atB w j := ⟨_, rfl⟩
      obtain ⟨b, hb⟩ : ∃ b, b = atB w ((j : Int) + 1) := ⟨_, rfl⟩
      have es := sub_two hj2
      rw [← ha, ← hb] at a4 es
      simp only [moF] at a4
      by_cases c1 : a = 117 ∧ b = 117
      · rw [if_pos c1] at a4
        obtain ⟨rfl, rfl⟩ := c1
        simp (disch := first | omega | (simp only [vl]; omega)) only [vcd, es, beq_self_eq_true]
        refine ⟨(j + 2, x ++ [117]), by show w.length - (j + 2) < w.length - j; omega, ⟨⟨by simp only []; omega, by simp only []; omega, by simp; omega⟩, ?_⟩, rfl⟩
        simp only
        rw [a4]; cases moF (w.drop (j + 2)) <;> simp
      · rw [if_neg c1] at a4
        have f1 : ([a, b] == [117, 117]) = false := by simp; omega
        by_cases c2 : a = 100 ∧ b = 100
        · rw [if_pos c2] at a4
          obtain ⟨rfl, rfl⟩ := c2
          simp (disch := first | omega | (simp only [vl]; omega)) only [vcd, es, f1, beq_self_eq_true]
          refine ⟨(j + 2, x ++ [100]), by show w.length - (j + 2) < w.length - j; omega, ⟨⟨by simp only []; omega, by simp only []; omega, by simp; omega⟩, ?_⟩, rfl⟩
          simp only
          rw [a4]; cases moF (w.drop (j + 2)) <;> simp
        · rw [if_neg c2] at a4
          have f2 : ([a, b] == [100, 100]) = false := by simp; omega
          by_cases c3 : a = 117 ∧ b = 100
          · rw [if_pos c3] at a4
            obtain ⟨rfl, rfl⟩ := c3
            simp (disch := first | omega | (simp only [vl]; omega)) only [vcd, es, f1, f2, beq_self_eq_true]
            refine ⟨(j + 2, x ++ [108]), by show w.length - (j + 2) < w.length - j; omega, ⟨⟨by simp only []; omega, by simp only []; omega, by simp; omega⟩, ?_⟩, rfl⟩
            simp only
            rw [a4]; cases moF (w.drop (j + 2)) <;> simp
          · rw [if_neg c3] at a4
            have f3 : ([a, b] == [117, 100]) = false := by simp; omega
            simp (disch := first | omega | (simp only [vl]; omega)) only [vcd, es, f1, f2, f3]
            simp [moR, moO, hd, a4]
    · have hj3 : j = w.length := by omega
      rw [hj3, List.drop_length] at a4
      simp only [moF, Option.map_some] at a4
      simp (disch := first | omega | (simp only [vl]; omega)) only [vcd]
      simp [moR, moO, hd, a4]

end Go.Cat

