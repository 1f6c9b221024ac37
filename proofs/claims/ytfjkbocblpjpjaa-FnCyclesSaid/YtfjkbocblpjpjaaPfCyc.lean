/-
  Words in a circle: the law.
-/
import Derived.Test.YtfjkbocblpjpjaaPfCirc
import Derived.Test.YtfjkbocblpjpjaaPfDrawP
import Derived.Test.YtfjkbocblpjpjaaPfIn
import Derived.Test.YtfjkbocblpjpjaaIrAllA
namespace Go.Cat
variable {K : Nat → List D → List D → Prop}

theorem l28Any_ok [Has K 287 ir_spec_l28Any] [Has K 289 ir_spec_l1Below] [Has K 307 ir_spec_l1Once] [Has K 315 ir_spec_l1Spoil] [Has K 316 ir_spec_l1Byte] [Has K 327 ir_spec_l1Text] {d : D} (hd : Cur d) : ∃ rs, (∃ x d', rs = [.s x, d'] ∧ x.length ≤ 20 ∧ Cur d') ∧ K 287 [d] rs := by
  refine body_ex (f := ir_spec_l28Any) rfl ?_; simp only [ir_spec_l28Any]
  obtain ⟨_, ⟨n, d1, rfl, hn, hd1⟩, k1⟩ := l1Below_ok (K := K) hd (n := 7)
  have hn := hn.2 (by omega)
  simp (disch := first | omega | (simp only [vl]; omega)) only [vcd]
  refine call_by (k1) rfl ?_
  simp (disch := first | omega | (simp only [vl]; omega)) only [vcd]
  refine loop_wh (fun (q : D × List Nat × Int) => Cur q.1 ∧ (0 ≤ q.2.2 ∧ (q.2.1.length : Int) + 2 * q.2.2 ≤ 13)) (fun q => [q.1, .u, .s q.2.1, .n q.2.2, .u, .u, .u]) (fun q => q.2.2.toNat) (d1, [100], n) ⟨hd1, by simp; omega⟩ rfl ?_
  rintro ⟨d2, x, r⟩ ⟨hd2, hr⟩
  simp only at hd2 hr ⊢
  by_cases h0 : 0 < r
  · obtain ⟨_, ⟨k, d3, rfl, hk, hd3⟩, k2⟩ := l1Below_ok (K := K) hd2 (n := (x.length : Int) + 1)
    have hk := hk.2 (by omega)
    obtain ⟨y, hy⟩ : ∃ y, y = (sub x 0 k ++ [117]) ++ sub x k x.length := ⟨_, rfl⟩
    have hyl : y.length = x.length + 1 := by rw [hy]; simp only [List.length_append, vl, List.length_cons, List.length_nil]; omega
    obtain ⟨_, ⟨j, d4, rfl, hj, hd4⟩, k3⟩ := l1Below_ok (K := K) hd3 (n := (y.length : Int) + 1)
    have hj := hj.2 (by omega)
    simp (disch := first | omega | (simp only [vl]; omega)) only [vcd]
    refine call_by (k2) rfl ?_
    simp (disch := first | omega | (simp only [vl]; omega)) only [vcd, ← hy]
    refine call_by (k3) rfl ?_
    simp (disch := first | omega | (simp only [vl]; omega)) only [vcd]
    refine ⟨(d4, (sub y 0 j ++ [100]) ++ sub y j y.length, r - 1), by show (r - 1).toNat < r.toNat; omega, ⟨hd4, ?_⟩, rfl⟩
    simp only [List.length_append, vl, List.length_cons, List.length_nil]; omega
  · obtain ⟨_, ⟨b, d3, rfl, hd3⟩, k2⟩ := l1Once_ok (K := K) hd2 (n := 10)
    simp (disch := first | omega | (simp only [vl]; omega)) only [vcd]
    refine call_by (k2) rfl ?_
    cases b
    · simp (disch := first | omega | (simp only [vl]; omega)) only [vcd]
      exact ⟨_, _, rfl, by omega, hd3⟩
    · obtain ⟨_, ⟨y, d4, rfl, hy, hd4⟩, k3⟩ := l1Spoil_ok (K := K) hd3 (w := x) (by omega)
      simp (disch := first | omega | (simp only [vl]; omega)) only [vcd]
      refine call_by (k3) rfl ?_
      simp (disch := first | omega | (simp only [vl]; omega)) only [vcd]
      exact ⟨_, _, rfl, by omega, hd4⟩

/-! ### The height of a word, letter by letter -/
def Hh (w : List Nat) (i : Nat) : Int := (cnt (w.take i) 117 : Int) - cnt (w.take i) 100
theorem Hh_0 {w : List Nat} : Hh w 0 = 0 := by simp [Hh, cnt]
theorem Hh_cons {c : Nat} {w : List Nat} {i : Nat} : Hh (c :: w) (i + 1) = (if c = 117 then 1 else 0) - (if c = 100 then 1 else 0) + Hh w i := by
  simp only [Hh, List.take_succ_cons, cnt_cons]
  split <;> split <;> omega
theorem Hh_app1 {a b : List Nat} {i : Nat} (h : i ≤ a.length) : Hh (a ++ b) i = Hh a i := by
  simp only [Hh]; rw [List.take_append_of_le_length h]
theorem cnt_app {a b : List Nat} {c : Nat} : cnt (a ++ b) c = cnt a c + cnt b c := by simp [cnt]
theorem Hh_app2 {a b : List Nat} {i : Nat} : Hh (a ++ b) (a.length + i) = Hh a a.length + Hh b i := by
  simp only [Hh]
  rw [List.take_length_add_append, cnt_app, cnt_app]
  simp; omega
theorem Hh_take {w : List Nat} {k i : Nat} (h : i ≤ k) : Hh (w.take k) i = Hh w i := by
  simp only [Hh, List.take_take]; rw [Nat.min_eq_left h]
theorem Hh_drop {w : List Nat} {k i : Nat} (hk : k ≤ w.length) : Hh (w.drop k) i = Hh w (k + i) - Hh w k := by
  have := Hh_app2 (a := w.take k) (b := w.drop k) (i := i)
  rw [List.take_append_drop] at this
  have e : (w.take k).length = k := by simp; omega
  rw [e, Hh_take (Nat.le_refl k)] at this
  omega
theorem Hh_rot1 {w : List Nat} {k i : Nat} (hk : k ≤ w.length) (hi : i ≤ w.length - k) : Hh (rot w k) i = Hh w (k + i) - Hh w k := by
  unfold rot
  rw [Hh_app1 (by simp; omega), Hh_drop hk]
theorem Hh_rot2 {w : List Nat} {k j : Nat} (hk : k ≤ w.length) (hj : j ≤ k) : Hh (rot w k) ((w.length - k) + j) = Hh w w.length - Hh w k + Hh w j := by
  unfold rot
  have := Hh_app2 (a := w.drop k) (b := w.take k) (i := j)
  have e : (w.drop k).length = w.length - k := by simp
  rw [e] at this
  rw [this, Hh_drop hk, Hh_take hj, show k + (w.length - k) = w.length by omega]

theorem walkH_iff : ∀ (w : List Nat) (h r : Int), 0 ≤ h → (walkH w h = some r ↔ allud w = true ∧ (∀ i ≤ w.length, 0 ≤ h + Hh w i) ∧ r = h + Hh w w.length)
  | [], h, r, h0 => by
    simp only [walkH, allud, List.all_nil, List.length_nil, Hh_0, Option.some.injEq, true_and]
    constructor
    · rintro rfl
      refine ⟨fun i hi => ?_, by omega⟩
      have : i = 0 := by omega
      subst this; rw [Hh_0]; omega
    · rintro ⟨_, h⟩; omega
  | c :: w, h, r, h0 => by
    have sh : ∀ x : Int, (if c = 117 then (1 : Int) else 0) - (if c = 100 then 1 else 0) = x → ((∀ i ≤ w.length + 1, 0 ≤ h + Hh (c :: w) i) ↔ ∀ i ≤ w.length, 0 ≤ (h + x) + Hh w i) := by
      intro x hx
      constructor
      · intro q i hi
        have := q (i + 1) (by omega)
        rw [Hh_cons, hx] at this
        omega
      · intro q i hi
        cases i with
        | zero => rw [Hh_0]; omega
        | succ i =>
          have := q i (by omega)
          rw [Hh_cons, hx]
          omega
    simp only [walkH, allud_cons, List.length_cons, Hh_cons]
    by_cases h1 : c = 117
    · rw [if_pos h1, walkH_iff w (h + 1) r (by omega)]
      rw [sh 1 (by simp [h1])]
      simp [h1]
      intro _ _; constructor <;> intro _ <;> omega
    · by_cases h2 : c = 100
      · rw [if_neg h1, if_pos h2, sh (-1) (by simp [h2])]
        by_cases h3 : h - 1 < 0
        · rw [if_pos h3]
          simp only [reduceCtorEq, false_iff, not_and]
          intro _ q
          have := q 0 (by omega)
          rw [Hh_0] at this
          omega
        · rw [if_neg h3, walkH_iff w (h - 1) r (by omega)]
          simp [h2]
          intro _
          constructor
          · rintro ⟨q, _⟩; exact ⟨fun i hi => by have := q i hi; omega, by omega⟩
          · rintro ⟨q, _⟩; exact ⟨fun i hi => by have := q i hi; omega, by omega⟩
      · rw [if_neg h1, if_neg h2]
        simp [h1, h2]

theorem dyck_iff {w : List Nat} : dyck w = true ↔ w.length ≤ 16 ∧ allud w = true ∧ (∀ i ≤ w.length, 0 ≤ Hh w i) ∧ Hh w w.length = 0 := by
  simp only [dyck, Bool.and_eq_true, decide_eq_true_eq, walkH_iff w 0 0 (by omega)]
  constructor
  · rintro ⟨⟨h1, h2, h3⟩, h4⟩; exact ⟨h4, h1, fun i hi => by have := h2 i hi; omega, by omega⟩
  · rintro ⟨h1, h2, h3, h4⟩; exact ⟨⟨h2, fun i hi => by have := h3 i hi; omega, by omega⟩, h1⟩

theorem allud_app {a b : List Nat} : allud (a ++ b) = (allud a && allud b) := by simp [allud]
theorem allud_rot {w : List Nat} {k : Nat} : allud (rot w k) = allud w := by
  unfold rot
  rw [allud_app, Bool.and_comm, ← allud_app, List.take_append_drop]
theorem cnt_rot {w : List Nat} {k c : Nat} : cnt (rot w k) c = cnt w c := by
  unfold rot
  rw [cnt_app, Nat.add_comm, ← cnt_app, List.take_append_drop]
theorem bal_rot {w : List Nat} {k : Nat} (hk : k ≤ w.length) : balF (rot w k) = balF w := by
  simp only [balF, rot_len hk, allud_rot, cnt_rot]
theorem Hh_len {w : List Nat} : Hh w w.length = (cnt w 117 : Int) - cnt w 100 := by simp [Hh]

/-- A good word: never below 0 ahead of its last letter. -/
theorem goodW_iff {w : List Nat} (hb : balF w = true) : goodW w = true ↔ ∀ i < w.length, 0 ≤ Hh w i := by
  have hp := balF_pos hb
  simp only [balF, Bool.and_eq_true, decide_eq_true_eq] at hb
  obtain ⟨⟨hl, ha⟩, hc⟩ := hb
  have hH : Hh w w.length = -1 := by rw [Hh_len]; omega
  have e1 : ((w.length : Int) - 1) = ((w.length - 1 : Nat) : Int) := by omega
  -- the last letter
  have hsplit : w = w.take (w.length - 1) ++ [atB w ((w.length : Int) - 1)] := by
    rw [e1]
    simp only [atB, Int.toNat_natCast, List.getD_eq_getElem?_getD]
    rw [List.getElem?_eq_getElem (by omega)]
    simp only [Option.getD_some]
    have := List.take_append_getElem (l := w) (i := w.length - 1) (by omega)
    rw [this, show w.length - 1 + 1 = w.length by omega, List.take_length]
  have hsub : sub w 0 ((w.length : Int) - 1) = w.take (w.length - 1) := by rw [e1]; simp [sub]
  have hlast : Hh w w.length = Hh w (w.length - 1) + ((if atB w ((w.length : Int) - 1) = 117 then 1 else 0) - (if atB w ((w.length : Int) - 1) = 100 then 1 else 0)) := by
    have h2 := Hh_app2 (a := w.take (w.length - 1)) (b := [atB w ((w.length : Int) - 1)]) (i := 1)
    rw [← hsplit] at h2
    have e2 : (w.take (w.length - 1)).length = w.length - 1 := by simp
    rw [e2, Hh_take (Nat.le_refl _), show w.length - 1 + 1 = w.length by omega] at h2
    rw [h2, Hh_cons (i := 0), Hh_0]
    omega
  have ha2 : allud (w.take (w.length - 1)) = true := by
    rw [hsplit, allud_app] at ha
    simp only [Bool.and_eq_true] at ha
    exact ha.1
  simp only [goodW, Bool.and_eq_true, decide_eq_true_eq, hsub, dyck_iff]
  have hlt : (w.take (w.length - 1)).length = w.length - 1 := by simp
  rw [hlt, ha2]
  constructor
  · rintro ⟨h1, _, _, h4, h5⟩ i hi
    have := h4 i (by omega)
    rwa [Hh_take (by omega)] at this
  · intro h
    have h3 := h (w.length - 1) (by omega)
    have h4 : atB w ((w.length : Int) - 1) = 100 := by
      rw [hH] at hlast
      by_cases q : atB w ((w.length : Int) - 1) = 100
      · exact q
      · rw [if_neg q] at hlast
        split at hlast <;> omega
    refine ⟨h4, by omega, rfl, fun i hi => ?_, ?_⟩
    · rw [Hh_take (by omega)]; exact h i (by omega)
    · rw [Hh_take (Nat.le_refl _)]
      rw [hH, h4] at hlast
      simp at hlast
      omega

/-- The first least value. -/
def FirstMin (f : Nat → Int) (n k : Nat) : Prop := (∀ j, k ≤ j → j < n → f k ≤ f j) ∧ ∀ j, j < k → f k < f j
theorem firstMin_ex (f : Nat → Int) : ∀ n, 0 < n → ∃ k, k < n ∧ FirstMin f n k
  | 0, h => by omega
  | 1, _ => ⟨0, by omega, fun j h1 h2 => by have : j = 0 := by omega
                                            subst this; exact Int.le_refl _, fun j h => by omega⟩
  | n + 2, _ => by
    obtain ⟨k, h1, h2, h3⟩ := firstMin_ex f (n + 1) (by omega)
    by_cases h : f k ≤ f (n + 1)
    · refine ⟨k, by omega, fun j q1 q2 => ?_, h3⟩
      by_cases hj : j = n + 1
      · subst hj; exact h
      · exact h2 j q1 (by omega)
    · refine ⟨n + 1, by omega, fun j q1 q2 => ?_, fun j q => ?_⟩
      · have : j = n + 1 := by omega
        subst this; exact Int.le_refl _
      · by_cases hjk : j < k
        · have := h3 j hjk; omega
        · have := h2 j (by omega) (by omega); omega
theorem firstMin_un {f : Nat → Int} {n k k' : Nat} (hk : k < n) (hk' : k' < n) (h : FirstMin f n k) (h' : FirstMin f n k') : k = k' := by
  rcases Nat.lt_trichotomy k k' with q | q | q
  · have := h.1 k' (by omega) hk'; have := h'.2 k q; omega
  · exact q
  · have := h'.1 k (by omega) hk; have := h.2 k' q; omega

theorem goodF_iff {w : List Nat} {k : Nat} (hb : balF w = true) (hk : k < w.length) : goodF w k = true ↔ FirstMin (Hh w) w.length k := by
  have hp := balF_pos hb
  have hbr : balF (rot w k) = true := by rw [bal_rot (by omega)]; exact hb
  have hH : Hh w w.length = -1 := by
    simp only [balF, Bool.and_eq_true, decide_eq_true_eq] at hb
    rw [Hh_len]; omega
  unfold goodF
  rw [goodW_iff hbr, rot_len (by omega)]
  constructor
  · intro h
    refine ⟨fun j h1 h2 => ?_, fun j h1 => ?_⟩
    · have := h (j - k) (by omega)
      rw [Hh_rot1 (by omega) (by omega), show k + (j - k) = j by omega] at this
      omega
    · have := h ((w.length - k) + j) (by omega)
      rw [Hh_rot2 (by omega) (by omega), hH] at this
      omega
  · rintro ⟨h1, h2⟩ i hi
    by_cases q : i < w.length - k
    · rw [Hh_rot1 (by omega) (by omega)]
      have := h1 (k + i) (by omega) (by omega)
      omega
    · rw [show i = (w.length - k) + (i - (w.length - k)) by omega, Hh_rot2 (by omega) (by omega), hH]
      have := h2 (i - (w.length - k)) (by omega)
      omega

/-- THE CYCLE LEMMA. -/
theorem cycle {w : List Nat} (hb : balF w = true) : ∃ k, k < w.length ∧ goodF w k = true ∧ ∀ j, j < w.length → goodF w j = true → j = k := by
  have hp := balF_pos hb
  obtain ⟨k, h1, h2⟩ := firstMin_ex (Hh w) w.length (by omega)
  refine ⟨k, h1, (goodF_iff hb h1).2 h2, fun j hj hg => ?_⟩
  exact firstMin_un hj h1 ((goodF_iff hb hj).1 hg) h2

theorem gsO_bal {w : List Nat} : gsO w = balF w := by
  cases hb : balF w with
  | false => simp [gsO, fsF, hb]
  | true =>
    obtain ⟨k, h1, h2, _⟩ := cycle hb
    simp only [gsO, fsF, hb, if_true]
    rw [List.find?_isSome]
    exact ⟨k, by simpa using h1, h2⟩

/-! ### The walks -/
def cgs (w : List Nat) (n : Nat) : Nat := (List.range n).countP (goodF w)
theorem cgs_s {w : List Nat} {n : Nat} : cgs w (n + 1) = cgs w n + (if goodF w n = true then 1 else 0) := by
  unfold cgs; rw [List.range_succ, List.countP_append]; simp
theorem cgs_le {w : List Nat} : ∀ n, cgs w n ≤ n
  | 0 => by simp [cgs]
  | n + 1 => by rw [cgs_s]; have := cgs_le (w := w) n; split <;> omega
def csF (w : List Nat) : Int := if balF w = true then (cgs w w.length : Int) else -1

theorem cs_1 {w : List Nat} (hb : balF w = true) : csF w = 1 := by
  obtain ⟨k, h1, h2, h3⟩ := cycle hb
  have key : ∀ n, n ≤ w.length → cgs w n = if k < n then 1 else 0 := by
    intro n
    induction n with
    | zero => intro _; simp [cgs]
    | succ n ih =>
      intro hn
      rw [cgs_s, ih (by omega)]
      by_cases q : goodF w n = true
      · have := h3 n (by omega) q
        subst this
        rw [if_pos q, if_neg (by omega), if_pos (by omega)]
      · have : n ≠ k := by rintro rfl; exact q h2
        rw [if_neg q]
        by_cases r : k < n
        · rw [if_pos r, if_pos (by omega)]
        · rw [if_neg r, if_neg (by omega)]
  simp only [csF, hb, if_true, key w.length (Nat.le_refl _), h1]
  rfl

theorem cgs_ok_i [Has K 65 ir_impl_areSteps] [Has K 66 ir_impl_count] [Has K 67 ir_impl_IsDyck] [Has K 82 ir_impl_heights] [Has K 176 ir_impl_IsBalanced] [Has K 177 ir_impl_good] [Has K 222 ir_impl_CountGoodShifts] {w : List Nat} (h : w.length ≤ 1000000000) : K 222 [.s w] [.n (csF w)] := by
  refine body_by (f := ir_impl_CountGoodShifts) rfl ?_; simp only [ir_impl_CountGoodShifts]
  simp (disch := first | omega | (simp only [vl]; omega)) only [vcd]
  cases hb : balF w
  · repeat (first | (refine call_by (bal_i (K := K) h) rfl ?_; try simp (disch := first | omega | (simp only [vl]; omega)) only [vcd, hb]))
    simp [csF, hb]
  · have hl := balF_pos hb
    repeat (first | (refine call_by (bal_i (K := K) h) rfl ?_; try simp (disch := first | omega | (simp only [vl]; omega)) only [vcd, hb]))
    refine loop_ix (fun i => True) (fun i => [.s w, .u, .n (cgs w i), .u, .u, .n w.length, .n i, .u, .u]) w.length trivial rfl (fun i hi hP => ?_) (fun hP => ?_)
    · have hc := cgs_s (w := w) (n := i)
      have := cgs_le (w := w) i
      cases hg : goodF w i
      · rw [hg] at hc
        simp at hc
        simp (disch := first | omega | (simp only [vl]; omega)) only [vcd]
        repeat (first | (refine call_by (good_i (K := K) h (by omega) hi) rfl ?_; try simp (disch := first | omega | (simp only [vl]; omega)) only [vcd, hg, hc]))
      · rw [hg] at hc
        simp at hc
        simp (disch := first | omega | (simp only [vl]; omega)) only [vcd]
        repeat (first | (refine call_by (good_i (K := K) h (by omega) hi) rfl ?_; try simp (disch := first | omega | (simp only [vl]; omega)) only [vcd, hg, hc]))
    · simp (disch := first | omega | (simp only [vl]; omega)) only [vcd]
      simp [csF, hb]

theorem cgs_ok_s [Has K 64 ir_spec_IsDyck] [Has K 174 ir_spec_IsBalanced] [Has K 175 ir_spec_l28Good] [Has K 223 ir_spec_CountGoodShifts] {w : List Nat} (h : w.length ≤ 1000000000) : K 223 [.s w] [.n (csF w)] := by
  refine body_by (f := ir_spec_CountGoodShifts) rfl ?_; simp only [ir_spec_CountGoodShifts]
  simp (disch := first | omega | (simp only [vl]; omega)) only [vcd]
  cases hb : balF w
  · repeat (first | (refine call_by (bal_s (K := K) h) rfl ?_; try simp (disch := first | omega | (simp only [vl]; omega)) only [vcd, hb]))
    simp [csF, hb]
  · have hl := balF_pos hb
    repeat (first | (refine call_by (bal_s (K := K) h) rfl ?_; try simp (disch := first | omega | (simp only [vl]; omega)) only [vcd, hb]))
    refine loop_ix (fun i => True) (fun i => [.s w, .u, .n (cgs w i), .n i, .u, .u, .u]) w.length trivial rfl (fun i hi hP => ?_) (fun hP => ?_)
    · have hc := cgs_s (w := w) (n := i)
      have := cgs_le (w := w) i
      have hr : (rot w i).length ≤ 1000000000 := by rw [rot_len (by omega)]; omega
      have hr0 : 0 < (rot w i).length := by rw [rot_len (by omega)]; omega
      have e0 : w.drop i ++ w.take i = rot w i := rfl
      cases hg : goodF w i
      · have hg2 : goodW (rot w i) = false := hg
        rw [hg] at hc
        simp at hc
        simp (disch := first | omega | (simp only [vl]; omega)) only [vcd, sub_fromB, sub_toB, e0]
        repeat (first | (refine call_by (good_s (K := K) hr hr0) rfl ?_; try simp (disch := first | omega | (simp only [vl]; omega)) only [vcd, hg2, sub_fromB, sub_toB, e0, hc]))
      · have hg2 : goodW (rot w i) = true := hg
        rw [hg] at hc
        simp at hc
        simp (disch := first | omega | (simp only [vl]; omega)) only [vcd, sub_fromB, sub_toB, e0]
        repeat (first | (refine call_by (good_s (K := K) hr hr0) rfl ?_; try simp (disch := first | omega | (simp only [vl]; omega)) only [vcd, hg2, sub_fromB, sub_toB, e0, hc]))
    · simp (disch := first | omega | (simp only [vl]; omega)) only [vcd]
      simp [csF, hb]

/-- A shift. -/
def shO (w : List Nat) (k : Int) : Bool := decide (w.length ≤ 17) && inR 0 (max 0 ((w.length : Int) - 1)) k
def shR (w : List Nat) (k : Int) : List Nat := if shO w k = true then rot w k.toNat else []

theorem sh_i [Has K 23 ir_impl_within] [Has K 226 ir_impl_ShiftWord] {w : List Nat} {k : Int} (h : w.length ≤ 1000000000) : K 226 [.s w, .n k] [.s (shR w k), .b (shO w k)] := by
  refine body_by (f := ir_impl_ShiftWord) rfl ?_; simp only [ir_impl_ShiftWord]
  by_cases hl : w.length ≤ 17
  · cases hk : inR 0 (max 0 ((w.length : Int) - 1)) k
    · simp (disch := first | omega | (simp only [vl]; omega)) only [vcd]
      repeat (first | (refine call_by (within_ok (K := K)) rfl ?_; try simp (disch := first | omega | (simp only [vl]; omega)) only [vcd, hk]))
      simp [shO, shR, hl, hk]
    · have hk2 := inR_iff.1 hk
      obtain ⟨j, rfl⟩ := Int.eq_ofNat_of_zero_le hk2.1
      have e0 : w.drop j ++ w.take j = rot w j := rfl
      simp (disch := first | omega | (simp only [vl]; omega)) only [vcd]
      repeat (first | (refine call_by (within_ok (K := K)) rfl ?_; try simp (disch := first | omega | (simp only [vl]; omega)) only [vcd, hk, sub_fromB, sub_toB, e0]))
      simp [shO, shR, hl, hk]
  · simp (disch := first | omega | (simp only [vl]; omega)) only [vcd]
    simp [shO, shR, hl]

theorem sh_s [Has K 22 ir_spec_l1In] [Has K 227 ir_spec_ShiftWord] {w : List Nat} {k : Int} (h : w.length ≤ 1000000000) : K 227 [.s w, .n k] [.s (shR w k), .b (shO w k)] := by
  refine body_by (f := ir_spec_ShiftWord) rfl ?_; simp only [ir_spec_ShiftWord]
  by_cases hl : w.length ≤ 17
  · cases hk : inR 0 (max 0 ((w.length : Int) - 1)) k
    · simp (disch := first | omega | (simp only [vl]; omega)) only [vcd]
      repeat (first | (refine call_by (l1In_ok (K := K)) rfl ?_; try simp (disch := first | omega | (simp only [vl]; omega)) only [vcd, hk]))
      simp [shO, shR, hl, hk]
    · have hk2 := inR_iff.1 hk
      obtain ⟨j, rfl⟩ := Int.eq_ofNat_of_zero_le hk2.1
      have e0 : w.drop j ++ w.take j = rot w j := rfl
      simp (disch := first | omega | (simp only [vl]; omega)) only [vcd]
      repeat (first | (refine call_by (l1In_ok (K := K)) rfl ?_; try simp (disch := first | omega | (simp only [vl]; omega)) only [vcd, hk, sub_fromB, sub_toB, e0]))
      simp [shO, shR, hl, hk]
  · simp (disch := first | omega | (simp only [vl]; omega)) only [vcd]
    simp [shO, shR, hl]

def coO (w : List Nat) (k : Int) : Bool := dyck w && shO (w ++ [100]) k
def coR (w : List Nat) (k : Int) : List Nat := if dyck w = true then shR (w ++ [100]) k else []

theorem co_i [Has K 23 ir_impl_within] [Has K 67 ir_impl_IsDyck] [Has K 82 ir_impl_heights] [Has K 224 ir_impl_CircleOf] [Has K 226 ir_impl_ShiftWord] {w : List Nat} {k : Int} (h : w.length ≤ 100000000) : K 224 [.s w, .n k] [.s (coR w k), .b (coO w k)] := by
  refine body_by (f := ir_impl_CircleOf) rfl ?_; simp only [ir_impl_CircleOf]
  have h2 : (w ++ [100]).length ≤ 1000000000 := by simp; omega
  cases hd : dyck w
  · simp (disch := first | omega | (simp only [vl]; omega)) only [vcd]
    repeat (first | (refine call_by (dyck_i (K := K) (w := w) (by omega)) rfl ?_; try simp (disch := first | omega | (simp only [vl]; omega)) only [vcd, hd]))
    simp [coR, coO, hd]
  · simp (disch := first | omega | (simp only [vl]; omega)) only [vcd]
    repeat (first | (refine call_by (dyck_i (K := K) (w := w) (by omega)) rfl ?_; try simp (disch := first | omega | (simp only [vl]; omega)) only [vcd, hd]) | (refine call_by (sh_i (K := K) (k := k) h2) rfl ?_; try simp (disch := first | omega | (simp only [vl]; omega)) only [vcd, hd]))
    simp [coR, coO, hd]

theorem co_s [Has K 22 ir_spec_l1In] [Has K 64 ir_spec_IsDyck] [Has K 227 ir_spec_ShiftWord] [Has K 229 ir_spec_CircleOf] {w : List Nat} {k : Int} (h : w.length ≤ 100000000) : K 229 [.s w, .n k] [.s (coR w k), .b (coO w k)] := by
  refine body_by (f := ir_spec_CircleOf) rfl ?_; simp only [ir_spec_CircleOf]
  have h2 : (w ++ [100]).length ≤ 1000000000 := by simp; omega
  cases hd : dyck w
  · simp (disch := first | omega | (simp only [vl]; omega)) only [vcd]
    repeat (first | (refine call_by (dyck_s (K := K) (w := w) (by omega)) rfl ?_; try simp (disch := first | omega | (simp only [vl]; omega)) only [vcd, hd]))
    simp [coR, coO, hd]
  · simp (disch := first | omega | (simp only [vl]; omega)) only [vcd]
    repeat (first | (refine call_by (dyck_s (K := K) (w := w) (by omega)) rfl ?_; try simp (disch := first | omega | (simp only [vl]; omega)) only [vcd, hd]) | (refine call_by (sh_s (K := K) (k := k) h2) rfl ?_; try simp (disch := first | omega | (simp only [vl]; omega)) only [vcd, hd]))
    simp [coR, coO, hd]

theorem big_ok [Has K 220 ir_laws_big] {code : List Nat} : K 220 [LB code] [.b (decide (1048576 < (code.length : Int)))] := by
  refine body_by (f := ir_laws_big) rfl ?_; simp only [ir_laws_big]
  simp (disch := first | omega | (simp only [vl]; omega)) only [vc]

theorem rot_rot {w : List Nat} {k : Nat} (hk : k < w.length) : rot (rot w k) ((w.length - k) % w.length) = w := by
  by_cases h0 : k = 0
  · subst h0
    simp [rot]
  · rw [Nat.mod_eq_of_lt (by omega)]
    unfold rot
    have e : w.length - k = (w.drop k).length := by simp
    rw [e, List.drop_left, List.take_left, List.take_append_drop]

theorem shR_bal {w : List Nat} {k : Int} (hd : dyck w = true) (hk : shO (w ++ [100]) k = true) : balF (shR (w ++ [100]) k) = true := by
  simp only [shR, hk, if_true]
  simp only [shO, Bool.and_eq_true, decide_eq_true_eq, inR_iff] at hk
  obtain ⟨h1, h2, h3, h4⟩ := dyck_iff.1 hd
  rw [bal_rot (by simp at hk ⊢; omega)]
  rw [Hh_len] at h4
  simp only [balF, allud_app, h2, cnt_app, Bool.and_eq_true, decide_eq_true_eq]
  simp [cnt, allud] at h4 ⊢
  omega

/-- What a good shift gives leads back. -/
theorem back {w : List Nat} (hg : gsO w = true) : dyck (dcR w) = true ∧ ∃ k : Nat, gsK w = k ∧ k < w.length ∧ coO (dcR w) (((w.length : Int) - k) % w.length) = true ∧ coR (dcR w) (((w.length : Int) - k) % w.length) = w := by
  have hb : balF w = true := by rw [← gsO_bal]; exact hg
  obtain ⟨k, hk, hkl⟩ := gs_lt hg
  have hgood : goodF w k = true := by
    have : fsF w = some k := by
      simp only [gsO, Option.isSome_iff_exists] at hg
      obtain ⟨j, hj⟩ := hg
      simp only [gsK, hj, Option.getD_some] at hk
      rw [hj]; congr 1; omega
    unfold fsF at this
    rw [if_pos hb] at this
    exact (List.find?_eq_some_iff_append.1 this).1
  have hp := balF_pos hb
  have hdc : dcR w = sub (rot w k) 0 ((w.length : Int) - 1) := by
    simp only [dcR, hg, if_true, hk, Int.toNat_natCast]
  have hl := rot_len (w := w) (k := k) (by omega)
  unfold goodF goodW at hgood
  rw [hl] at hgood
  simp only [Bool.and_eq_true, decide_eq_true_eq] at hgood
  obtain ⟨g1, g2⟩ := hgood
  have happ : dcR w ++ [100] = rot w k := by
    rw [hdc]
    have e1 : ((w.length : Int) - 1) = ((w.length - 1 : Nat) : Int) := by omega
    rw [e1] at g1 ⊢
    have hsub : sub (rot w k) 0 ((w.length - 1 : Nat) : Int) = (rot w k).take (w.length - 1) := by simp [sub]
    rw [hsub]
    simp only [atB, Int.toNat_natCast, List.getD_eq_getElem?_getD] at g1
    rw [List.getElem?_eq_getElem (by omega)] at g1
    simp only [Option.getD_some] at g1
    have := List.take_append_getElem (l := rot w k) (i := w.length - 1) (by omega)
    rw [g1] at this
    rw [this, show w.length - 1 + 1 = (rot w k).length by omega, List.take_length]
  have hdy : dyck (dcR w) = true := by rw [hdc]; exact g2
  have hm : (((w.length : Int) - k) % w.length) = (((w.length - k) % w.length : Nat) : Int) := by
    have : ((w.length : Int) - k) = ((w.length - k : Nat) : Int) := by omega
    rw [this]; rfl
  have hlt : (w.length - k) % w.length < w.length := Nat.mod_lt _ (by omega)
  have hsh : shO (dcR w ++ [100]) (((w.length - k) % w.length : Nat) : Int) = true := by
    simp only [shO, happ, hl, Bool.and_eq_true, decide_eq_true_eq, inR_iff]
    omega
  refine ⟨hdy, k, hk, hkl, ?_, ?_⟩
  · simp only [coO, hdy, hm, hsh, Bool.and_self]
  · simp only [coR, hdy, if_true, shR, hm, hsh]
    rw [happ, Int.toNat_natCast]
    exact rot_rot hkl

theorem DrawGoodShift_ok [Has K 221 ir_spec_DrawGoodShift] [Has K 287 ir_spec_l28Any] [Has K 288 ir_spec_l1New] [Has K 289 ir_spec_l1Below] [Has K 307 ir_spec_l1Once] [Has K 315 ir_spec_l1Spoil] [Has K 316 ir_spec_l1Byte] [Has K 327 ir_spec_l1Text] {code : List Nat} (h : code.length ≤ 1048576) : ∃ rs, (∃ x, rs = [.s x] ∧ x.length ≤ 20) ∧ K 221 [LB code] rs := by
  refine body_ex (f := ir_spec_DrawGoodShift) rfl ?_; simp only [ir_spec_DrawGoodShift]
  obtain ⟨_, ⟨d, rfl, hd⟩, k1⟩ := l1New_ok (K := K) h
  obtain ⟨_, ⟨x, d1, rfl, hx, hd1⟩, k2⟩ := l28Any_ok (K := K) hd
  simp (disch := first | omega | (simp only [vl]; omega)) only [vcd]
  refine call_by (k1) rfl ?_
  simp (disch := first | omega | (simp only [vl]; omega)) only [vcd]
  refine call_by (k2) rfl ?_
  simp (disch := first | omega | (simp only [vl]; omega)) only [vcd]
  exact ⟨_, rfl, hx⟩

theorem DrawShiftWord_ok [Has K 225 ir_spec_DrawShiftWord] [Has K 287 ir_spec_l28Any] [Has K 288 ir_spec_l1New] [Has K 289 ir_spec_l1Below] [Has K 307 ir_spec_l1Once] [Has K 315 ir_spec_l1Spoil] [Has K 316 ir_spec_l1Byte] [Has K 327 ir_spec_l1Text] {code : List Nat} (h : code.length ≤ 1048576) : ∃ rs, (∃ x n, rs = [.s x, .n n] ∧ x.length ≤ 20) ∧ K 225 [LB code] rs := by
  refine body_ex (f := ir_spec_DrawShiftWord) rfl ?_; simp only [ir_spec_DrawShiftWord]
  obtain ⟨_, ⟨d, rfl, hd⟩, k1⟩ := l1New_ok (K := K) h
  obtain ⟨_, ⟨x, d1, rfl, hx, hd1⟩, k2⟩ := l28Any_ok (K := K) hd
  obtain ⟨_, ⟨y, d2, rfl, hy, hd2⟩, k3⟩ := l1Below_ok (K := K) hd1 (n := (x.length : Int) + 2)
  have hy := hy.2 (by omega)
  simp (disch := first | omega | (simp only [vl]; omega)) only [vcd]
  refine call_by (k1) rfl ?_
  simp (disch := first | omega | (simp only [vl]; omega)) only [vcd]
  refine call_by (k2) rfl ?_
  simp (disch := first | omega | (simp only [vl]; omega)) only [vcd]
  refine call_by (k3) rfl ?_
  simp (disch := first | omega | (simp only [vl]; omega)) only [vcd]
  exact ⟨_, _, rfl, hx⟩

theorem DrawCircleOf_ok [Has K 228 ir_spec_DrawCircleOf] [Has K 288 ir_spec_l1New] [Has K 289 ir_spec_l1Below] [Has K 290 ir_spec_l2Any] [Has K 306 ir_spec_l2Draw] [Has K 307 ir_spec_l1Once] [Has K 315 ir_spec_l1Spoil] [Has K 316 ir_spec_l1Byte] [Has K 317 ir_spec_l2Path] [Has K 318 ir_spec_l1Pick] [Has K 327 ir_spec_l1Text] {code : List Nat} (h : code.length ≤ 1048576) : ∃ rs, (∃ x n, rs = [.s x, .n n] ∧ x.length ≤ 20) ∧ K 228 [LB code] rs := by
  refine body_ex (f := ir_spec_DrawCircleOf) rfl ?_; simp only [ir_spec_DrawCircleOf]
  obtain ⟨_, ⟨d, rfl, hd⟩, k1⟩ := l1New_ok (K := K) h
  obtain ⟨_, ⟨x, d1, rfl, hx, hd1⟩, k2⟩ := l2Any_ok (K := K) hd
  obtain ⟨_, ⟨y, d2, rfl, hy, hd2⟩, k3⟩ := l1Below_ok (K := K) hd1 (n := (x.length : Int) + 3)
  have hy := hy.2 (by omega)
  simp (disch := first | omega | (simp only [vl]; omega)) only [vcd]
  refine call_by (k1) rfl ?_
  simp (disch := first | omega | (simp only [vl]; omega)) only [vcd]
  refine call_by (k2) rfl ?_
  simp (disch := first | omega | (simp only [vl]; omega)) only [vcd]
  refine call_by (k3) rfl ?_
  simp (disch := first | omega | (simp only [vl]; omega)) only [vcd]
  exact ⟨_, _, rfl, hx⟩

theorem dcR_len {w : List Nat} : (dcR w).length ≤ w.length := by
  unfold dcR
  split
  · simp only [sub, rot]; simp; omega
  · simp
theorem shR_len {w : List Nat} {k : Int} : (shR w k).length ≤ w.length := by
  unfold shR
  split
  · simp only [rot]; simp; omega
  · simp
theorem coR_len {w : List Nat} {k : Int} : (coR w k).length ≤ w.length + 1 := by
  unfold coR
  split
  · have := shR_len (w := w ++ [100]) (k := k); simpa using this
  · simp

theorem cyc_law [Has K 22 ir_spec_l1In] [Has K 23 ir_impl_within] [Has K 64 ir_spec_IsDyck] [Has K 65 ir_impl_areSteps] [Has K 66 ir_impl_count] [Has K 67 ir_impl_IsDyck] [Has K 82 ir_impl_heights] [Has K 99 ir_spec_DyckOfCircle] [Has K 100 ir_impl_DyckOfCircle] [Has K 128 ir_spec_GoodShift] [Has K 129 ir_impl_GoodShift] [Has K 174 ir_spec_IsBalanced] [Has K 175 ir_spec_l28Good] [Has K 176 ir_impl_IsBalanced] [Has K 177 ir_impl_good] [Has K 214 ir_laws_FnCycles] [Has K 220 ir_laws_big] [Has K 221 ir_spec_DrawGoodShift] [Has K 222 ir_impl_CountGoodShifts] [Has K 223 ir_spec_CountGoodShifts] [Has K 224 ir_impl_CircleOf] [Has K 225 ir_spec_DrawShiftWord] [Has K 226 ir_impl_ShiftWord] [Has K 227 ir_spec_ShiftWord] [Has K 228 ir_spec_DrawCircleOf] [Has K 229 ir_spec_CircleOf] [Has K 287 ir_spec_l28Any] [Has K 288 ir_spec_l1New] [Has K 289 ir_spec_l1Below] [Has K 290 ir_spec_l2Any] [Has K 306 ir_spec_l2Draw] [Has K 307 ir_spec_l1Once] [Has K 315 ir_spec_l1Spoil] [Has K 316 ir_spec_l1Byte] [Has K 317 ir_spec_l2Path] [Has K 318 ir_spec_l1Pick] [Has K 327 ir_spec_l1Text] (code : List Nat) : K 214 [LB code] [.b true] := by
  refine body_by (f := ir_laws_FnCycles) rfl ?_; simp only [ir_laws_FnCycles]
  by_cases hl : code.length ≤ 1048576
  · obtain ⟨_, ⟨w, rfl, hw⟩, k1⟩ := DrawGoodShift_ok (K := K) hl
    obtain ⟨_, ⟨a, b, rfl, ha⟩, k2⟩ := DrawShiftWord_ok (K := K) hl
    obtain ⟨_, ⟨e, f, rfl, he⟩, k3⟩ := DrawCircleOf_ok (K := K) hl
    have hw2 : w.length ≤ 1000000000 := by omega
    have ho := gsO_bal (w := w)
    have hdl := dcR_len (w := w)
    have hcl := coR_len (w := e) (k := f)
    simp (disch := first | omega | (simp only [vl]; omega)) only [vcd]
    refine call_by (big_ok (K := K)) rfl ?_
    simp (disch := first | omega | (simp only [vl]; omega)) only [vcd]
    refine call_by (k1) rfl ?_
    simp (disch := first | omega | (simp only [vl]; omega)) only [vcd]
    refine call_by (gs_i (K := K) hw2) rfl ?_
    simp (disch := first | omega | (simp only [vl]; omega)) only [vcd]
    refine call_by (gs_s (K := K) hw2) rfl ?_
    simp (disch := first | omega | (simp only [vl]; omega)) only [vcd]
    refine call_by (dc_i (K := K) hw2) rfl ?_
    simp (disch := first | omega | (simp only [vl]; omega)) only [vcd]
    refine call_by (dc_s (K := K) hw2) rfl ?_
    -- the second half, whatever came before
    have fin : coO e f = true → balF (coR e f) = true := by
      intro hc
      simp only [coO, Bool.and_eq_true] at hc
      simp only [coR, hc.1, if_true]
      exact shR_bal hc.1 hc.2
    cases hb : balF w
    · have ho2 : gsO w = false := by rw [ho, hb]
      simp (disch := first | omega | (simp only [vl]; omega)) only [vcd, ho2]
      refine call_by (bal_i (K := K) hw2) rfl ?_
      simp (disch := first | omega | (simp only [vl]; omega)) only [vcd, hb]
      refine call_by (bal_i (K := K) hw2) rfl ?_
      simp (disch := first | omega | (simp only [vl]; omega)) only [vcd, hb]
      refine call_by (bal_s (K := K) hw2) rfl ?_
      simp (disch := first | omega | (simp only [vl]; omega)) only [vcd, hb]
      refine call_by (cgs_ok_i (K := K) hw2) rfl ?_
      simp (disch := first | omega | (simp only [vl]; omega)) only [vcd]
      refine call_by (cgs_ok_s (K := K) hw2) rfl ?_
      simp (disch := first | omega | (simp only [vl]; omega)) only [vcd]
      refine call_by (k2) rfl ?_
      simp (disch := first | omega | (simp only [vl]; omega)) only [vcd]
      refine call_by (sh_i (K := K) (w := a) (k := b) (by omega)) rfl ?_
      simp (disch := first | omega | (simp only [vl]; omega)) only [vcd]
      refine call_by (sh_s (K := K) (w := a) (k := b) (by omega)) rfl ?_
      simp (disch := first | omega | (simp only [vl]; omega)) only [vcd]
      refine call_by (k3) rfl ?_
      simp (disch := first | omega | (simp only [vl]; omega)) only [vcd]
      refine call_by (co_i (K := K) (w := e) (k := f) (by omega)) rfl ?_
      simp (disch := first | omega | (simp only [vl]; omega)) only [vcd]
      refine call_by (co_s (K := K) (w := e) (k := f) (by omega)) rfl ?_
      cases hc : coO e f
      · simp (disch := first | omega | (simp only [vl]; omega)) only [vcd, hc]
      · simp (disch := first | omega | (simp only [vl]; omega)) only [vcd, hc]
        refine call_by (bal_i (K := K) (w := coR e f) (by omega)) rfl ?_
        simp (disch := first | omega | (simp only [vl]; omega)) only [vcd, fin hc]
    · have ho2 : gsO w = true := by rw [ho, hb]
      obtain ⟨q1, k, q2, q3, q4, q5⟩ := back ho2
      have q6 : ((w.length : Int) - k).tmod w.length = ((w.length : Int) - k) % w.length := tmod_p (by omega)
      simp (disch := first | omega | (simp only [vl]; omega)) only [vcd, ho2]
      refine call_by (bal_i (K := K) hw2) rfl ?_
      simp (disch := first | omega | (simp only [vl]; omega)) only [vcd, hb]
      refine call_by (bal_i (K := K) hw2) rfl ?_
      simp (disch := first | omega | (simp only [vl]; omega)) only [vcd, hb]
      refine call_by (bal_s (K := K) hw2) rfl ?_
      simp (disch := first | omega | (simp only [vl]; omega)) only [vcd, hb]
      refine call_by (cgs_ok_i (K := K) hw2) rfl ?_
      simp (disch := first | omega | (simp only [vl]; omega)) only [vcd]
      refine call_by (cgs_ok_s (K := K) hw2) rfl ?_
      simp (disch := first | omega | (simp only [vl]; omega)) only [vcd]
      refine call_by (cgs_ok_i (K := K) hw2) rfl ?_
      simp (disch := first | omega | (simp only [vl]; omega)) only [vcd, cs_1 hb, q2]
      refine call_by (co_i (K := K) (w := dcR w) (k := ((w.length : Int) - k) % w.length) (by omega)) rfl ?_
      simp (disch := first | omega | (simp only [vl]; omega)) only [vcd, q4, q5]
      refine call_by (dyck_i (K := K) (w := dcR w) (by omega)) rfl ?_
      simp (disch := first | omega | (simp only [vl]; omega)) only [vcd, q1]
      refine call_by (k2) rfl ?_
      simp (disch := first | omega | (simp only [vl]; omega)) only [vcd]
      refine call_by (sh_i (K := K) (w := a) (k := b) (by omega)) rfl ?_
      simp (disch := first | omega | (simp only [vl]; omega)) only [vcd]
      refine call_by (sh_s (K := K) (w := a) (k := b) (by omega)) rfl ?_
      simp (disch := first | omega | (simp only [vl]; omega)) only [vcd]
      refine call_by (k3) rfl ?_
      simp (disch := first | omega | (simp only [vl]; omega)) only [vcd]
      refine call_by (co_i (K := K) (w := e) (k := f) (by omega)) rfl ?_
      simp (disch := first | omega | (simp only [vl]; omega)) only [vcd]
      refine call_by (co_s (K := K) (w := e) (k := f) (by omega)) rfl ?_
      cases hc : coO e f
      · simp (disch := first | omega | (simp only [vl]; omega)) only [vcd, hc]
      · simp (disch := first | omega | (simp only [vl]; omega)) only [vcd, hc]
        refine call_by (bal_i (K := K) (w := coR e f) (by omega)) rfl ?_
        simp (disch := first | omega | (simp only [vl]; omega)) only [vcd, fin hc]
  · simp (disch := first | omega | (simp only [vl]; omega)) only [vcd]
    refine call_by (big_ok (K := K)) rfl ?_
    simp (disch := first | omega | (simp only [vl]; omega)) only [vcd]
end Go.Cat

