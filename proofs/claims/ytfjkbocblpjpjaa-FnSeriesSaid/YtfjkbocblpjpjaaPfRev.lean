/-
  Series: reversion.
-/
import Derived.Test.YtfjkbocblpjpjaaPfSerD
import Derived.Test.YtfjkbocblpjpjaaIrAllA
namespace Go.Cat
variable {K : Nat → List D → List D → Prop}

theorem LI_set0 {zs : List Int} {x : Int} (h : 0 < zs.length) : setP [0] (LI zs) (.n x) = some (LI (seI zs 0 x)) := LI_set (i := 0) (by omega)
theorem LI_set1 {zs : List Int} {x : Int} (h : 1 < zs.length) : setP [1] (LI zs) (.n x) = some (LI (seI zs 1 x)) := LI_set (i := 1) (by omega)

/-! ### Products, term by term -/

def cf (a b : List Int) (i m : Nat) (x : Int) : Int := iter (fun k s => IntKind.i64.wrap (s + IntKind.i64.wrap (atI a k * atI b ((i : Int) - k)))) m x

theorem cf_row {a b o : List Int} {i : Nat} (hi : i < o.length) : ∀ {m j : Nat}, atI (iter (timesI a b i) m o) j = if i = j then cf a b i m (atI o i) else atI o j
  | 0, j => by show atI o j = if i = j then atI o i else atI o j; split <;> simp [*]
  | m + 1, j => by
    show atI (timesI a b i m (iter (timesI a b i) m o)) j = _
    rw [timesI, atI_set (by rw [timesI_lens]; exact hi), cf_row hi, cf_row hi]
    by_cases q : i = j
    · subst q; simp [cf, iter]
    · simp [q]

theorem cf_all {a b o : List Int} {n : Nat} : ∀ {m j : Nat}, m ≤ o.length → atI (iter (fun i o => iter (timesI a b i) (i + 1) o) m o) j = if j < m then cf a b j (j + 1) (atI o j) else atI o j
  | 0, j, _ => by simp [iter]
  | m + 1, j, h => by
    have hl : (iter (fun i o => iter (timesI a b i) (i + 1) o) m o).length = o.length := iter_inv (fun (s : List Int) => s.length = o.length) rfl (fun i s h => by rw [timesI_lens, h]) m
    show atI (iter (timesI a b m) (m + 1) (iter (fun i o => iter (timesI a b i) (i + 1) o) m o)) j = _
    rw [cf_row (by rw [hl]; omega), cf_all (n := n) (by omega), cf_all (n := n) (by omega)]
    by_cases q : m = j
    · subst q; simp
    · have e : j < m + 1 ↔ j < m := by omega
      simp [q, e]

theorem atI_rep {n j : Nat} : atI (rep (n : Int) 0) j = 0 := by
  simp only [atI, rep, List.getD_eq_getElem?_getD, List.getElem?_replicate]
  split <;> rfl

theorem times_at {a b : List Int} {n j : Nat} (h : j < n) : atI (timesF a b n) j = cf a b j (j + 1) 0 := by
  rw [timesF, cf_all (n := n) (by simp [rep]), if_pos h, atI_rep]

theorem cf_z {a b : List Int} {i : Nat} : ∀ {m : Nat}, (∀ k : Nat, k < m → atI a k * atI b ((i : Int) - k) = 0) → cf a b i m 0 = 0
  | 0, _ => rfl
  | m + 1, h => by
    show IntKind.i64.wrap (cf a b i m 0 + IntKind.i64.wrap (atI a m * atI b ((i : Int) - m))) = 0
    rw [cf_z fun k hk => h k (by omega), h m (by omega)]; rfl

theorem cf_one {a b : List Int} {i : Nat} {x : Int} (h0 : atI a 0 = 1) (h1 : ∀ k : Nat, 0 < k → atI a k = 0) (hx : IntKind.i64.wrap (atI b i) = atI b i) : ∀ {m : Nat}, cf a b i (m + 1) 0 = atI b i
  | 0 => by
    show IntKind.i64.wrap (0 + IntKind.i64.wrap (atI a (0 : Nat) * atI b ((i : Int) - (0 : Nat)))) = _
    have e : atI a (0 : Nat) * atI b ((i : Int) - (0 : Nat)) = atI b i := by
      have : ((i : Int) - (0 : Nat)) = i := by omega
      rw [this, show atI a ((0 : Nat) : Int) = 1 from h0]; omega
    rw [e, hx, Int.zero_add, hx]
  | m + 1 => by
    show IntKind.i64.wrap (cf a b i (m + 1) 0 + IntKind.i64.wrap (atI a (m + 1 : Nat) * atI b ((i : Int) - (m + 1 : Nat)))) = _
    rw [cf_one (x := x) h0 h1 hx, h1 (m + 1) (by omega), Int.zero_mul, show IntKind.i64.wrap 0 = 0 from rfl, Int.add_zero, hx]

/-- Powers: b, b times b, and so on. -/
def pw (b : List Int) (n : Nat) : Nat → List Int
  | 0 => b
  | j + 1 => timesF (pw b n j) b n
theorem pw_len {b : List Int} {n : Nat} (h : b.length = n) : ∀ {j : Nat}, (pw b n j).length = n
  | 0 => h
  | _ + 1 => timesF_len

theorem atI_out {b : List Int} {j : Nat} (h : b.length ≤ j) : atI b j = 0 := by simp [atI, h]

theorem pw_z {b : List Int} {n : Nat} (hb : b.length = n) (h0 : atI b 0 = 0) : ∀ {j i : Nat}, i ≤ j → atI (pw b n j) i = 0
  | 0, i, h => by
    obtain rfl : i = 0 := by omega
    exact h0
  | j + 1, i, h => by
    rcases Nat.lt_or_ge i n with q | q
    · rw [pw, times_at q]
      refine cf_z fun k hk => ?_
      rcases Nat.lt_or_ge k i with q2 | q2
      · rw [pw_z hb h0 (show k ≤ j by omega), Int.zero_mul]
      · obtain rfl : k = i := by omega
        rw [Int.sub_self, h0, Int.mul_zero]
    · exact atI_out (by rw [pw_len hb]; exact q)

theorem ext_at {a b : List Int} (h : a.length = b.length) (he : ∀ j : Nat, j < a.length → atI a j = atI b j) : a = b := by
  refine List.ext_getElem h fun i h1 h2 => ?_
  have := he i h1
  simpa [atI, h1, h2] using this

def unitL (n : Nat) : List Int := seI (rep (n : Int) 0) 0 1
theorem unit_at {n j : Nat} (h : 0 < n) : atI (unitL n) j = if j = 0 then 1 else 0 := by
  rw [unitL, show (0 : Int) = ((0 : Nat) : Int) from rfl, atI_set (by simp [rep]; omega), show ((0 : Nat) : Int) = 0 from rfl, atI_rep]
  by_cases q : j = 0
  · simp [q]
  · simp [q, Ne.symm q]

theorem unit_times {b : List Int} {n : Nat} (hn : 0 < n) (hb : b.length = n) (hr : ∀ j : Nat, j < n → IntKind.i64.wrap (atI b j) = atI b j) : timesF (unitL n) b n = b := by
  refine ext_at (by rw [timesF_len, hb]) fun j hj => ?_
  rw [timesF_len] at hj
  rw [times_at hj]
  refine cf_one (x := 0) ?_ ?_ (hr j hj)
  · have := unit_at (n := n) (j := 0) hn; exact this
  · intro k hk
    rw [unit_at hn, if_neg (by omega)]

/-! ### The reversion -/

def rvV (a b : List Int) (n i j : Nat) : Int := iter (fun j v => IntKind.i64.wrap (v + IntKind.i64.wrap (atI a ((j : Int) + 2) * atI (pw b n (j + 1)) i))) j 0
theorem rvV_w {a b : List Int} {n i : Nat} : ∀ {j : Nat}, IntKind.i64.wrap (rvV a b n i j) = rvV a b n i j
  | 0 => rfl
  | _ + 1 => wrap_wrap
def rvS (a : List Int) (n i : Nat) (b : List Int) : List Int := seI b ((i : Int) + 2) (IntKind.i64.wrap (0 - rvV a b n (i + 2) (i + 1)))
def rvI (n : Nat) : List Int := seI (rep (n : Int) 0) 1 1
def rvF (a : List Int) (n : Nat) : List Int := iter (rvS a n) (n - 2) (rvI n)
def rvO (a : List Int) : Bool := inR 2 8 a.length && a.all (inR (-3) 3) && decide (atI a 0 = 0) && decide (atI a 1 = 1)
def rvR (a : List Int) : List Int := if rvO a = true then rvF a a.length else []

/-- The rows under way. -/
def rvG (n i : Nat) (b : List Int) : Prop := b.length = n ∧ atI b 0 = 0 ∧ (∀ j : Nat, j < n → IntKind.i64.wrap (atI b j) = atI b j) ∧ ∀ j : Nat, i + 2 ≤ j → atI b j = 0
theorem rvI_at {n j : Nat} (h : 2 ≤ n) : atI (rvI n) j = if j = 1 then 1 else 0 := by
  rw [rvI, show (1 : Int) = ((1 : Nat) : Int) from rfl, atI_set (by simp [rep]; omega), atI_rep]
  by_cases q : j = 1
  · simp [q]
  · simp [q, Ne.symm q]
theorem rvI_G {n : Nat} (h : 2 ≤ n) : rvG n 0 (rvI n) := by
  refine ⟨by simp [rvI, seI, rep], by have := rvI_at (j := 0) h; exact this, fun j _ => ?_, fun j hj => ?_⟩
  · rw [rvI_at h]; split <;> rfl
  · rw [rvI_at h, if_neg (by omega)]
theorem rvS_G {a b : List Int} {n i : Nat} (h : rvG n i b) (hi : i < n - 2) : rvG n (i + 1) (rvS a n i b) := by
  have e : ∀ j : Nat, atI (rvS a n i b) j = if i + 2 = j then IntKind.i64.wrap (0 - rvV a b n (i + 2) (i + 1)) else atI b j := by
    intro j
    rw [rvS, show (i : Int) + 2 = ((i + 2 : Nat) : Int) by omega, atI_set (by rw [h.1]; omega)]
  refine ⟨by simp [rvS, seI, h.1], ?_, fun j hj => ?_, fun j hj => ?_⟩
  · have := e 0
    rw [if_neg (by omega)] at this
    exact this.trans h.2.1
  · rw [e]; split
    · exact wrap_wrap
    · exact h.2.2.1 j hj
  · rw [e, if_neg (by omega)]; exact h.2.2.2 j (by omega)

theorem fine_of {a : List Int} (h : a.all (inR (-3) 3) = true) (hl : inR 2 8 a.length = true) : fineF a = true := by
  simp only [fineF, Bool.and_eq_true, List.all_eq_true] at *
  refine ⟨fun x hx => ?_, ?_⟩
  · have := inR_iff.1 (h x hx)
    exact inR_iff.2 (by omega)
  · have := inR_iff.1 hl
    exact inR_iff.2 (by omega)

theorem rv_i [Has K 23 ir_impl_within] [Has K 71 ir_impl_times] [Has K 78 ir_impl_areWithin] [Has K 104 ir_impl_ReversionOf] {a : List Int} (h : a.length ≤ 1048576) : K 104 [LI a] [LI (rvR a), .b (rvO a)] := by
  refine body_by (f := ir_impl_ReversionOf) rfl ?_; simp only [ir_impl_ReversionOf]
  simp (disch := first | omega | (simp only [vl]; omega)) only [vcd]
  cases hl : inR 2 8 a.length
  · repeat (first | (refine call_by (within_ok (K := K)) rfl ?_; try simp (disch := first | omega | (simp only [vl]; omega)) only [vcd, hl]))
    simp [rvR, rvO, hl]; rfl
  have hb := inR_iff.1 hl
  cases ha : a.all (inR (-3) 3)
  · repeat (first | (refine call_by (within_ok (K := K)) rfl ?_; try simp (disch := first | omega | (simp only [vl]; omega)) only [vcd, hl, ha]) | (refine call_by (areWithin_ok (K := K) (by omega)) rfl ?_; try simp (disch := first | omega | (simp only [vl]; omega)) only [vcd, hl, ha]))
    simp [rvR, rvO, ha]; rfl
  by_cases h0 : atI a 0 = 0
  case neg =>
    repeat (first | (refine call_by (within_ok (K := K)) rfl ?_; try simp (disch := first | omega | (simp only [vl]; omega)) only [vcd, hl, ha]) | (refine call_by (areWithin_ok (K := K) (by omega)) rfl ?_; try simp (disch := first | omega | (simp only [vl]; omega)) only [vcd, hl, ha]))
    simp [rvR, rvO, h0]; rfl
  by_cases h1 : atI a 1 = 1
  case neg =>
    repeat (first | (refine call_by (within_ok (K := K)) rfl ?_; try simp (disch := first | omega | (simp only [vl]; omega)) only [vcd, hl, ha]) | (refine call_by (areWithin_ok (K := K) (by omega)) rfl ?_; try simp (disch := first | omega | (simp only [vl]; omega)) only [vcd, hl, ha]))
    simp [rvR, rvO, h1]; rfl
  repeat (first | (refine call_by (within_ok (K := K)) rfl ?_; try simp (disch := first | omega | (simp only [vl]; omega)) only [vcd, hl, ha, LI_set1]) | (refine call_by (areWithin_ok (K := K) (by omega)) rfl ?_; try simp (disch := first | omega | (simp only [vl]; omega)) only [vcd, hl, ha, LI_set1]))
  refine loop_fold (rvS a a.length) (rvG a.length) (fun i b => [LI a, .u, .u, .n a.length, LI b, .n ((i : Int) + 2), .u, .u, .u, .u, .u, .u]) (a.length - 2) (rvI a.length) (rvI_G (by omega)) rfl (fun i b hi hb => rvS_G hb hi) (fun i b hi hG _ => ?_) (fun b hb1 _ => ?_)
  · have hbl := hG.1
    simp (disch := first | omega | (simp only [vl]; omega)) only [vcd, LI_set0]
    refine loop_up (fun j (x : List Int × Int) => x.1 = (if j = 0 then unitL a.length else pw b a.length (j - 1)) ∧ x.2 = rvV a b a.length (i + 2) (min (j - 1) (i + 1))) (fun j x => [LI a, .u, .u, .n a.length, LI b, .n ((i : Int) + 2), LI x.1, .n x.2, .n ((j : Int) + 1), .u, .u, .u]) (a.length - 1) (unitL a.length, 0) ⟨rfl, by simp; rfl⟩ rfl (fun j x hj hP => ?_) (fun x hP => ?_)
    · have hxl : x.1.length = a.length := by
        rw [hP.1]; split
        · simp [unitL, seI, rep]
        · exact pw_len hbl
      have hp : timesF x.1 b a.length = pw b a.length j := by
        rw [hP.1]
        cases j with
        | zero => exact unit_times (by omega) hbl hG.2.2.1
        | succ j => rfl
      have hpl : (pw b a.length j).length = a.length := pw_len hbl
      have ht := times_ok (K := K) (a := x.1) (b := b) (by omega) (by omega)
      rw [hxl, hp] at ht
      simp (disch := first | omega | (simp only [vl]; omega)) only [vcd]
      refine call_by (ht) rfl ?_
      simp (disch := first | omega | (simp only [vl]; omega)) only [vcd]
      refine ⟨(_, _), ⟨by simp, ?_⟩, rfl⟩
      show IntKind.i64.wrap (x.2 + IntKind.i64.wrap (atI a ((j : Int) + 1) * atI (pw b a.length j) ((i : Int) + 2))) = _
      rw [show (i : Int) + 2 = ((i + 2 : Nat) : Int) by omega, hP.2]
      cases j with
      | zero =>
        have : atI (pw b a.length 0) (i + 2 : Nat) = 0 := hG.2.2.2 _ (by omega)
        rw [this]; simp; rfl
      | succ j =>
        simp only [Nat.add_sub_cancel]
        rcases Nat.lt_or_ge j (i + 1) with q | q
        · rw [show min j (i + 1) = j by omega, show min (j + 1) (i + 1) = j + 1 by omega]
          rfl
        · rw [show min j (i + 1) = i + 1 by omega, show min (j + 1) (i + 1) = i + 1 by omega, pw_z hbl hG.2.1 (by omega), Int.mul_zero, show IntKind.i64.wrap 0 = 0 from rfl, Int.add_zero, rvV_w]
    · have e : min (a.length - 1 - 1) (i + 1) = i + 1 := by omega
      simp (disch := first | omega | (simp only [vl]; omega)) only [vcd]
      rw [hP.2, e]; rfl
  · simp (disch := first | omega | (simp only [vl]; omega)) only [vcd]
    simp [rvR, rvO, hl, ha, h0, h1, hb1]; rfl

theorem rv_s [Has K 22 ir_spec_l1In] [Has K 68 ir_spec_l30Fine] [Has K 69 ir_spec_l30Times] [Has K 103 ir_spec_ReversionOf] {a : List Int} (h : a.length ≤ 1048576) : K 103 [LI a] [LI (rvR a), .b (rvO a)] := by
  refine body_by (f := ir_spec_ReversionOf) rfl ?_; simp only [ir_spec_ReversionOf]
  simp (disch := first | omega | (simp only [vl]; omega)) only [vcd]
  cases hf : fineF a
  · repeat (first | (refine call_by (l30Fine_ok (K := K) (by omega)) rfl ?_; try simp (disch := first | omega | (simp only [vl]; omega)) only [vcd, hf]))
    have : rvO a = false := by
      cases hr : rvO a
      · rfl
      · simp only [rvO, Bool.and_eq_true] at hr
        rw [fine_of hr.1.1.2 hr.1.1.1] at hf; cases hf
    simp [rvR, this]; rfl
  by_cases h2 : 2 ≤ a.length ∧ a.length ≤ 8
  case neg =>
    have hl : inR 2 8 a.length = false := by
      cases hr : inR 2 8 a.length
      · rfl
      · have := inR_iff.1 hr; omega
    by_cases h3 : a.length < 2 <;> repeat (first | (refine call_by (l30Fine_ok (K := K) (by omega)) rfl ?_; try simp (disch := first | omega | (simp only [vl]; omega)) only [vcd, hf]))
    all_goals simp [rvR, rvO, hl]; rfl
  have hl : inR 2 8 a.length = true := inR_iff.2 (by omega)
  obtain ⟨h2, h3⟩ := h2
  by_cases h0 : atI a 0 = 0
  case neg =>
    repeat (first | (refine call_by (l30Fine_ok (K := K) (by omega)) rfl ?_; try simp (disch := first | omega | (simp only [vl]; omega)) only [vcd, hf]))
    simp [rvR, rvO, h0]; rfl
  by_cases h1 : atI a 1 = 1
  case neg =>
    repeat (first | (refine call_by (l30Fine_ok (K := K) (by omega)) rfl ?_; try simp (disch := first | omega | (simp only [vl]; omega)) only [vcd, hf]))
    simp [rvR, rvO, h1]; rfl
  repeat (first | (refine call_by (l30Fine_ok (K := K) (by omega)) rfl ?_; try simp (disch := first | omega | (simp only [vl]; omega)) only [vcd, hf]))
  refine loop_ix (fun i => ∀ j : Nat, j < i → inR (-3) 3 (atI a j) = true) (fun i => [LI a, .u, .u, .n i, .u, .u, .u, .u, .u, .u, .u, .u, .u, .u, .u]) a.length (by simp) rfl (fun i hi hP => ?_) (fun hP => ?_)
  · simp (disch := first | omega | (simp only [vl]; omega)) only [vcd]
    refine call_by (l1In_ok) rfl ?_
    simp (disch := first | omega | (simp only [vl]; omega)) only [vc]
    refine cnd_by (fun h2 => ?_) (fun h2 => ?_) <;> simp only [Bool.not_eq_true', Bool.not_eq_false'] at h2
    · simp (disch := first | omega | (simp only [vl]; omega)) only [vc]
      have := all_f hi h2
      simp [rvR, rvO, this]; rfl
    · simp (disch := first | omega | (simp only [vl]; omega)) only [vc]
      exact all_s hP h2
  · have ha := all_t hP
    simp (disch := first | omega | (simp only [vl]; omega)) only [vcd, LI_set1]
    refine loop_fold (rvS a a.length) (rvG a.length) (fun i b => [LI a, .u, .u, .u, .n a.length, LI b, .n ((i : Int) + 2), .u, .u, .u, .u, .u, .u, .u, .u]) (a.length - 2) (rvI a.length) (rvI_G (by omega)) rfl (fun i b hi hb => rvS_G hb hi) (fun i b hi hG _ => ?_) (fun b hb1 _ => ?_)
    · have hbl := hG.1
      simp (disch := first | omega | (simp only [vl]; omega)) only [vcd, LI_nil, List.nil_append]
      refine loop_up (fun j (x : List Int × Int) => x.1 = pw b a.length j ∧ x.2 = rvV a b a.length (i + 2) j) (fun j x => [LI a, .u, .u, .u, .n a.length, LI b, .n ((i : Int) + 2), .n x.2, LI x.1, .n ((j : Int) + 2), .u, .u, .u, .u, .u]) (i + 1) (b, 0) ⟨rfl, rfl⟩ rfl (fun j x hj hP => ?_) (fun x hP => ?_)
      · have hxl : x.1.length = a.length := by rw [hP.1]; exact pw_len hbl
        have hp : timesF x.1 b a.length = pw b a.length (j + 1) := by rw [hP.1]; rfl
        have hpl : (pw b a.length (j + 1)).length = a.length := pw_len hbl
        have ht := l30Times_ok (K := K) (a := x.1) (b := b) (by omega) (by omega)
        rw [hxl, hp] at ht
        simp (disch := first | omega | (simp only [vl]; omega)) only [vcd]
        refine call_by (ht) rfl ?_
        simp (disch := first | omega | (simp only [vl]; omega)) only [vcd]
        refine ⟨(_, _), ⟨rfl, ?_⟩, rfl⟩
        show IntKind.i64.wrap (x.2 + IntKind.i64.wrap (atI a ((j : Int) + 2) * atI (pw b a.length (j + 1)) ((i : Int) + 2))) = _
        rw [show (i : Int) + 2 = ((i + 2 : Nat) : Int) by omega, hP.2]
        rfl
      · simp (disch := first | omega | (simp only [vl]; omega)) only [vcd]
        rw [hP.2]; rfl
    · simp (disch := first | omega | (simp only [vl]; omega)) only [vcd]
      simp [rvR, rvO, hl, ha, h0, h1, hb1]; rfl

theorem rvF_len {a : List Int} {n : Nat} : (rvF a n).length = n := by
  refine iter_inv (fun (s : List Int) => s.length = n) (by simp [rvI, seI, rep]) (fun i s h => by simp [rvS, seI, h]) _
theorem rvR_len {a : List Int} : (rvR a).length ≤ a.length := by
  unfold rvR; split
  · rw [rvF_len]; exact Nat.le_refl _
  · simp

theorem rv_law [Has K 22 ir_spec_l1In] [Has K 23 ir_impl_within] [Has K 42 ir_laws_toIntS] [Has K 44 ir_laws_eqIntS] [Has K 45 ir_laws_markIntS] [Has K 46 ir_laws_heldIntS] [Has K 68 ir_spec_l30Fine] [Has K 69 ir_spec_l30Times] [Has K 71 ir_impl_times] [Has K 78 ir_impl_areWithin] [Has K 88 ir_laws_FnExactReversionOf] [Has K 103 ir_spec_ReversionOf] [Has K 104 ir_impl_ReversionOf] (a : List Int) : K 88 [LI a] [.b true] := by
  refine body_by (f := ir_laws_FnExactReversionOf) rfl ?_; simp only [ir_laws_FnExactReversionOf]
  have hr := rvR_len (a := a)
  by_cases h : a.length ≤ 1048576 <;> simp (disch := first | omega | (simp only [vl]; omega)) only [vcd]
  repeat (first | (refine call_by (toIntS_ok (K := K) (by omega)) rfl ?_; try simp (disch := first | omega | (simp only [vl]; omega)) only [vcd]) | (refine call_by (rv_s (K := K) h) rfl ?_; try simp (disch := first | omega | (simp only [vl]; omega)) only [vcd]) | (refine call_by (rv_i (K := K) h) rfl ?_; try simp (disch := first | omega | (simp only [vl]; omega)) only [vcd]) | (refine call_by (eqIntS_t (K := K) (by omega)) rfl ?_; try simp (disch := first | omega | (simp only [vl]; omega)) only [vcd]) | (refine call_by (markIntS_ok (K := K) (by omega) (by omega)) rfl ?_; try simp (disch := first | omega | (simp only [vl]; omega)) only [vcd]) | (refine call_by (held_mark (K := K) (by omega) (by omega)) rfl ?_; try simp (disch := first | omega | (simp only [vl]; omega)) only [vcd]))
end Go.Cat

