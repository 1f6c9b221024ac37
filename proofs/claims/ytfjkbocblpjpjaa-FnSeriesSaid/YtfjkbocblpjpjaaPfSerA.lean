/-
  Series: products.
-/
import Derived.Test.YtfjkbocblpjpjaaPfIn
import Derived.Test.YtfjkbocblpjpjaaIrAllA
namespace Go.Cat
variable {K : Nat → List D → List D → Prop}

def fineF (a : List Int) : Bool := a.all (inR (-1000000) 1000000) && inR 1 12 a.length
theorem fineF_len {a : List Int} (h : fineF a = true) : 1 ≤ a.length ∧ a.length ≤ 12 := by
  simp only [fineF, Bool.and_eq_true, inR_iff] at h; omega
theorem fineF_at {a : List Int} (h : fineF a = true) {i : Int} (h0 : 0 ≤ i) (h1 : i < a.length) : -1000000 ≤ atI a i ∧ atI a i ≤ 1000000 := by
  simp only [fineF, Bool.and_eq_true, List.all_eq_true] at h
  refine inR_iff.1 (h.1 _ ?_)
  have : i.toNat < a.length := by omega
  simp [atI, this]

theorem areTerms_ok [Has K 23 ir_impl_within] [Has K 70 ir_impl_areTerms] {a : List Int} (h : a.length ≤ 1099511627776) : K 70 [LI a] [.b (fineF a)] := by
  refine body_by (f := ir_impl_areTerms) rfl ?_; simp only [ir_impl_areTerms]
  simp (disch := first | omega | (simp only [vl]; omega)) only [vc]
  refine loop_ix (fun i => ∀ j : Nat, j < i → inR (-1000000) 1000000 (atI a j) = true) (fun i => [LI a, .u, .u, LI a, .n a.length, .n i, .u, .u]) a.length (by simp) rfl (fun i hi hP => ?_) (fun hP => ?_)
  · simp (disch := first | omega | (simp only [vl]; omega)) only [vcd]
    refine call_by (within_ok) rfl ?_
    simp (disch := first | omega | (simp only [vl]; omega)) only [vc]
    refine cnd_by (fun h2 => ?_) (fun h2 => ?_) <;> simp only [Bool.not_eq_true', Bool.not_eq_false'] at h2
    · simp (disch := first | omega | (simp only [vl]; omega)) only [vc]
      exact Db (by rw [fineF, all_f hi h2]; rfl)
    · simp (disch := first | omega | (simp only [vl]; omega)) only [vc]
      exact all_s hP h2
  · simp (disch := first | omega | (simp only [vl]; omega)) only [vcd]
    refine call_by (within_ok) rfl ?_
    simp (disch := first | omega | (simp only [vl]; omega)) only [vc]
    exact Db (by rw [fineF, all_t hP]; rfl)

theorem l30Fine_ok [Has K 22 ir_spec_l1In] [Has K 68 ir_spec_l30Fine] {a : List Int} (h : a.length ≤ 1099511627776) : K 68 [LI a] [.b (fineF a)] := by
  refine body_by (f := ir_spec_l30Fine) rfl ?_; simp only [ir_spec_l30Fine]
  simp (disch := first | omega | (simp only [vl]; omega)) only [vc]
  refine loop_ix (fun i => ∀ j : Nat, j < i → inR (-1000000) 1000000 (atI a j) = true) (fun i => [LI a, .u, .n i, .u, .u]) a.length (by simp) rfl (fun i hi hP => ?_) (fun hP => ?_)
  · simp (disch := first | omega | (simp only [vl]; omega)) only [vcd]
    refine call_by (l1In_ok) rfl ?_
    simp (disch := first | omega | (simp only [vl]; omega)) only [vc]
    refine cnd_by (fun h2 => ?_) (fun h2 => ?_) <;> simp only [Bool.not_eq_true', Bool.not_eq_false'] at h2
    · simp (disch := first | omega | (simp only [vl]; omega)) only [vc]
      exact Db (by rw [fineF, all_f hi h2]; rfl)
    · simp (disch := first | omega | (simp only [vl]; omega)) only [vc]
      exact all_s hP h2
  · simp (disch := first | omega | (simp only [vl]; omega)) only [vcd]
    refine call_by (l1In_ok) rfl ?_
    simp (disch := first | omega | (simp only [vl]; omega)) only [vc]
    exact Db (by rw [fineF, all_t hP]; rfl)

def timesI (a b : List Int) (i k : Nat) (o : List Int) : List Int := seI o i (IntKind.i64.wrap (atI o i + IntKind.i64.wrap (atI a k * atI b ((i : Int) - k))))
def timesF (a b : List Int) (n : Nat) : List Int := iter (fun i o => iter (timesI a b i) (i + 1) o) n (rep n 0)
theorem timesI_len {a b o : List Int} {i k : Nat} : (timesI a b i k o).length = o.length := by simp [timesI, seI]
theorem timesI_lens {a b o : List Int} {i n : Nat} : (iter (timesI a b i) n o).length = o.length := iter_inv (fun (s : List Int) => s.length = o.length) rfl (fun i s h => by rw [timesI_len, h]) n
theorem timesF_len {a b : List Int} {n : Nat} : (timesF a b n).length = n := iter_inv (fun (s : List Int) => s.length = n) (by simp [rep]) (fun i s h => by rw [timesI_lens, h]) n

theorem times_ok [Has K 71 ir_impl_times] {a b : List Int} (h : a.length ≤ 1099511627776) (hb : a.length ≤ b.length) : K 71 [LI a, LI b] [LI (timesF a b a.length)] := by
  refine body_by (f := ir_impl_times) rfl ?_; simp only [ir_impl_times]
  simp (disch := first | omega | (simp only [vl]; omega)) only [vc]
  refine loop_fold (fun i o => iter (timesI a b i) (i + 1) o) (fun _ (o : List Int) => o.length = a.length) (fun i o => [LI a, LI b, .u, LI o, .u, .u, .n a.length, .n i, .u, .u]) a.length (rep a.length 0) (by simp [rep]) rfl (fun i s _ hs => by rw [timesI_lens, hs]) (fun i o hi ho _ => ?_) (fun o ho1 ho => ?_)
  · simp (disch := first | omega | (simp only [vl]; omega)) only [vcd]
    refine loop_fold (timesI a b i) (fun _ (o : List Int) => o.length = a.length) (fun k o => [LI a, LI b, .u, LI o, .n i, .n k, .n a.length, .n i, .u, .u]) (i + 1) o ho rfl (fun k s _ hs => by rw [timesI_len, hs]) (fun k o2 hk ho2 _ => ?_) (fun o2 ho1 ho2 => ?_)
    · simp (disch := first | omega | (simp only [vl]; omega)) only [vcd, timesI]
    · simp (disch := first | omega | (simp only [vl]; omega)) only [vcd]
      rw [ho1]
  · simp (disch := first | omega | (simp only [vl]; omega)) only [vcd]
    rw [ho1]; rfl

theorem l30Times_ok [Has K 69 ir_spec_l30Times] {a b : List Int} (h : a.length ≤ 1099511627776) (hb : a.length ≤ b.length) : K 69 [LI a, LI b] [LI (timesF a b a.length)] := by
  have hm : min (a.length : Int) (b.length : Int) = a.length := by omega
  refine body_by (f := ir_spec_l30Times) rfl ?_; simp only [ir_spec_l30Times]
  simp (disch := first | omega | (simp only [vl]; omega)) only [vcd, hm]
  refine loop_fold (fun i o => iter (timesI a b i) (i + 1) o) (fun _ (o : List Int) => o.length = a.length) (fun i o => [LI a, LI b, .u, .n a.length, LI o, .n i, .u, .u, .u]) a.length (rep a.length 0) (by simp [rep]) rfl (fun i s _ hs => by rw [timesI_lens, hs]) (fun i o hi ho _ => ?_) (fun o ho1 ho => ?_)
  · simp (disch := first | omega | (simp only [vl]; omega)) only [vcd]
    refine loop_fold (timesI a b i) (fun _ (o : List Int) => o.length = a.length) (fun k o => [LI a, LI b, .u, .n a.length, LI o, .n i, .n k, .u, .u]) (i + 1) o ho rfl (fun k s _ hs => by rw [timesI_len, hs]) (fun k o2 hk ho2 _ => ?_) (fun o2 ho1 ho2 => ?_)
    · simp (disch := first | omega | (simp only [vl]; omega)) only [vcd, timesI]
    · simp (disch := first | omega | (simp only [vl]; omega)) only [vcd]
      rw [ho1]
  · simp (disch := first | omega | (simp only [vl]; omega)) only [vcd]
    rw [ho1]; rfl

def mulO (a b : List Int) : Bool := fineF a && fineF b && decide (a.length = b.length)
def mulR (a b : List Int) : List Int := if mulO a b = true then timesF a b a.length else []

theorem mul_i [Has K 23 ir_impl_within] [Has K 43 ir_impl_MultiplySeries] [Has K 70 ir_impl_areTerms] [Has K 71 ir_impl_times] {a b : List Int} (h : a.length ≤ 1048576) (h2 : b.length ≤ 1048576) : K 43 [LI a, LI b] [LI (mulR a b), .b (mulO a b)] := by
  refine body_by (f := ir_impl_MultiplySeries) rfl ?_; simp only [ir_impl_MultiplySeries]
  simp (disch := first | omega | (simp only [vl]; omega)) only [vcd]
  cases ha : fineF a <;> cases hb : fineF b <;> by_cases hl : a.length = b.length <;> repeat (first | (refine call_by (areTerms_ok (K := K) (by omega)) rfl ?_; try simp (disch := first | omega | (simp only [vl]; omega)) only [vcd, ha, hb]) | (refine call_by (times_ok (K := K) (by omega) (by omega)) rfl ?_; try simp (disch := first | omega | (simp only [vl]; omega)) only [vcd, ha, hb]))
  all_goals simp [mulR, mulO, ha, hb, hl, LI]

theorem mul_s [Has K 22 ir_spec_l1In] [Has K 41 ir_spec_MultiplySeries] [Has K 68 ir_spec_l30Fine] [Has K 69 ir_spec_l30Times] {a b : List Int} (h : a.length ≤ 1048576) (h2 : b.length ≤ 1048576) : K 41 [LI a, LI b] [LI (mulR a b), .b (mulO a b)] := by
  refine body_by (f := ir_spec_MultiplySeries) rfl ?_; simp only [ir_spec_MultiplySeries]
  simp (disch := first | omega | (simp only [vl]; omega)) only [vcd]
  cases ha : fineF a <;> cases hb : fineF b <;> by_cases hl : a.length = b.length <;> repeat (first | (refine call_by (l30Fine_ok (K := K) (by omega)) rfl ?_; try simp (disch := first | omega | (simp only [vl]; omega)) only [vcd, ha, hb]) | (refine call_by (l30Times_ok (K := K) (by omega) (by omega)) rfl ?_; try simp (disch := first | omega | (simp only [vl]; omega)) only [vcd, ha, hb]))
  all_goals simp [mulR, mulO, ha, hb, hl, LI]

theorem mulR_len {a b : List Int} : (mulR a b).length ≤ a.length := by
  unfold mulR; split
  · rw [timesF_len]; exact Nat.le_refl _
  · simp
end Go.Cat

