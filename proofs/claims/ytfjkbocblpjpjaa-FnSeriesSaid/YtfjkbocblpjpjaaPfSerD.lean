/-
  Series: inverses.
-/
import Derived.Test.YtfjkbocblpjpjaaPfSerB
namespace Go.Cat
variable {K : Nat → List D → List D → Prop}

theorem wrap_ex (x : Int) : ∃ q : Int, IntKind.i64.wrap x = x + 18446744073709551616 * q := by
  have e : x % (2 ^ 64 : Int) = x % 18446744073709551616 := rfl
  have h := Int.emod_def x 18446744073709551616
  simp only [IntKind.wrap, IntKind.bits, IntKind.signed, e]
  split
  · exact ⟨-(x / 18446744073709551616) - 1, by omega⟩
  · exact ⟨-(x / 18446744073709551616), by omega⟩
theorem wrap_eq {x y q : Int} (h : x = y + 18446744073709551616 * q) : IntKind.i64.wrap x = IntKind.i64.wrap y := by
  have : x % (2 ^ 64 : Int) = y % (2 ^ 64 : Int) := by
    show x % 18446744073709551616 = y % 18446744073709551616
    rw [h]; omega
  unfold IntKind.wrap
  rw [show x % (2 ^ IntKind.i64.bits : Int) = y % (2 ^ IntKind.i64.bits : Int) from this]
theorem wrap_wrap {x : Int} : IntKind.i64.wrap (IntKind.i64.wrap x) = IntKind.i64.wrap x := by
  obtain ⟨q, h⟩ := wrap_ex x
  exact wrap_eq h

theorem areWithin_ok [Has K 23 ir_impl_within] [Has K 78 ir_impl_areWithin] {a : List Int} {lo hi : Int} (h : a.length ≤ 1099511627776) : K 78 [LI a, .n lo, .n hi] [.b (a.all (inR lo hi))] := by
  refine body_by (f := ir_impl_areWithin) rfl ?_; simp only [ir_impl_areWithin]
  simp (disch := first | omega | (simp only [vl]; omega)) only [vc]
  refine loop_ix (fun i => ∀ j : Nat, j < i → inR lo hi (atI a j) = true) (fun i => [.u, .n lo, .n hi, .u, .u, LI a, .n a.length, .n i, .u, .u]) a.length (by simp) rfl (fun i hi hP => ?_) (fun hP => ?_)
  · simp (disch := first | omega | (simp only [vl]; omega)) only [vcd]
    refine call_by (within_ok) rfl ?_
    simp (disch := first | omega | (simp only [vl]; omega)) only [vc]
    refine cnd_by (fun h2 => ?_) (fun h2 => ?_) <;> simp only [Bool.not_eq_true', Bool.not_eq_false'] at h2
    · simp (disch := first | omega | (simp only [vl]; omega)) only [vc]
      exact Db (by rw [all_f hi h2])
    · simp (disch := first | omega | (simp only [vl]; omega)) only [vc]
      exact all_s hP h2
  · simp (disch := first | omega | (simp only [vl]; omega)) only [vcd]
    exact Db (by rw [all_t hP])

def invO (a : List Int) : Bool := fineF a && (decide (atI a 0 = 1) || decide (atI a 0 = -1)) && a.all (inR (-10) 10)
/-- The sum of the terms ahead. -/
def invS (a o : List Int) (i n : Nat) : Int := iter (fun k s => IntKind.i64.wrap (s + IntKind.i64.wrap (atI a ((k : Int) + 1) * atI o ((i : Int) + 1 - ((k : Int) + 1))))) n 0
def invF (a : List Int) (n : Nat) : List Int := iter (fun i o => o ++ [IntKind.i64.wrap (IntKind.i64.wrap (0 - atI a 0) * invS a o i (i + 1))]) n [atI a 0]
def invR (a : List Int) : List Int := if invO a = true then invF a (a.length - 1) else []
theorem invF_len {a : List Int} : ∀ {n : Nat}, (invF a n).length = n + 1
  | 0 => rfl
  | n + 1 => by
    show (invF a n ++ [_]).length = _
    rw [List.length_append, invF_len]; rfl
theorem invR_len {a : List Int} : (invR a).length ≤ a.length := by
  unfold invR; split
  · rename_i h
    simp only [invO, Bool.and_eq_true] at h
    have := fineF_len h.1.1
    rw [invF_len]; omega
  · simp

theorem inv_s [Has K 22 ir_spec_l1In] [Has K 55 ir_spec_InverseSeries] [Has K 68 ir_spec_l30Fine] {a : List Int} (h : a.length ≤ 1048576) : K 55 [LI a] [LI (invR a), .b (invO a)] := by
  refine body_by (f := ir_spec_InverseSeries) rfl ?_; simp only [ir_spec_InverseSeries]
  simp (disch := first | omega | (simp only [vl]; omega)) only [vcd]
  cases hf : fineF a
  · repeat (first | (refine call_by (l30Fine_ok (K := K) (by omega)) rfl ?_; try simp (disch := first | omega | (simp only [vl]; omega)) only [vcd, hf]))
    simp [invR, invO, hf]; rfl
  have hl := fineF_len hf
  by_cases h1 : atI a 0 = 1 ∨ atI a 0 = -1
  case neg =>
    have n1 : ¬ atI a 0 = 1 := fun q => h1 (.inl q)
    have n2 : ¬ atI a 0 = -1 := fun q => h1 (.inr q)
    repeat (first | (refine call_by (l30Fine_ok (K := K) (by omega)) rfl ?_; try simp (disch := first | omega | (simp only [vl]; omega)) only [vcd, hf]))
    simp [invR, invO, hf, n1, n2]; rfl
  rcases h1 with h1 | h1
  all_goals
    repeat (first | (refine call_by (l30Fine_ok (K := K) (by omega)) rfl ?_; try simp (disch := first | omega | (simp only [vl]; omega)) only [vcd, hf]))
    refine loop_ix (fun i => ∀ j : Nat, j < i → inR (-10) 10 (atI a j) = true) (fun i => [LI a, .u, .u, .n i, .u, .u, .u, .u, .u, .u, .u, .u, .u]) a.length (by simp) rfl (fun i hi hP => ?_) (fun hP => ?_)
    · simp (disch := first | omega | (simp only [vl]; omega)) only [vcd]
      refine call_by (l1In_ok) rfl ?_
      simp (disch := first | omega | (simp only [vl]; omega)) only [vc]
      refine cnd_by (fun h2 => ?_) (fun h2 => ?_) <;> simp only [Bool.not_eq_true', Bool.not_eq_false'] at h2
      · simp (disch := first | omega | (simp only [vl]; omega)) only [vc]
        have := all_f hi h2
        simp [invR, invO, this]; rfl
      · simp (disch := first | omega | (simp only [vl]; omega)) only [vc]
        exact all_s hP h2
    · have hall := all_t hP
      simp (disch := first | omega | (simp only [vl]; omega)) only [vcd]
      refine loop_fold (fun i (o : List Int) => o ++ [IntKind.i64.wrap (IntKind.i64.wrap (0 - atI a 0) * invS a o i (i + 1))]) (fun i o => o.length = i + 1) (fun i o => [LI a, .u, .u, .u, LI o, .n ((i : Int) + 1), .u, .u, .u, .u, .u, .u, .u]) (a.length - 1) [atI a 0] rfl rfl (fun i o _ ho => by simp [ho]) (fun i o hi ho _ => ?_) (fun o ho1 ho => ?_)
      · simp (disch := first | omega | (simp only [vl]; omega)) only [vcd]
        refine loop_fold (fun k s => IntKind.i64.wrap (s + IntKind.i64.wrap (atI a ((k : Int) + 1) * atI o ((i : Int) + 1 - ((k : Int) + 1))))) (fun _ _ => True) (fun k s => [LI a, .u, .u, .u, LI o, .n ((i : Int) + 1), .n s, .n ((k : Int) + 1), .u, .u, .u, .u, .u]) (i + 1) 0 trivial rfl (fun _ _ _ _ => trivial) (fun k s hk _ _ => ?_) (fun s hs _ => ?_)
        · simp (disch := first | omega | (simp only [vl]; omega)) only [vcd]
        · simp (disch := first | omega | (simp only [vl]; omega)) only [vcd]
          rw [hs]; rfl
      · simp (disch := first | omega | (simp only [vl]; omega)) only [vcd]
        simp [invR, invO, hf, h1, hall]
        rw [ho1]; rfl

theorem inv_i [Has K 23 ir_impl_within] [Has K 56 ir_impl_InverseSeries] [Has K 70 ir_impl_areTerms] [Has K 78 ir_impl_areWithin] {a : List Int} (h : a.length ≤ 1048576) : K 56 [LI a] [LI (invR a), .b (invO a)] := by
  refine body_by (f := ir_impl_InverseSeries) rfl ?_; simp only [ir_impl_InverseSeries]
  simp (disch := first | omega | (simp only [vl]; omega)) only [vcd]
  cases hf : fineF a
  · repeat (first | (refine call_by (areTerms_ok (K := K) (by omega)) rfl ?_; try simp (disch := first | omega | (simp only [vl]; omega)) only [vcd, hf]))
    simp [invR, invO, hf]; rfl
  have hl := fineF_len hf
  by_cases h1 : atI a 0 = 1 ∨ atI a 0 = -1
  case neg =>
    have n1 : ¬ atI a 0 = 1 := fun q => h1 (.inl q)
    have n2 : ¬ atI a 0 = -1 := fun q => h1 (.inr q)
    repeat (first | (refine call_by (areTerms_ok (K := K) (by omega)) rfl ?_; try simp (disch := first | omega | (simp only [vl]; omega)) only [vcd, hf]))
    simp [invR, invO, hf, n1, n2]; rfl
  cases hall : a.all (inR (-10) 10)
  · rcases h1 with h1 | h1
    all_goals
      repeat (first | (refine call_by (areTerms_ok (K := K) (by omega)) rfl ?_; try simp (disch := first | omega | (simp only [vl]; omega)) only [vcd, hf, hall]) | (refine call_by (areWithin_ok (K := K) (by omega)) rfl ?_; try simp (disch := first | omega | (simp only [vl]; omega)) only [vcd, hf, hall]))
      simp [invR, invO, hall]; rfl
  rcases h1 with h1 | h1
  all_goals
    repeat (first | (refine call_by (areTerms_ok (K := K) (by omega)) rfl ?_; try simp (disch := first | omega | (simp only [vl]; omega)) only [vcd, hf, hall]) | (refine call_by (areWithin_ok (K := K) (by omega)) rfl ?_; try simp (disch := first | omega | (simp only [vl]; omega)) only [vcd, hf, hall]))
    refine loop_fold (fun i (o : List Int) => o ++ [IntKind.i64.wrap (IntKind.i64.wrap (0 - atI a 0) * invS a o i (i + 1))]) (fun i o => o.length = i + 1) (fun i o => [LI a, .u, .u, LI o, .n ((i : Int) + 1), .u, .u, .u, .u, .u]) (a.length - 1) [atI a 0] rfl rfl (fun i o _ ho => by simp [ho]) (fun i o hi ho _ => ?_) (fun o ho1 ho => ?_)
    · simp (disch := first | omega | (simp only [vl]; omega)) only [vcd]
      refine loop_up (fun k x => x = IntKind.i64.wrap (-(invS a o i k))) (fun k s => [LI a, .u, .u, LI o, .n ((i : Int) + 1), .n s, .n ((k : Int) + 1), .u, .u, .u]) (i + 1) 0 rfl rfl (fun k x hk hx => ?_) (fun x hx => ?_)
      · simp (disch := first | omega | (simp only [vl]; omega)) only [vcd]
        refine ⟨_, ?_, rfl⟩
        rw [hx]
        show _ = IntKind.i64.wrap (-(IntKind.i64.wrap (invS a o i k + _)))
        obtain ⟨q1, e1⟩ := wrap_ex (-(invS a o i k))
        obtain ⟨q2, e2⟩ := wrap_ex (invS a o i k + IntKind.i64.wrap (atI a ((k : Int) + 1) * atI o ((i : Int) + 1 - ((k : Int) + 1))))
        rw [e1, e2]
        refine wrap_eq (q := q1 + q2) ?_
        omega
      · simp (disch := first | omega | (simp only [vl]; omega)) only [vcd]
        have e : IntKind.i64.wrap (x * atI a 0) = IntKind.i64.wrap ((0 - atI a 0) * invS a o i (i + 1)) := by
          rw [hx, h1]
          generalize invS a o i (i + 1) = S
          obtain ⟨q1, e1⟩ := wrap_ex (-S)
          rw [e1]
          first | exact wrap_eq (q := q1) (by omega) | exact wrap_eq (q := -q1) (by omega)
        rw [e]
    · simp (disch := first | omega | (simp only [vl]; omega)) only [vcd]
      simp [invR, invO, hf, h1, hall]
      rw [ho1]; rfl

theorem inv_law [Has K 22 ir_spec_l1In] [Has K 23 ir_impl_within] [Has K 35 ir_laws_FnExactInverseSeries] [Has K 42 ir_laws_toIntS] [Has K 44 ir_laws_eqIntS] [Has K 45 ir_laws_markIntS] [Has K 46 ir_laws_heldIntS] [Has K 55 ir_spec_InverseSeries] [Has K 56 ir_impl_InverseSeries] [Has K 68 ir_spec_l30Fine] [Has K 70 ir_impl_areTerms] [Has K 78 ir_impl_areWithin] (a : List Int) : K 35 [LI a] [.b true] := by
  refine body_by (f := ir_laws_FnExactInverseSeries) rfl ?_; simp only [ir_laws_FnExactInverseSeries]
  have hr := invR_len (a := a)
  by_cases h : a.length ≤ 1048576 <;> simp (disch := first | omega | (simp only [vl]; omega)) only [vcd]
  repeat (first | (refine call_by (toIntS_ok (K := K) (by omega)) rfl ?_; try simp (disch := first | omega | (simp only [vl]; omega)) only [vcd]) | (refine call_by (inv_s (K := K) h) rfl ?_; try simp (disch := first | omega | (simp only [vl]; omega)) only [vcd]) | (refine call_by (inv_i (K := K) h) rfl ?_; try simp (disch := first | omega | (simp only [vl]; omega)) only [vcd]) | (refine call_by (eqIntS_t (K := K) (by omega)) rfl ?_; try simp (disch := first | omega | (simp only [vl]; omega)) only [vcd]) | (refine call_by (markIntS_ok (K := K) (by omega) (by omega)) rfl ?_; try simp (disch := first | omega | (simp only [vl]; omega)) only [vcd]) | (refine call_by (held_mark (K := K) (by omega) (by omega)) rfl ?_; try simp (disch := first | omega | (simp only [vl]; omega)) only [vcd]))
end Go.Cat

