/-
  Series: binomial sums, the Catalan series, inverses.
-/
import Derived.Test.YtfjkbocblpjpjaaPfSerB
namespace Go.Cat
variable {K : Nat → List D → List D → Prop}

def binS (a : List Int) (n : Nat) : Int := iter (fun k x => IntKind.i64.wrap (x + IntKind.i64.wrap ((bin n k : Int) * atI a k))) (n + 1) 0
def binR (a : List Int) : List Int := if fineF a = true then (List.range a.length).map (binS a) else []

theorem range_snoc {f : Nat → Int} {n : Nat} : (List.range (n + 1)).map f = (List.range n).map f ++ [f n] := by simp [List.range_succ]

theorem bt_i [Has K 23 ir_impl_within] [Has K 25 ir_impl_choose] [Has K 58 ir_impl_BinomialTransform] [Has K 70 ir_impl_areTerms] {a : List Int} (h : a.length ≤ 1048576) : K 58 [LI a] [LI (binR a), .b (fineF a)] := by
  refine body_by (f := ir_impl_BinomialTransform) rfl ?_; simp only [ir_impl_BinomialTransform]
  simp (disch := first | omega | (simp only [vl]; omega)) only [vcd, LI_nil]
  cases hf : fineF a
  · repeat (first | (refine call_by (areTerms_ok (K := K) (by omega)) rfl ?_; try simp (disch := first | omega | (simp only [vl]; omega)) only [vcd, hf]))
    simp [binR, hf]
  · have hl := fineF_len hf
    repeat (first | (refine call_by (areTerms_ok (K := K) (by omega)) rfl ?_; try simp (disch := first | omega | (simp only [vl]; omega)) only [vcd, hf]))
    refine loop_up (fun i (o : List Int) => o = (List.range i).map (binS a)) (fun i o => [LI a, .u, .u, LI o, .u, .u, .u, .u, .n a.length, .n i, .u, .u]) a.length [] rfl rfl (fun i o hi hP => ?_) (fun o hP => ?_)
    · have hol : o.length = i := by rw [hP]; simp
      simp (disch := first | omega | (simp only [vl]; omega)) only [vcd]
      refine loop_fold (fun k x => IntKind.i64.wrap (x + IntKind.i64.wrap ((bin i k : Int) * atI a k))) (fun _ _ => True) (fun k x => [LI a, .u, .u, LI o, .n i, .n x, .n k, .u, .n a.length, .n i, .u, .u]) (i + 1) 0 trivial rfl (fun _ _ _ _ => trivial) (fun k x hk _ _ => ?_) (fun x hx _ => ?_)
      · simp (disch := first | omega | (simp only [vl]; omega)) only [vcd]
        refine call_by (bin_i (K := K) (by omega) hk) rfl ?_
        simp (disch := first | omega | (simp only [vl]; omega)) only [vcd]
      · simp (disch := first | omega | (simp only [vl]; omega)) only [vcd]
        exact ⟨_, by rw [range_snoc, ← hP, binS, ← hx], rfl⟩
    · simp (disch := first | omega | (simp only [vl]; omega)) only [vcd]
      simp [binR, hf, hP]

theorem bt_s [Has K 22 ir_spec_l1In] [Has K 24 ir_spec_l3Binomial] [Has K 57 ir_spec_BinomialTransform] [Has K 68 ir_spec_l30Fine] {a : List Int} (h : a.length ≤ 1048576) : K 57 [LI a] [LI (binR a), .b (fineF a)] := by
  refine body_by (f := ir_spec_BinomialTransform) rfl ?_; simp only [ir_spec_BinomialTransform]
  simp (disch := first | omega | (simp only [vl]; omega)) only [vcd]
  cases hf : fineF a
  · repeat (first | (refine call_by (l30Fine_ok (K := K) (by omega)) rfl ?_; try simp (disch := first | omega | (simp only [vl]; omega)) only [vcd, hf]))
    simp [binR, hf]; rfl
  · have hl := fineF_len hf
    repeat (first | (refine call_by (l30Fine_ok (K := K) (by omega)) rfl ?_; try simp (disch := first | omega | (simp only [vl]; omega)) only [vcd, hf]))
    refine loop_up (fun i (o : List Int) => o = (List.range i).map (binS a)) (fun i o => [LI a, .u, .u, LI o, .n i, .u, .u, .u, .u, .u]) a.length [] rfl rfl (fun i o hi hP => ?_) (fun o hP => ?_)
    · have hol : o.length = i := by rw [hP]; simp
      simp (disch := first | omega | (simp only [vl]; omega)) only [vcd]
      refine loop_fold (fun k x => IntKind.i64.wrap (x + IntKind.i64.wrap ((bin i k : Int) * atI a k))) (fun _ _ => True) (fun k x => [LI a, .u, .u, LI o, .n i, .n x, .n k, .u, .u, .u]) (i + 1) 0 trivial rfl (fun _ _ _ _ => trivial) (fun k x hk _ _ => ?_) (fun x hx _ => ?_)
      · simp (disch := first | omega | (simp only [vl]; omega)) only [vcd]
        refine call_by (bin_s (K := K) (by omega) hk) rfl ?_
        simp (disch := first | omega | (simp only [vl]; omega)) only [vcd]
      · simp (disch := first | omega | (simp only [vl]; omega)) only [vcd]
        exact ⟨_, by rw [range_snoc, ← hP, binS, ← hx], rfl⟩
    · simp (disch := first | omega | (simp only [vl]; omega)) only [vcd]
      simp [binR, hf, hP]

theorem binR_len {a : List Int} : (binR a).length ≤ a.length := by unfold binR; split <;> simp

theorem bt_law [Has K 22 ir_spec_l1In] [Has K 23 ir_impl_within] [Has K 24 ir_spec_l3Binomial] [Has K 25 ir_impl_choose] [Has K 36 ir_laws_FnExactBinomialTransform] [Has K 42 ir_laws_toIntS] [Has K 44 ir_laws_eqIntS] [Has K 45 ir_laws_markIntS] [Has K 46 ir_laws_heldIntS] [Has K 57 ir_spec_BinomialTransform] [Has K 58 ir_impl_BinomialTransform] [Has K 68 ir_spec_l30Fine] [Has K 70 ir_impl_areTerms] (a : List Int) : K 36 [LI a] [.b true] := by
  refine body_by (f := ir_laws_FnExactBinomialTransform) rfl ?_; simp only [ir_laws_FnExactBinomialTransform]
  have hr := binR_len (a := a)
  by_cases h : a.length ≤ 1048576 <;> simp (disch := first | omega | (simp only [vl]; omega)) only [vcd]
  repeat (first | (refine call_by (toIntS_ok (K := K) (by omega)) rfl ?_; try simp (disch := first | omega | (simp only [vl]; omega)) only [vcd]) | (refine call_by (bt_s (K := K) h) rfl ?_; try simp (disch := first | omega | (simp only [vl]; omega)) only [vcd]) | (refine call_by (bt_i (K := K) h) rfl ?_; try simp (disch := first | omega | (simp only [vl]; omega)) only [vcd]) | (refine call_by (eqIntS_t (K := K) (by omega)) rfl ?_; try simp (disch := first | omega | (simp only [vl]; omega)) only [vcd]) | (refine call_by (markIntS_ok (K := K) (by omega) (by omega)) rfl ?_; try simp (disch := first | omega | (simp only [vl]; omega)) only [vcd]) | (refine call_by (held_mark (K := K) (by omega) (by omega)) rfl ?_; try simp (disch := first | omega | (simp only [vl]; omega)) only [vcd]))

def csR (n : Int) : List Int := if inR 1 12 n = true then (List.range n.toNat).map fun i => catL.getD i 0 else []

theorem cs_i [Has K 23 ir_impl_within] [Has K 27 ir_impl_BallotNumber] [Has K 28 ir_impl_CatalanNumber] [Has K 60 ir_impl_CatalanSeries] {n : Int} : K 60 [.n n] [LI (csR n), .b (inR 1 12 n)] := by
  refine body_by (f := ir_impl_CatalanSeries) rfl ?_; simp only [ir_impl_CatalanSeries]
  simp (disch := first | omega | (simp only [vl]; omega)) only [vcd]
  cases hn : inR 1 12 n
  · repeat (first | (refine call_by (within_ok (K := K)) rfl ?_; try simp (disch := first | omega | (simp only [vl]; omega)) only [vcd, hn]))
    simp [csR, hn]; rfl
  · repeat (first | (refine call_by (within_ok (K := K)) rfl ?_; try simp (disch := first | omega | (simp only [vl]; omega)) only [vcd, hn]))
    have hb := inR_iff.1 hn
    obtain ⟨m, rfl⟩ := Int.eq_ofNat_of_zero_le (show 0 ≤ n by omega)
    refine loop_up (fun i (o : List Int) => o = (List.range i).map fun i => catL.getD i 0) (fun i o => [.u, .u, .u, LI o, .u, .u, .n m, .n i, .u]) m [] rfl rfl (fun i o hi hP => ?_) (fun o hP => ?_)
    · have hol : o.length = i := by rw [hP]; simp
      simp (disch := first | omega | (simp only [vl]; omega)) only [vcd]
      refine call_by (cat_i (K := K) (by omega)) rfl ?_
      simp (disch := first | omega | (simp only [vl]; omega)) only [vcd]
      exact ⟨_, by rw [range_snoc, ← hP], rfl⟩
    · simp (disch := first | omega | (simp only [vl]; omega)) only [vcd]
      simp [csR, hn, hP]

theorem cs_s [Has K 22 ir_spec_l1In] [Has K 59 ir_spec_CatalanSeries] [Has K 79 ir_spec_CatalanNumber] [Has K 84 ir_spec_l3Ways] {n : Int} : K 59 [.n n] [LI (csR n), .b (inR 1 12 n)] := by
  refine body_by (f := ir_spec_CatalanSeries) rfl ?_; simp only [ir_spec_CatalanSeries]
  simp (disch := first | omega | (simp only [vl]; omega)) only [vcd]
  cases hn : inR 1 12 n
  · repeat (first | (refine call_by (l1In_ok (K := K)) rfl ?_; try simp (disch := first | omega | (simp only [vl]; omega)) only [vcd, hn]))
    simp [csR, hn]; rfl
  · repeat (first | (refine call_by (l1In_ok (K := K)) rfl ?_; try simp (disch := first | omega | (simp only [vl]; omega)) only [vcd, hn]))
    have hb := inR_iff.1 hn
    obtain ⟨m, rfl⟩ := Int.eq_ofNat_of_zero_le (show 0 ≤ n by omega)
    refine loop_up (fun i (o : List Int) => o = (List.range i).map fun i => catL.getD i 0) (fun i o => [.n m, .u, .u, LI o, .n i, .u, .u]) m [] rfl rfl (fun i o hi hP => ?_) (fun o hP => ?_)
    · have hol : o.length = i := by rw [hP]; simp
      simp (disch := first | omega | (simp only [vl]; omega)) only [vcd]
      refine call_by (cat_s (K := K) (by omega)) rfl ?_
      simp (disch := first | omega | (simp only [vl]; omega)) only [vcd]
      exact ⟨_, by rw [range_snoc, ← hP], rfl⟩
    · simp (disch := first | omega | (simp only [vl]; omega)) only [vcd]
      simp [csR, hn, hP]

theorem csR_len {n : Int} : (csR n).length ≤ 12 := by
  unfold csR; split
  · rename_i h; have := inR_iff.1 h; simp; omega
  · simp

theorem cs_law [Has K 22 ir_spec_l1In] [Has K 23 ir_impl_within] [Has K 27 ir_impl_BallotNumber] [Has K 28 ir_impl_CatalanNumber] [Has K 37 ir_laws_FnExactCatalanSeries] [Has K 44 ir_laws_eqIntS] [Has K 45 ir_laws_markIntS] [Has K 46 ir_laws_heldIntS] [Has K 59 ir_spec_CatalanSeries] [Has K 60 ir_impl_CatalanSeries] [Has K 79 ir_spec_CatalanNumber] [Has K 84 ir_spec_l3Ways] (n : Int) : K 37 [.n n] [.b true] := by
  refine body_by (f := ir_laws_FnExactCatalanSeries) rfl ?_; simp only [ir_laws_FnExactCatalanSeries]
  have hr := csR_len (n := n)
  simp (disch := first | omega | (simp only [vl]; omega)) only [vcd]
  repeat (first | (refine call_by (cs_s (K := K)) rfl ?_; try simp (disch := first | omega | (simp only [vl]; omega)) only [vcd]) | (refine call_by (cs_i (K := K)) rfl ?_; try simp (disch := first | omega | (simp only [vl]; omega)) only [vcd]) | (refine call_by (eqIntS_t (K := K) (by omega)) rfl ?_; try simp (disch := first | omega | (simp only [vl]; omega)) only [vcd]) | (refine call_by (markIntS_ok (K := K) (by omega) (by omega)) rfl ?_; try simp (disch := first | omega | (simp only [vl]; omega)) only [vcd]) | (refine call_by (held_mark (K := K) (by omega) (by omega)) rfl ?_; try simp (disch := first | omega | (simp only [vl]; omega)) only [vcd]))
end Go.Cat

