/-
  ClaimOfSorting answers as the reference does.
-/
import Derived.Test.YthbpihoafdpicaaPfMark
import Derived.Test.YthbpihoafdpicaaPfM231
import Derived.Test.YthbpihoafdpicaaIrAllA
namespace Go.Cat
set_option linter.unusedSimpArgs false
variable {K : Nat → List D → List D → Prop}

theorem putB_I1 {x : List Int} : putB 3 (LI x, 1) = true := by simp [putB, LI, D.one, depB, D.flat]
theorem putB_l1 : putB 3 (.l [], 1) = true := by simp [putB, D.one, depB, D.flat]
theorem LI_appC1 {p : List Int} (h : p.length ≤ 1048576) : appD true (.l []) (LI p) = some (LI p) := LI_app (zs := []) (by simp; omega)

noncomputable def csK (p : List Int) : Int := if pathO p = true then 3 else if permF p = true then 4 else 0
noncomputable def csN (p : List Int) : List Int := if permF p = true then p else []
noncomputable def csO (p : List Int) : List Int := if pathO p = true then [] else if permF p = true then patR p else []
/-- The claim that is made of a permutation. -/
noncomputable abbrev csC (p : List Int) : D := CL (csK p) (pathRR p) [] [] (csN p) (csO p) []

theorem cs_i [Has K 23 ir_impl_within] [Has K 50 ir_impl_PatternOf231] [Has K 74 ir_impl_IsPermutation] [Has K 75 ir_impl_copyInts] [Has K 121 ir_impl_ClaimOfSorting] [Has K 157 ir_impl_PathOfPermutation] [Has K 187 ir_impl_Contains231] [Has K 205 ir_impl_hasTriple] [Has K 206 ir_impl_Contains231_f1] {p : List Int} (h : p.length ≤ 1048576) : K 121 [LI p] [csC p, .b (permF p)] := by
  refine body_by (f := ir_impl_ClaimOfSorting) rfl ?_; simp only [ir_impl_ClaimOfSorting]
  simp (disch := first | omega | (simp only [vl]; omega)) only [vcd]
  refine call_by (perm_i (K := K) (p := p) (by omega)) rfl ?_
  cases hp : permF p
  · have e : pathO p = false := by simp [pathO, hp]
    have e1 : pathRR p = [] := by simp [pathRR, e]
    simp only [csC, csK, csN, csO, e, e1, hp]
    simp (disch := first | omega | (simp only [vl]; omega)) only [vcd, putB_I1, putB_l1]
    rfl
  · have h8 := (permF_t hp).1
    simp (disch := first | omega | (simp only [vl]; omega)) only [vcd]
    refine call_by (path_i (K := K) (p := p) (by omega)) rfl ?_
    cases ho : pathO p
    · have e1 : pathRR p = [] := by simp [pathRR, ho]
      simp only [csC, csK, csN, csO, ho, e1, hp]
      simp (disch := first | omega | (simp only [vl]; omega)) only [vcd]
      refine call_by (pat_i (K := K) (p := p) (by omega)) rfl ?_
      simp (disch := first | omega | (simp only [vl]; omega)) only [vcd]
      refine call_by (copyInts_ok (K := K) (p := p) (by omega)) rfl ?_
      simp (disch := first | omega | (simp only [vl]; omega)) only [vcd, putB_I1, putB_l1]
      rfl
    · simp only [csC, csK, csN, csO, ho, hp]
      simp (disch := first | omega | (simp only [vl]; omega)) only [vcd]
      refine call_by (copyInts_ok (K := K) (p := p) (by omega)) rfl ?_
      simp (disch := first | omega | (simp only [vl]; omega)) only [vcd, putB_I1, putB_l1]
      rfl

theorem path_s0 [Has K 22 ir_spec_l1In] [Has K 73 ir_spec_IsPermutation] [Has K 156 ir_spec_PathOfPermutation] {p : List Int} (h : p.length ≤ 1048576) (hp : permF p = false) : K 156 [LI p] [.s [], .b false] := by
  refine body_by (f := ir_spec_PathOfPermutation) rfl ?_; simp only [ir_spec_PathOfPermutation]
  simp (disch := first | omega | (simp only [vl]; omega)) only [vcd]
  repeat (first | (refine call_by (perm_s (K := K) (by omega)) rfl ?_; try simp (disch := first | omega | (simp only [vl]; omega)) only [vcd, hp]))
theorem pat_s0 [Has K 22 ir_spec_l1In] [Has K 49 ir_spec_PatternOf231] [Has K 73 ir_spec_IsPermutation] {p : List Int} (h : p.length ≤ 1048576) (hp : permF p = false) : K 49 [LI p] [LI [], .b false] := by
  have h1 := pat_s (K := K) (p := p) h
  obtain ⟨e1, e2⟩ := pat_np hp
  rw [e1, e2] at h1
  exact h1

theorem cs_s [Has K 22 ir_spec_l1In] [Has K 49 ir_spec_PatternOf231] [Has K 73 ir_spec_IsPermutation] [Has K 120 ir_spec_ClaimOfSorting] [Has K 156 ir_spec_PathOfPermutation] [Has K 186 ir_spec_Contains231] {p : List Int} (h : p.length ≤ 1048576) : K 120 [LI p] [csC p, .b (permF p)] := by
  refine body_by (f := ir_spec_ClaimOfSorting) rfl ?_; simp only [ir_spec_ClaimOfSorting]
  cases hp : permF p
  · have e : pathO p = false := by simp [pathO, hp]
    have e1 : pathRR p = [] := by simp [pathRR, e]
    simp only [csC, csK, csN, csO, e, e1, hp]
    simp (disch := first | omega | (simp only [vl]; omega)) only [vcd]
    refine call_by (path_s0 (K := K) (p := p) h hp) rfl ?_
    simp (disch := first | omega | (simp only [vl]; omega)) only [vcd]
    refine call_by (pat_s0 (K := K) (p := p) h hp) rfl ?_
    simp (disch := first | omega | (simp only [vl]; omega)) only [vcd, putB_I1, putB_l1]
    rfl
  · have h8 := (permF_t hp).1
    simp (disch := first | omega | (simp only [vl]; omega)) only [vcd]
    refine call_by (path_s (K := K) (p := p) (by omega)) rfl ?_
    cases ho : pathO p
    · have e1 : pathRR p = [] := by simp [pathRR, ho]
      have e2 : patO p = true := by
        rw [patO_c231]
        simpa [pathO, c231P, hp] using ho
      simp only [csC, csK, csN, csO, ho, e1, hp]
      simp (disch := first | omega | (simp only [vl]; omega)) only [vcd]
      refine call_by (pat_s (K := K) (p := p) (by omega)) rfl ?_
      simp (disch := first | omega | (simp only [vl]; omega)) only [vcd, putB_I1, putB_l1, LI_appC1, e2]
      rfl
    · simp only [csC, csK, csN, csO, ho, hp]
      simp (disch := first | omega | (simp only [vl]; omega)) only [vcd, putB_I1, putB_l1, LI_appC1]
      rfl

theorem csC_s (p : List Int) (h : p.length ≤ 1048576) : CLs [] (csN p) (csO p) [] := by
  have h1 := patR_len (p := p)
  refine ⟨by simp, ?_, ?_, by simp, by simp⟩
  · unfold csN
    split
    · rename_i hp
      have := (permF_t hp).1; omega
    · simp
  · unfold csO
    repeat' split
    all_goals first | omega | simp

theorem wl_mk {k : Int} {f s : List Nat} {t : List (List Nat)} {n o : List Int} {r : List (List Int)} {m : Int} : wlD 7 (mkC k f s t n o r m) = some (mkC k f s t n o r m) := rfl

theorem csort_ex [Has K 15 ir_laws_eqStringS] [Has K 16 ir_laws_markStringS] [Has K 17 ir_laws_heldStringS] [Has K 22 ir_spec_l1In] [Has K 23 ir_impl_within] [Has K 26 ir_laws_markText] [Has K 42 ir_laws_toIntS] [Has K 44 ir_laws_eqIntS] [Has K 45 ir_laws_markIntS] [Has K 46 ir_laws_heldIntS] [Has K 49 ir_spec_PatternOf231] [Has K 50 ir_impl_PatternOf231] [Has K 73 ir_spec_IsPermutation] [Has K 74 ir_impl_IsPermutation] [Has K 75 ir_impl_copyInts] [Has K 95 ir_laws_FnExactClaimOfSorting] [Has K 119 ir_laws_eqClaim] [Has K 120 ir_spec_ClaimOfSorting] [Has K 121 ir_impl_ClaimOfSorting] [Has K 122 ir_laws_markClaim] [Has K 123 ir_laws_heldClaim] [Has K 155 ir_laws_eqIntSS] [Has K 156 ir_spec_PathOfPermutation] [Has K 157 ir_impl_PathOfPermutation] [Has K 158 ir_laws_markIntSS] [Has K 159 ir_laws_heldIntSS] [Has K 186 ir_spec_Contains231] [Has K 187 ir_impl_Contains231] [Has K 205 ir_impl_hasTriple] [Has K 206 ir_impl_Contains231_f1] (p : List Int) : K 95 [LI p] [.b true] := by
  refine body_by (f := ir_laws_FnExactClaimOfSorting) rfl ?_; simp only [ir_laws_FnExactClaimOfSorting]
  by_cases h : p.length ≤ 1048576
  · have hs := csC_s p h
    simp (disch := first | omega | (simp only [vl]; omega)) only [vcd, LS_one, LL_one]
    refine call_by (toIntS_ok (K := K) (a := p) (by omega)) rfl ?_
    simp (disch := first | omega | (simp only [vl]; omega)) only [vcd, LS_one, LL_one]
    refine call_by (cs_s (K := K) (p := p) h) rfl ?_
    simp (disch := first | omega | (simp only [vl]; omega)) only [vcd, LS_one, LL_one]
    refine call_by (toIntS_ok (K := K) (a := p) (by omega)) rfl ?_
    simp (disch := first | omega | (simp only [vl]; omega)) only [vcd, LS_one, LL_one]
    refine call_by (cs_i (K := K) (p := p) h) rfl ?_
    simp (disch := first | omega | (simp only [vl]; omega)) only [vcd, LS_one, LL_one]
    refine call_by (eqClaim_t (K := K) hs.sm) rfl ?_
    simp (disch := first | omega | (simp only [vl]; omega)) only [vcd, LS_one, LL_one]
    refine call_by (toIntS_ok (K := K) (a := p) (by omega)) rfl ?_
    simp (disch := first | omega | (simp only [vl]; omega)) only [vcd, LS_one, LL_one]
    refine call_by (eqIntS_t (K := K) (a := p) (by omega)) rfl ?_
    simp (disch := first | omega | (simp only [vl]; omega)) only [vcd, LS_one, LL_one]
    refine call_by (markIntS_ok (K := K) (a := p) (k := 1) (by omega) (by omega)) rfl ?_
    simp (disch := first | omega | (simp only [vl]; omega)) only [vcd, LS_one, LL_one]
    refine call_by (eqClaim_t (K := K) hs.sm) rfl ?_
    simp (disch := first | omega | (simp only [vl]; omega)) only [vcd, LS_one, LL_one]
    refine call_by (markClaim_ok (K := K) (m := 1) hs (by omega)) rfl ?_
    simp (disch := first | omega | (simp only [vl]; omega)) only [vcd, LS_one, LL_one]
    obtain ⟨q1, q2⟩ := heldClaim_ok (K := K) (k := csK p) (f := pathRR p) (s := []) (m := 1) hs (by omega)
    simp (disch := first | omega | (simp only [vl]; omega)) only [vcd, wl_mk]
    refine call_by (q1) rfl ?_
    simp (disch := first | omega | (simp only [vl]; omega)) only [vcd, LS_one, LL_one]
    refine call_by (toIntS_ok (K := K) (a := p) (by omega)) rfl ?_
    simp (disch := first | omega | (simp only [vl]; omega)) only [vcd, LS_one, LL_one]
    refine call_by (cs_i (K := K) (p := p) h) rfl ?_
    simp (disch := first | omega | (simp only [vl]; omega)) only [vcd, LS_one, LL_one]
    refine call_by (eqClaim_t (K := K) hs.sm) rfl ?_
    simp (disch := first | omega | (simp only [vl]; omega)) only [vcd, LS_one, LL_one, wl_mk]
    refine call_by (q1) rfl ?_
    simp (disch := first | omega | (simp only [vl]; omega)) only [vcd, LS_one, LL_one]
  · simp (disch := first | omega | (simp only [vl]; omega)) only [vcd]
end Go.Cat

