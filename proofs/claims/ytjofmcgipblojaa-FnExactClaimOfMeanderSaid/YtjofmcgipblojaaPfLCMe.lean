/-
  ClaimOfMeander answers as the reference does.
-/
import Derived.Test.YtjofmcgipblojaaPfMark
import Derived.Test.YtjofmcgipblojaaPfMatP
import Derived.Test.YtjofmcgipblojaaIrAllA
namespace Go.Cat
set_option linter.unusedSimpArgs false
variable {K : Nat → List D → List D → Prop}

theorem putB_I2 {x : List Int} : putB 3 (LI x, 1) = true := by simp [putB, LI, D.one, depB, D.flat]
theorem putB_l2 : putB 3 (.l [], 1) = true := by simp [putB, D.one, depB, D.flat]
theorem LI_appC2 {p : List Int} (h : p.length ≤ 1048576) : appD true (.l []) (LI p) = some (LI p) := LI_app (zs := []) (by simp; omega)
theorem wl_mkM {k : Int} {f s : List Nat} {t : List (List Nat)} {n o : List Int} {r : List (List Int)} {m : Int} : wlD 7 (mkC k f s t n o r m) = some (mkC k f s t n o r m) := rfl

theorem fstM_mem {a b : List Int} : ∀ {ms : List (List Int)}, fstM a ms = some b → b ∈ ms
  | [], h => by cases h
  | c :: l, h => by
    unfold fstM at h
    split at h
    · injection h with h; subst h; exact List.mem_cons_self ..
    · exact List.mem_cons_of_mem _ (fstM_mem h)
theorem PPs_mem {ws ms} (h : PPs ws ms) {m : List Int} (hm : m ∈ ms) : ∃ w ∈ ws, PP w m := by
  induction h with
  | nil => cases hm
  | snoc _ h2 ih =>
    rcases List.mem_append.1 hm with q | q
    · obtain ⟨w, a1, a2⟩ := ih q
      exact ⟨w, List.mem_append_left _ a1, a2⟩
    · obtain rfl := List.mem_singleton.1 q
      exact ⟨_, List.mem_append_right _ (List.mem_singleton.2 rfl), h2⟩

/-- What is made of a matching and its partner. -/
abbrev cmC (a : List Int) (r : Option (List Int)) : D := CL (if r.isSome then 6 else 0) [] [] [] (if r.isSome then a else []) (r.getD []) []
/-- A partner is not too long. -/
def cmR (a : List Int) (r : Option (List Int)) : Prop := ∀ b, r = some b → a.length ≤ 12 ∧ b.length ≤ 12

theorem cme_ok [Has K 22 ir_spec_l1In] [Has K 23 ir_impl_within] [Has K 64 ir_spec_IsDyck] [Has K 75 ir_impl_copyInts] [Has K 234 ir_spec_PathsOf] [Has K 292 ir_spec_l3All] [Has K 314 ir_impl_allPaths] [Has K 326 ir_impl_allPaths_f1] [Has K 333 ir_spec_ClaimOfMeander] [Has K 334 ir_impl_ClaimOfMeander] [Has K 343 ir_spec_MeanderPartner] [Has K 344 ir_impl_MeanderPartner] [Has K 355 ir_spec_IsNoncrossingMatching] [Has K 356 ir_spec_MatchingOf] [Has K 357 ir_spec_IsMeander] [Has K 358 ir_impl_IsNoncrossingMatching] [Has K 359 ir_impl_matchings] [Has K 360 ir_impl_cycles] [Has K 369 ir_spec_CrossingsOf] [Has K 370 ir_spec_l4Partner] [Has K 371 ir_spec_LoopsOf] [Has K 372 ir_impl_CrossingsOf] [Has K 373 ir_impl_partners] [Has K 379 ir_spec_IsMatching] [Has K 380 ir_impl_IsMatching] [Has K 381 ir_impl_arcs] {a : List Int} (h : a.length ≤ 1048576) : ∃ r, cmR a r ∧ K 334 [LI a] [cmC a r, .b r.isSome] ∧ K 333 [LI a] [cmC a r, .b r.isSome] := by
  obtain ⟨rs, ⟨ms, hms, hrs⟩, k1⟩ := mp_i (K := K) (a := a) h
  have k2 := mp_s (K := K) h hms
  rw [← hrs] at k2
  obtain ⟨r, hr, e⟩ : ∃ r, cmR a r ∧ rs = [LI (r.getD []), .b r.isSome] := by
    by_cases q : ncmF a = true ∧ 2 ≤ a.length ∧ a.length ≤ 12
    · rw [if_pos q] at hrs
      refine ⟨_, fun b hb => ⟨q.2.2, ?_⟩, hrs⟩
      obtain ⟨w, hw, hp⟩ := PPs_mem (hms q.1 q.2.1 q.2.2) (fstM_mem hb)
      have := (apd (n := a.length / 2) (by omega) hw).2
      have := hp.1
      omega
    · rw [if_neg q] at hrs
      exact ⟨none, fun b hb => by (cases hb), hrs⟩
  subst e
  refine ⟨r, hr, ?_, ?_⟩
  · refine body_by (f := ir_impl_ClaimOfMeander) rfl ?_; simp only [ir_impl_ClaimOfMeander]
    simp (disch := first | omega | (simp only [vl]; omega)) only [vcd]
    refine call_by (k1) rfl ?_
    cases r with
    | none =>
      simp (disch := first | omega | (simp only [vl]; omega)) only [vcd, putB_I2, putB_l2, Option.isSome_none]
      rfl
    | some b =>
      simp only [Option.isSome_some]
      simp (disch := first | omega | (simp only [vl]; omega)) only [vcd]
      refine call_by (copyInts_ok (K := K) (p := a) (by omega)) rfl ?_
      simp (disch := first | omega | (simp only [vl]; omega)) only [vcd, putB_I2, putB_l2, Option.isSome_some, Option.getD_some]
      rfl
  · refine body_by (f := ir_spec_ClaimOfMeander) rfl ?_; simp only [ir_spec_ClaimOfMeander]
    simp (disch := first | omega | (simp only [vl]; omega)) only [vcd]
    refine call_by (k2) rfl ?_
    cases r with
    | none =>
      simp (disch := first | omega | (simp only [vl]; omega)) only [vcd, putB_I2, putB_l2, Option.isSome_none]
      rfl
    | some b =>
      simp (disch := first | omega | (simp only [vl]; omega)) only [vcd, putB_I2, putB_l2, Option.isSome_some, Option.getD_some, LI_appC2]
      rfl
theorem cme_s {a : List Int} {r : Option (List Int)} (hr : cmR a r) (h : a.length ≤ 1048576) : CLs [] (if r.isSome then a else []) (r.getD []) [] := by
  cases r with
  | none => exact ⟨by simp, by simp, by simp, by simp, by simp⟩
  | some b =>
    have := hr b rfl
    exact ⟨by simp, by simp; omega, by simp; omega, by simp, by simp⟩

theorem cmean_ex [Has K 15 ir_laws_eqStringS] [Has K 16 ir_laws_markStringS] [Has K 17 ir_laws_heldStringS] [Has K 22 ir_spec_l1In] [Has K 23 ir_impl_within] [Has K 26 ir_laws_markText] [Has K 42 ir_laws_toIntS] [Has K 44 ir_laws_eqIntS] [Has K 45 ir_laws_markIntS] [Has K 46 ir_laws_heldIntS] [Has K 64 ir_spec_IsDyck] [Has K 75 ir_impl_copyInts] [Has K 119 ir_laws_eqClaim] [Has K 122 ir_laws_markClaim] [Has K 123 ir_laws_heldClaim] [Has K 155 ir_laws_eqIntSS] [Has K 158 ir_laws_markIntSS] [Has K 159 ir_laws_heldIntSS] [Has K 234 ir_spec_PathsOf] [Has K 292 ir_spec_l3All] [Has K 314 ir_impl_allPaths] [Has K 326 ir_impl_allPaths_f1] [Has K 328 ir_laws_FnExactClaimOfMeander] [Has K 333 ir_spec_ClaimOfMeander] [Has K 334 ir_impl_ClaimOfMeander] [Has K 343 ir_spec_MeanderPartner] [Has K 344 ir_impl_MeanderPartner] [Has K 355 ir_spec_IsNoncrossingMatching] [Has K 356 ir_spec_MatchingOf] [Has K 357 ir_spec_IsMeander] [Has K 358 ir_impl_IsNoncrossingMatching] [Has K 359 ir_impl_matchings] [Has K 360 ir_impl_cycles] [Has K 369 ir_spec_CrossingsOf] [Has K 370 ir_spec_l4Partner] [Has K 371 ir_spec_LoopsOf] [Has K 372 ir_impl_CrossingsOf] [Has K 373 ir_impl_partners] [Has K 379 ir_spec_IsMatching] [Has K 380 ir_impl_IsMatching] [Has K 381 ir_impl_arcs] (p : List Int) : K 328 [LI p] [.b true] := by
  refine body_by (f := ir_laws_FnExactClaimOfMeander) rfl ?_; simp only [ir_laws_FnExactClaimOfMeander]
  by_cases h : p.length ≤ 1048576
  · obtain ⟨r, hr, ci, cs⟩ := cme_ok (K := K) (a := p) h
    have hs := cme_s hr h
    simp (disch := first | omega | (simp only [vl]; omega)) only [vcd, LS_one, LL_one]
    refine call_by (toIntS_ok (K := K) (a := p) (by omega)) rfl ?_
    simp (disch := first | omega | (simp only [vl]; omega)) only [vcd, LS_one, LL_one]
    refine call_by (cs) rfl ?_
    simp (disch := first | omega | (simp only [vl]; omega)) only [vcd, LS_one, LL_one]
    refine call_by (toIntS_ok (K := K) (a := p) (by omega)) rfl ?_
    simp (disch := first | omega | (simp only [vl]; omega)) only [vcd, LS_one, LL_one]
    refine call_by (ci) rfl ?_
    simp (disch := first | omega | (simp only [vl]; omega)) only [vcd, LS_one, LL_one]
    refine call_by (eqClaim_t (K := K) hs.sm) rfl ?_
    simp (disch := first | omega | (simp only [vl]; omega)) only [vcd, LS_one, LL_one]
    refine call_by (toIntS_ok (K := K) (a := p) (by omega)) rfl ?_
    simp (disch := first | omega | (simp only [vl]; omega)) only [vcd, LS_one, LL_one]
    refine call_by (eqIntS_t (K := K) (a := p) (by omega)) rfl ?_
    simp (disch := first | omega | (simp only [vl]; omega)) only [vcd, LS_one, LL_one]
    refine call_by (markIntS_ok (K := K) (a := p) (k := 1) (by omega) (by omega)) rfl ?_
    simp (disch := first | omega | (simp only [vl]; omega)) only [vcd, LS_one, LL_one]
    refine call_by (eqClaim_t (K := K) hs.sm) rfl ?_
    simp (disch := first | omega | (simp only [vl]; omega)) only [vcd, LS_one, LL_one]
    refine call_by (markClaim_ok (K := K) (m := 1) hs (by omega)) rfl ?_
    simp (disch := first | omega | (simp only [vl]; omega)) only [vcd, LS_one, LL_one]
    obtain ⟨q1, q2⟩ := heldClaim_ok (K := K) (k := if r.isSome then 6 else 0) (f := []) (s := []) (m := 1) hs (by omega)
    simp (disch := first | omega | (simp only [vl]; omega)) only [vcd, wl_mkM]
    refine call_by (q1) rfl ?_
    simp (disch := first | omega | (simp only [vl]; omega)) only [vcd, LS_one, LL_one]
    refine call_by (toIntS_ok (K := K) (a := p) (by omega)) rfl ?_
    simp (disch := first | omega | (simp only [vl]; omega)) only [vcd, LS_one, LL_one]
    refine call_by (ci) rfl ?_
    simp (disch := first | omega | (simp only [vl]; omega)) only [vcd, LS_one, LL_one]
    refine call_by (eqClaim_t (K := K) hs.sm) rfl ?_
    simp (disch := first | omega | (simp only [vl]; omega)) only [vcd, LS_one, LL_one, wl_mkM]
    refine call_by (q1) rfl ?_
    simp (disch := first | omega | (simp only [vl]; omega)) only [vcd, LS_one, LL_one]
  · simp (disch := first | omega | (simp only [vl]; omega)) only [vcd]
end Go.Cat

