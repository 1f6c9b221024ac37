/-
  FormatClaim answers as the reference does.
-/
import Derived.Test.YtjofmcgipblojaaPfTxt
import Derived.Test.YtjofmcgipblojaaPfTree
import Derived.Test.YtjofmcgipblojaaIrAllA
namespace Go.Cat
set_option linter.unusedSimpArgs false
variable {K : Nat → List D → List D → Prop}

def cwL : List (List Nat) := [[98, 101, 108, 111, 119], [100, 105, 115, 116, 97, 110, 99, 101], [115, 111, 114, 116, 101, 100], [117, 110, 115, 111, 114, 116, 101, 100], [102, 114, 105, 101, 122, 101], [109, 101, 97, 110, 100, 101, 114]]
/-- The word of a kind of claims. -/
def cwF (k : Int) : List Nat := if inR 1 6 k = true then atS cwL (k - 1) else []
theorem ls_6 {a b c d e f : List Nat} : liD [.s a, .s b, .s c, .s d, .s e, .s f] = some (LS [a, b, c, d, e, f]) := rfl
theorem cw_i [Has K 8 ir_impl_ClaimWord] [Has K 23 ir_impl_within] {k : Int} : K 8 [.n k] [.s (cwF k)] := by
  refine body_by (f := ir_impl_ClaimWord) rfl ?_; simp only [ir_impl_ClaimWord]
  simp (disch := first | omega | (simp only [vl]; omega)) only [vcd]
  refine call_by (within_ok (K := K)) rfl ?_
  cases h : inR 1 6 k
  · simp (disch := first | omega | (simp only [vl]; omega)) only [vcd]
    simp [cwF, h]
  · have := inR_iff.1 h
    simp (disch := first | omega | (simp only [vl]; omega)) only [vcd, ls_6]
    simp [cwF, h, cwL]
theorem cw_s [Has K 7 ir_spec_ClaimWord] [Has K 22 ir_spec_l1In] {k : Int} : K 7 [.n k] [.s (cwF k)] := by
  refine body_by (f := ir_spec_ClaimWord) rfl ?_; simp only [ir_spec_ClaimWord]
  simp (disch := first | omega | (simp only [vl]; omega)) only [vcd]
  refine call_by (l1In_ok (K := K)) rfl ?_
  cases h : inR 1 6 k
  · simp (disch := first | omega | (simp only [vl]; omega)) only [vcd]
    simp [cwF, h]
  · have := inR_iff.1 h
    simp (disch := first | omega | (simp only [vl]; omega)) only [vcd, ls_6]
    simp [cwF, h, cwL]
theorem cw_len {k : Int} : (cwF k).length ≤ 8 := by
  unfold cwF
  split
  · exact atS_len (b := 8) (ws := cwL) (by decide) (i := (k - 1).toNat) |> fun h => by
      have e : atS cwL (k - 1) = atS cwL ((k - 1).toNat : Nat) := by simp [atS]
      rw [e]; exact h
  · simp

theorem nmF_len {l : List Int} : (nmF l).length ≤ 1000 := by
  unfold nmF
  split
  · simp
  · have h1 := glT_len (sep := [44]) (nmW_b (l := l)) (nmW l).length
    have := nmW_len (l := l)
    simp only [glue, List.length_cons, List.length_nil] at *
    omega
theorem dgF_len {d : List (List Int)} : (dgF d).length ≤ 1000 := by
  unfold dgF
  split
  · simp
  · split
    · simp
    · split
      · rename_i _ h20 ha
        have hb : ∀ x ∈ dgW d, x.length ≤ 40 := by
          intro x hx
          obtain ⟨r, hr1, rfl⟩ := List.mem_map.1 hx
          obtain ⟨h2, q1, q2⟩ := dgB_len (List.all_eq_true.1 ha r hr1)
          have b1 := inR_iff.1 q1
          have b2 := inR_iff.1 q2
          have l1 := fmt_len (n := atI r 0) (by omega)
          have l2 := fmt_len (n := atI r 1) (by omega)
          simp only [List.length_append]; omega
        have h1 := glT_len (sep := [32]) hb (dgW d).length
        have := dgW_len (d := d)
        simp only [glue, List.length_cons, List.length_nil] at *
        omega
      · simp

/-- Words, each behind a space. -/
def spT (t : List (List Nat)) : Nat → List Nat
  | 0 => []
  | i + 1 => spT t i ++ ([32] ++ atS t i)
theorem spT_gl {t : List (List Nat)} : ∀ i, spT t (i + 1) = [32] ++ glT [32] t (i + 1)
  | 0 => by simp [spT, glT]
  | i + 1 => by
    have e : glT [32] t (i + 1 + 1) = glT [32] t (i + 1) ++ [32] ++ atS t ((i + 1 : Nat) : Int) := by
      show glT [32] t (i + 1) ++ (if 0 < i + 1 then [32] else []) ++ _ = _
      rw [if_pos (by omega)]
    rw [e, spT, spT_gl i]
    simp only [List.append_assoc]
theorem spT_len {t : List (List Nat)} {i : Nat} (h : ∀ j : Nat, j < i → isB (atS t j) = true) : (spT t i).length ≤ i * 26 := by
  induction i with
  | zero => simp [spT]
  | succ i ih =>
    have h1 := ih fun j hj => h j (by omega)
    obtain ⟨x, hx, hn⟩ := isB_t (h i (by omega))
    have h2 := BT.tl x
    simp only [spT, List.length_append, List.length_cons, List.length_nil, hx]
    omega
open Classical in
/-- The text of a claim. -/
noncomputable def fcF (k : Int) (f : List Nat) (t : List (List Nat)) (n o : List Int) (r : List (List Int)) : List Nat :=
  if k = 1 ∨ k = 2 then (if (1 ≤ t.length ∧ t.length ≤ 40) ∧ ∀ j : Nat, j < t.length → isB (atS t j) = true then cwF k ++ spT t t.length else [])
  else if k = 3 then (if dyck f = true then cwF k ++ [32] ++ nmF n ++ [32, 98, 121, 32] ++ f else [])
  else if k = 5 then (if dgF r = [] then [] else cwF k ++ [32] ++ nmF n ++ [32, 98, 121, 32] ++ dgF r)
  else if k = 4 ∨ k = 6 then cwF k ++ [32] ++ nmF n ++ [32, 98, 121, 32] ++ nmF o
  else []

structure CLf (f : List Nat) (t : List (List Nat)) (n o : List Int) (r : List (List Int)) : Prop where
  lf : f.length ≤ 1000000000
  ln : n.length ≤ 1099511627776
  lo : o.length ≤ 1099511627776
  lr : r.length ≤ 1099511627776
  lrs : ∀ x ∈ r, x.length ≤ 1099511627776

theorem fc_i [Has K 8 ir_impl_ClaimWord] [Has K 23 ir_impl_within] [Has K 67 ir_impl_IsDyck] [Has K 82 ir_impl_heights] [Has K 143 ir_impl_FormatInt] [Has K 167 ir_impl_IsBinary] [Has K 184 ir_impl_glued] [Has K 194 ir_impl_parseTree] [Has K 197 ir_impl_tree_nodes] [Has K 208 ir_impl_readTree] [Has K 342 ir_impl_FormatClaim] [Has K 353 ir_impl_short] [Has K 354 ir_impl_FormatDiagonals] {k : Int} {f s : List Nat} {t : List (List Nat)} {n o : List Int} {r : List (List Int)} (h : CLf f t n o r) : K 342 [CL k f s t n o r] [.s (fcF k f t n o r)] := by
  obtain ⟨lf, ln, lo, lr, lrs⟩ := h
  have w1 := cw_len (k := k)
  have w2 := nmF_len (l := n)
  have w3 := nmF_len (l := o)
  have w4 := dgF_len (d := r)
  refine body_by (f := ir_impl_FormatClaim) rfl ?_; simp only [ir_impl_FormatClaim]
  simp (disch := first | omega | (simp only [vl]; omega)) only [vcd, LS_known, LI_known, LL_known]
  refine call_by (cw_i (K := K) (k := k)) rfl ?_
  by_cases h12 : k = 1 ∨ k = 2
  · have hv : fcF k f t n o r = if (1 ≤ t.length ∧ t.length ≤ 40) ∧ ∀ j : Nat, j < t.length → isB (atS t j) = true then cwF k ++ spT t t.length else [] := if_pos h12
    rcases h12 with h1 | h1
    all_goals
      rw [hv]
      simp (disch := first | omega | (simp only [vl]; omega)) only [vcd, LS_known, LI_known, LL_known]
      refine call_by (within_ok (K := K)) rfl ?_
      by_cases hl : 1 ≤ t.length ∧ t.length ≤ 40
      · have hi : inR 1 40 (t.length : Int) = true := inR_iff.2 (by omega)
        simp (disch := first | omega | (simp only [vl]; omega)) only [vcd, hi, LS_known]
        refine loop_ix (fun i => ∀ j : Nat, j < i → isB (atS t j) = true) (fun i => [.u, .p [.n k, .s f, .s s, LS t, LI n, LI o, LL r], .u, .s (cwF k), .u, .u, .u, .u, .u, LS t, .n t.length, .n i, .u, .u, .u, .u, .u, .u, .u]) t.length (by simp) rfl (fun i hi hP => ?_) (fun hP => ?_)
        · simp (disch := first | omega | (simp only [vl]; omega)) only [vcd]
          refine call_by (isb_i (K := K)) rfl ?_
          cases hb : isB (atS t i)
          · simp (disch := first | omega | (simp only [vl]; omega)) only [vcd]
            rw [if_neg fun q => by have := q.2 i hi; rw [hb] at this; cases this]
          · simp (disch := first | omega | (simp only [vl]; omega)) only [vcd]
            exact all_s hP hb
        · rw [if_pos ⟨hl, hP⟩]
          have hsl := spT_len hP
          have e : spT t t.length = [32] ++ glue [32] t := by
            obtain ⟨m, hm⟩ : ∃ m, t.length = m + 1 := ⟨t.length - 1, by omega⟩
            rw [glue, hm, spT_gl]
          rw [e] at hsl ⊢
          simp only [List.length_append, List.length_cons, List.length_nil] at hsl
          have kg := glued_ok (K := K) (ws := t) (sep := [32]) (by omega) (fun x hx => by
            obtain ⟨j, hj, rfl⟩ := List.getElem_of_mem hx
            have hb := hP j hj
            obtain ⟨y, hy, hn⟩ := isB_t hb
            have h2 := BT.tl y
            have e : atS t j = t[j] := by simp [atS, hj]
            rw [← e, hy]; omega) (by simp)
          simp (disch := first | omega | (simp only [vl]; omega)) only [vcd, LS_known]
          refine call_by (kg) rfl ?_
          simp (disch := first | omega | (simp only [vl]; omega)) only [vcd]
          simp
      · have hi : inR 1 40 (t.length : Int) = false := inR_f.2 (by omega)
        rw [if_neg fun q => hl q.1]
        simp (disch := first | omega | (simp only [vl]; omega)) only [vcd, hi]
  · have g1 : k ≠ 1 := fun q => h12 (.inl q)
    have g2 : k ≠ 2 := fun q => h12 (.inr q)
    by_cases h3 : k = 3
    · have hv : fcF k f t n o r = if dyck f = true then cwF k ++ [32] ++ nmF n ++ [32, 98, 121, 32] ++ f else [] := by unfold fcF; rw [if_neg h12, if_pos h3]
      rw [hv]
      simp (disch := first | omega | (simp only [vl]; omega)) only [vcd, LS_known, LI_known, LL_known]
      refine call_by (dyck_i (K := K) (w := f) lf) rfl ?_
      cases hd : dyck f
      · simp (disch := first | omega | (simp only [vl]; omega)) only [vcd]
        rfl
      · simp (disch := first | omega | (simp only [vl]; omega)) only [vcd, LI_known]
        refine call_by (short_ok (K := K) (l := n) (by omega)) rfl ?_
        simp (disch := first | omega | (simp only [vl]; omega)) only [vcd]
    · by_cases h5 : k = 5
      · have hv : fcF k f t n o r = if dgF r = [] then [] else cwF k ++ [32] ++ nmF n ++ [32, 98, 121, 32] ++ dgF r := by unfold fcF; rw [if_neg h12, if_neg h3, if_pos h5]
        rw [hv]
        simp (disch := first | omega | (simp only [vl]; omega)) only [vcd, LS_known, LI_known, LL_known]
        refine call_by (dg_i (K := K) (d := r) (by omega) (fun x hx => Nat.le_trans (lrs x hx) (by omega))) rfl ?_
        by_cases hd : dgF r = []
        · simp (disch := first | omega | (simp only [vl]; omega)) only [vcd, hd]
        · have e : (dgF r == []) = false := beq_eq_false_iff_ne.2 hd
          rw [if_neg hd]
          simp (disch := first | omega | (simp only [vl]; omega)) only [vcd, e, LI_known]
          refine call_by (short_ok (K := K) (l := n) (by omega)) rfl ?_
          simp (disch := first | omega | (simp only [vl]; omega)) only [vcd]
      · by_cases h46 : k = 4 ∨ k = 6
        · have hv : fcF k f t n o r = cwF k ++ [32] ++ nmF n ++ [32, 98, 121, 32] ++ nmF o := by unfold fcF; rw [if_neg h12, if_neg h3, if_neg h5, if_pos h46]
          rw [hv]
          rcases h46 with h4 | h4
          all_goals
            simp (disch := first | omega | (simp only [vl]; omega)) only [vcd, LS_known, LI_known, LL_known]
            refine call_by (short_ok (K := K) (l := n) (by omega)) rfl ?_
            simp (disch := first | omega | (simp only [vl]; omega)) only [vcd, LI_known]
            refine call_by (short_ok (K := K) (l := o) (by omega)) rfl ?_
            simp (disch := first | omega | (simp only [vl]; omega)) only [vcd]
        · have hv : fcF k f t n o r = [] := by unfold fcF; rw [if_neg h12, if_neg h3, if_neg h5, if_neg h46]
          have g3 : k ≠ 4 := fun q => h46 (.inl q)
          have g4 : k ≠ 6 := fun q => h46 (.inr q)
          rw [hv]
          simp (disch := first | omega | (simp only [vl]; omega)) only [vcd, LS_known, LI_known, LL_known]

theorem fc_s [Has K 7 ir_spec_ClaimWord] [Has K 22 ir_spec_l1In] [Has K 64 ir_spec_IsDyck] [Has K 138 ir_spec_FormatInt] [Has K 160 ir_spec_IsBinary] [Has K 188 ir_spec_l6End] [Has K 341 ir_spec_FormatClaim] [Has K 351 ir_spec_l33Numbers] [Has K 352 ir_spec_FormatDiagonals] {k : Int} {f s : List Nat} {t : List (List Nat)} {n o : List Int} {r : List (List Int)} (h : CLf f t n o r) : K 341 [CL k f s t n o r] [.s (fcF k f t n o r)] := by
  obtain ⟨lf, ln, lo, lr, lrs⟩ := h
  have w1 := cw_len (k := k)
  have w2 := nmF_len (l := n)
  have w3 := nmF_len (l := o)
  have w4 := dgF_len (d := r)
  refine body_by (f := ir_spec_FormatClaim) rfl ?_; simp only [ir_spec_FormatClaim]
  simp (disch := first | omega | (simp only [vl]; omega)) only [vcd, LS_known, LI_known, LL_known]
  refine call_by (cw_s (K := K) (k := k)) rfl ?_
  by_cases h12 : k = 1 ∨ k = 2
  · have hv : fcF k f t n o r = if (1 ≤ t.length ∧ t.length ≤ 40) ∧ ∀ j : Nat, j < t.length → isB (atS t j) = true then cwF k ++ spT t t.length else [] := if_pos h12
    rcases h12 with h1 | h1
    all_goals
      rw [hv]
      by_cases hl : 1 ≤ t.length ∧ t.length ≤ 40
      · simp (disch := first | omega | (simp only [vl]; omega)) only [vcd, LS_known, LI_known, LL_known]
        refine loop_ix (fun i => ∀ j : Nat, j < i → isB (atS t j) = true) (fun i => [.u, .p [.n k, .s f, .s s, LS t, LI n, LI o, LL r], .u, .s (cwF k ++ spT t i), .n i, .u, .u, .u, .u, .u, .u, .u, .u, .u, .u, .u]) t.length (by simp) (by simp [spT]) (fun i hi hP => ?_) (fun hP => ?_)
        · simp (disch := first | omega | (simp only [vl]; omega)) only [vcd, LS_known]
          refine call_by (isb_s (K := K)) rfl ?_
          cases hb : isB (atS t i)
          · simp (disch := first | omega | (simp only [vl]; omega)) only [vcd]
            rw [if_neg fun q => by have := q.2 i hi; rw [hb] at this; cases this]
          · have hsl := spT_len hP
            obtain ⟨y, hy, hn⟩ := isB_t hb
            have h2 := BT.tl y
            have h3 : (atS t i).length ≤ 25 := by rw [hy]; omega
            simp (disch := first | omega | (simp only [vl]; omega)) only [vcd, LS_known]
            exact ⟨all_s hP hb, by simp [spT]⟩
        · rw [if_pos ⟨hl, hP⟩]
          simp (disch := first | omega | (simp only [vl]; omega)) only [vcd, LS_known]
      · rw [if_neg fun q => hl q.1]
        by_cases h40 : 40 < t.length
        · simp (disch := first | omega | (simp only [vl]; omega)) only [vcd, LS_known, LI_known, LL_known]
        · have h0 : t.length = 0 := by omega
          simp (disch := first | omega | (simp only [vl]; omega)) only [vcd, LS_known, LI_known, LL_known]
  · have g1 : k ≠ 1 := fun q => h12 (.inl q)
    have g2 : k ≠ 2 := fun q => h12 (.inr q)
    by_cases h3 : k = 3
    · have hv : fcF k f t n o r = if dyck f = true then cwF k ++ [32] ++ nmF n ++ [32, 98, 121, 32] ++ f else [] := by unfold fcF; rw [if_neg h12, if_pos h3]
      rw [hv]
      simp (disch := first | omega | (simp only [vl]; omega)) only [vcd, LS_known, LI_known, LL_known]
      refine call_by (dyck_s (K := K) (w := f) lf) rfl ?_
      cases hd : dyck f
      · simp (disch := first | omega | (simp only [vl]; omega)) only [vcd]
        rfl
      · simp (disch := first | omega | (simp only [vl]; omega)) only [vcd, LI_known]
        refine call_by (short_s (K := K) (l := n) (by omega)) rfl ?_
        simp (disch := first | omega | (simp only [vl]; omega)) only [vcd]
    · by_cases h5 : k = 5
      · have hv : fcF k f t n o r = if dgF r = [] then [] else cwF k ++ [32] ++ nmF n ++ [32, 98, 121, 32] ++ dgF r := by unfold fcF; rw [if_neg h12, if_neg h3, if_pos h5]
        rw [hv]
        simp (disch := first | omega | (simp only [vl]; omega)) only [vcd, LS_known, LI_known, LL_known]
        refine call_by (dg_s (K := K) (d := r) (by omega) (fun x hx => Nat.le_trans (lrs x hx) (by omega))) rfl ?_
        by_cases hd : dgF r = []
        · simp (disch := first | omega | (simp only [vl]; omega)) only [vcd, hd]
        · have e : (dgF r == []) = false := beq_eq_false_iff_ne.2 hd
          rw [if_neg hd]
          simp (disch := first | omega | (simp only [vl]; omega)) only [vcd, e, LI_known]
          refine call_by (short_s (K := K) (l := n) (by omega)) rfl ?_
          simp (disch := first | omega | (simp only [vl]; omega)) only [vcd]
      · by_cases h46 : k = 4 ∨ k = 6
        · have hv : fcF k f t n o r = cwF k ++ [32] ++ nmF n ++ [32, 98, 121, 32] ++ nmF o := by unfold fcF; rw [if_neg h12, if_neg h3, if_neg h5, if_pos h46]
          rw [hv]
          rcases h46 with h4 | h4
          all_goals
            simp (disch := first | omega | (simp only [vl]; omega)) only [vcd, LS_known, LI_known, LL_known]
            refine call_by (short_s (K := K) (l := n) (by omega)) rfl ?_
            simp (disch := first | omega | (simp only [vl]; omega)) only [vcd, LI_known]
            refine call_by (short_s (K := K) (l := o) (by omega)) rfl ?_
            simp (disch := first | omega | (simp only [vl]; omega)) only [vcd]
        · have hv : fcF k f t n o r = [] := by unfold fcF; rw [if_neg h12, if_neg h3, if_neg h5, if_neg h46]
          have g3 : k ≠ 4 := fun q => h46 (.inl q)
          have g4 : k ≠ 6 := fun q => h46 (.inr q)
          rw [hv]
          simp (disch := first | omega | (simp only [vl]; omega)) only [vcd, LS_known, LI_known, LL_known]

/-- A claim whose first text is too long is too big. -/
theorem szClaim_f [Has K 115 ir_laws_szClaim] {k : Int} {f s : List Nat} {t : List (List Nat)} {n o : List Int} {r : List (List Int)} (h : CLok f s t n o r) (hf : ¬ f.length ≤ 1048576) : K 115 [CL k f s t n o r, .n 1048576] [.n (-1)] := by
  have h1 := h.lf
  have h2 := h.ls
  refine body_by (f := ir_laws_szClaim) rfl ?_; simp only [ir_laws_szClaim]
  simp (disch := first | omega | (simp only [vl]; omega)) only [vcd, LS_known, LI_known, LL_known]

theorem fcl_law [Has K 7 ir_spec_ClaimWord] [Has K 8 ir_impl_ClaimWord] [Has K 15 ir_laws_eqStringS] [Has K 22 ir_spec_l1In] [Has K 23 ir_impl_within] [Has K 42 ir_laws_toIntS] [Has K 44 ir_laws_eqIntS] [Has K 64 ir_spec_IsDyck] [Has K 67 ir_impl_IsDyck] [Has K 82 ir_impl_heights] [Has K 115 ir_laws_szClaim] [Has K 117 ir_laws_toClaim] [Has K 119 ir_laws_eqClaim] [Has K 138 ir_spec_FormatInt] [Has K 143 ir_impl_FormatInt] [Has K 145 ir_laws_szStringS] [Has K 146 ir_laws_szIntS] [Has K 147 ir_laws_szIntSS] [Has K 151 ir_laws_toStringS] [Has K 152 ir_laws_toIntSS] [Has K 155 ir_laws_eqIntSS] [Has K 160 ir_spec_IsBinary] [Has K 167 ir_impl_IsBinary] [Has K 184 ir_impl_glued] [Has K 188 ir_spec_l6End] [Has K 194 ir_impl_parseTree] [Has K 197 ir_impl_tree_nodes] [Has K 208 ir_impl_readTree] [Has K 332 ir_laws_FnExactFormatClaim] [Has K 341 ir_spec_FormatClaim] [Has K 342 ir_impl_FormatClaim] [Has K 351 ir_spec_l33Numbers] [Has K 352 ir_spec_FormatDiagonals] [Has K 353 ir_impl_short] [Has K 354 ir_impl_FormatDiagonals] {k : Int} {f s : List Nat} {t : List (List Nat)} {n o : List Int} {r : List (List Int)} (h : CLok f s t n o r) : K 332 [CL k f s t n o r] [.b true] := by
  refine body_by (f := ir_laws_FnExactFormatClaim) rfl ?_; simp only [ir_laws_FnExactFormatClaim]
  by_cases hf : f.length ≤ 1048576
  · obtain ⟨_, ⟨v, rfl, hv, hv2⟩, k1⟩ := szClaim_ok (K := K) (k := k) (l := 1048576) h (by omega)
    simp (disch := first | omega | (simp only [vl]; omega)) only [vcd]
    refine call_by (k1) rfl ?_
    by_cases c1 : 0 ≤ v
    · have hs := hv2 c1
      have hc : CLf f t n o r := ⟨by omega, hs.ln, hs.lo, hs.lr, hs.lrs⟩
      have e : (fcF k f t n o r != fcF k f t n o r) = false := by simp
      simp (disch := first | omega | (simp only [vl]; omega)) only [vcd]
      refine call_by (toClaim_ok (K := K) (k := k) (f := f) (s := s) hs) rfl ?_
      simp (disch := first | omega | (simp only [vl]; omega)) only [vcd, LS_one, LL_one]
      refine call_by (fc_s (K := K) (k := k) (s := s) hc) rfl ?_
      simp (disch := first | omega | (simp only [vl]; omega)) only [vcd, LS_one, LL_one]
      refine call_by (toClaim_ok (K := K) (k := k) (f := f) (s := s) hs) rfl ?_
      simp (disch := first | omega | (simp only [vl]; omega)) only [vcd, LS_one, LL_one]
      refine call_by (fc_i (K := K) (k := k) (s := s) hc) rfl ?_
      simp (disch := first | omega | (simp only [vl]; omega)) only [vcd, LS_one, LL_one, e]
      refine call_by (toClaim_ok (K := K) (k := k) (f := f) (s := s) hs) rfl ?_
      simp (disch := first | omega | (simp only [vl]; omega)) only [vcd, LS_one, LL_one]
      refine call_by (eqClaim_t (K := K) (k := k) (f := f) (s := s) hs) rfl ?_
      simp (disch := first | omega | (simp only [vl]; omega)) only [vcd]
    · simp (disch := first | omega | (simp only [vl]; omega)) only [vcd]
  · simp (disch := first | omega | (simp only [vl]; omega)) only [vcd]
    refine call_by (szClaim_f (K := K) (k := k) h hf) rfl ?_
    simp (disch := first | omega | (simp only [vl]; omega)) only [vcd]
end Go.Cat

