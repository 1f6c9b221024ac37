/-
  WriteAs, KindsLine, ListOf answer as the reference does.
-/
import Derived.Test.YtdifmcppfcbgdaaPfWrite
import Derived.Test.YtdifmcppfcbgdaaPfAp2
import Derived.Test.YtdifmcppfcbgdaaIrAllA
namespace Go.Cat
set_option linter.unusedSimpArgs false
variable {K : Nat → List D → List D → Prop}

/-! ### KindsLine -/
noncomputable def knT (w : List Nat) : Nat → List Nat
  | 0 => [107, 105, 110, 100, 115]
  | i + 1 => knT w i ++ [32] ++ atS kdN i ++ [32] ++ ([91] ++ txW w i ++ [93])
theorem txW_len {w : List Nat} (hd : dyck w = true) : ∀ i : Nat, (txW w i).length ≤ 5000
  | 0 => by have hl := (DY_of hd).l; simp only [txW]; omega
  | 1 => by have hl := (DY_of hd).l; have := brF_len (w := w); simp only [txW]; omega
  | 2 => by
    have hl := plF_len hd
    simp only [txW, fplF]
    split
    · rename_i h
      obtain ⟨h1, h2⟩ := isPl_t h
      have := glue_len (sep := [44]) (inW_b h2)
      have h3 := inW_len (p := plF w)
      have h4 : (inW (plF w)).length * (20 + [44].length) ≤ 9 * 21 := Nat.mul_le_mul (by omega) (by simp)
      omega
    · simp
  | 3 => by
    obtain ⟨x, rfl, hx⟩ := ex_p hd
    have := BT.tl x
    simp only [txW, btF_p]; omega
  | 4 => by
    have hl := (DY_of hd).l
    have h1 := dgF_bd (d := tgF (btF w))
    have h2 := fmt_len (n := (w.length : Int) / 2 + 2) (by omega)
    simp only [txW, List.length_append, List.length_cons, List.length_nil]; omega
  | 5 => by
    have h1 := glue_len (sep := [124]) (ptW_b (p := ptn w))
    have h2 := ptW_len (p := ptn w)
    have h3 := ptB_len (p := ptn w)
    have h4 : (ptW (ptn w)).length * (160 + [124].length) ≤ 8 * 161 := Nat.mul_le_mul (by omega) (by simp)
    simp only [txW, fptF]; omega
  | 6 => by
    have hl := mate_len hd
    simp only [txW, fmaF]
    split
    · rename_i h
      split
      · simp
      · have h1 := glue_len (sep := [32]) (arW_b h (mate w).length (Nat.le_refl _))
        have h2 := arW_len (m := mate w) (mate w).length
        have h4 : (arW (mate w) (mate w).length).length * (41 + [32].length) ≤ 16 * 42 := Nat.mul_le_mul (by omega) (by simp)
        omega
    · simp
  | 7 => by
    have hl := (DY_of hd).l
    have h1 := perF_len (w := w)
    have h3 := rwT_len (r := perF w) (fun j _ => by have := perF_bd hl j; omega) (perF w).length (Nat.le_refl _)
    simp only [txW]; omega
  | 8 => by
    have hl := (DY_of hd).l
    have h1 := rk_bd hd
    have h3 := fmt_len (n := rkR w) (by omega)
    have h4 := fmt_len (n := (w.length : Int) / 2) (by omega)
    simp only [txW, List.length_append, List.length_cons, List.length_nil]; omega
  | i + 9 => by simp [txW]
theorem kdN_len {i : Nat} : (atS kdN i).length ≤ 12 := atS_len (b := 12) (ws := kdN) (by decide)
theorem knT_len {w : List Nat} (hd : dyck w = true) : ∀ i : Nat, (knT w i).length ≤ 5 + i * 5020
  | 0 => by simp [knT]
  | i + 1 => by
    have h := knT_len hd i
    have h1 := txW_len hd i
    have h2 := kdN_len (i := i)
    simp only [knT, List.length_append, List.length_cons, List.length_nil]; omega
theorem kl_i [Has K 14 ir_impl_KindNames] [Has K 23 ir_impl_within] [Has K 27 ir_impl_BallotNumber] [Has K 64 ir_spec_IsDyck] [Has K 67 ir_impl_IsDyck] [Has K 82 ir_impl_heights] [Has K 83 ir_impl_exchanged] [Has K 141 ir_impl_line] [Has K 143 ir_impl_FormatInt] [Has K 184 ir_impl_glued] [Has K 194 ir_impl_parseTree] [Has K 196 ir_impl_tree_text] [Has K 197 ir_impl_tree_nodes] [Has K 208 ir_impl_readTree] [Has K 211 ir_cmp_isNaN_int_] [Has K 273 ir_impl_RankPath] [Has K 301 ir_spec_PartitionOf] [Has K 323 ir_spec_l8Renumber] [Has K 354 ir_impl_FormatDiagonals] [Has K 356 ir_spec_MatchingOf] [Has K 363 ir_slices_SortFunc_____int___int_] [Has K 364 ir_slices_Compare___int_int_] [Has K 370 ir_spec_l4Partner] [Has K 373 ir_impl_partners] [Has K 375 ir_slices_pdqsortCmpFunc___int_] [Has K 376 ir_math_bits_Len] [Has K 377 ir_cmp_Compare_int_] [Has K 380 ir_impl_IsMatching] [Has K 382 ir_slices_insertionSortCmpFunc___int_] [Has K 391 ir_math_bits_Len64] [Has K 475 ir_impl_RenumberBlocks] [Has K 478 ir_impl_IsPartition] [Has K 479 ir_impl_BlocksOf] [Has K 501 ir_impl_HeightsOf] [Has K 503 ir_impl_PartitionOf] [Has K 508 ir_impl_BracketsOf] [Has K 510 ir_impl_PlaneOf] [Has K 514 ir_impl_treeOfPath] [Has K 516 ir_impl_IsPlane] [Has K 519 ir_impl_FirstReturn] [Has K 524 ir_impl_WriteAs] [Has K 526 ir_impl_KindsLine] [Has K 534 ir_impl_FormatPlane] [Has K 535 ir_impl_BinaryOf] [Has K 536 ir_impl_TriangulationOf] [Has K 537 ir_impl_FormatPartition] [Has K 538 ir_impl_FormatMatching] [Has K 539 ir_impl_PermutationOf] [Has K 541 ir_impl_tree_triangles] {w : List Nat} (h : w.length ≤ 1048576) : K 526 [.s w] [.s (if dyck w = true then knT w 9 else [])] := by
  refine body_by (f := ir_impl_KindsLine) rfl ?_; simp only [ir_impl_KindsLine]
  simp (disch := first | omega | (simp only [vl]; omega)) only [vcd]
  cases hd : dyck w
  · repeat (first | (refine call_by (dyck_i (K := K) (w := w) (by omega)) rfl ?_; try simp (disch := first | omega | (simp only [vl]; omega)) only [vcd, hd]))
    rfl
  · repeat (first | (refine call_by (dyck_i (K := K) (w := w) (by omega)) rfl ?_; try simp (disch := first | omega | (simp only [vl]; omega)) only [vcd, hd]))
    refine call_by (kdn_i (K := K)) rfl ?_
    have e9 : kdN.length = 9 := rfl
    simp (disch := first | omega | (simp only [vl]; omega)) only [vcd]
    refine loop_ix (fun _ => True) (fun i => [.s w, .u, .s (knT w i), .u, .u, .u, LS kdN, .n 9, .n i, .u]) 9 trivial rfl (fun i hi _ => ?_) (fun _ => ?_)
    · have b1 := txW_len hd i
      have b4 := kdN_len (i := i)
      have b5 := knT_len hd i
      simp (disch := first | omega | (simp only [vl]; omega)) only [vcd]
      refine call_by (wat_i (K := K) hd i hi) rfl ?_
      simp (disch := first | omega | (simp only [vl]; omega)) only [vcd, ls_3]
      have kl := line_ok (K := K) (ws := [knT w i, atS kdN i, [91] ++ txW w i ++ [93]]) (by simp) (by simp; omega)
      refine call_by (kl) rfl ?_
      simp (disch := first | omega | (simp only [vl]; omega)) only [vcd, glue_3]
      rfl
    · simp (disch := first | omega | (simp only [vl]; omega)) only [vcd]
theorem kl_s [Has K 13 ir_spec_KindNames] [Has K 22 ir_spec_l1In] [Has K 64 ir_spec_IsDyck] [Has K 67 ir_impl_IsDyck] [Has K 82 ir_impl_heights] [Has K 84 ir_spec_l3Ways] [Has K 138 ir_spec_FormatInt] [Has K 160 ir_spec_IsBinary] [Has K 162 ir_spec_NodesOf] [Has K 188 ir_spec_l6End] [Has K 276 ir_spec_RankPath] [Has K 297 ir_spec_BracketsOf] [Has K 299 ir_spec_PlaneOf] [Has K 301 ir_spec_PartitionOf] [Has K 302 ir_spec_BlocksOf] [Has K 321 ir_spec_IsPlane] [Has K 323 ir_spec_l8Renumber] [Has K 324 ir_spec_IsPartition] [Has K 325 ir_spec_PermutationOf] [Has K 352 ir_spec_FormatDiagonals] [Has K 356 ir_spec_MatchingOf] [Has K 362 ir_spec_l7Put] [Has K 370 ir_spec_l4Partner] [Has K 373 ir_impl_partners] [Has K 374 ir_spec_l7Before] [Has K 379 ir_spec_IsMatching] [Has K 475 ir_impl_RenumberBlocks] [Has K 503 ir_impl_PartitionOf] [Has K 513 ir_spec_l6Binary] [Has K 518 ir_spec_l2Cut] [Has K 523 ir_spec_WriteAs] [Has K 525 ir_spec_KindsLine] [Has K 529 ir_spec_FormatPlane] [Has K 530 ir_spec_BinaryOf] [Has K 531 ir_spec_TriangulationOf] [Has K 532 ir_spec_FormatPartition] [Has K 533 ir_spec_FormatMatching] [Has K 540 ir_spec_l7Cut] {w : List Nat} (h : w.length ≤ 1048576) : K 525 [.s w] [.s (if dyck w = true then knT w 9 else [])] := by
  refine body_by (f := ir_spec_KindsLine) rfl ?_; simp only [ir_spec_KindsLine]
  simp (disch := first | omega | (simp only [vl]; omega)) only [vcd]
  cases hd : dyck w
  · repeat (first | (refine call_by (dyck_s (K := K) (w := w) (by omega)) rfl ?_; try simp (disch := first | omega | (simp only [vl]; omega)) only [vcd, hd]))
    rfl
  · repeat (first | (refine call_by (dyck_s (K := K) (w := w) (by omega)) rfl ?_; try simp (disch := first | omega | (simp only [vl]; omega)) only [vcd, hd]))
    refine call_by (kdn_s (K := K)) rfl ?_
    have e9 : kdN.length = 9 := rfl
    simp (disch := first | omega | (simp only [vl]; omega)) only [vcd]
    refine loop_ix (fun _ => True) (fun i => [.s w, .u, .s (knT w i), LS kdN, .n i, .u, .u, .u]) 9 trivial rfl (fun i hi _ => ?_) (fun _ => ?_)
    · have b1 := txW_len hd i
      have b4 := kdN_len (i := i)
      have b5 := knT_len hd i
      simp (disch := first | omega | (simp only [vl]; omega)) only [vcd]
      refine call_by (wat_s (K := K) hd i hi) rfl ?_
      simp (disch := first | omega | (simp only [vl]; omega)) only [vcd]
      simp [knT]
    · simp (disch := first | omega | (simp only [vl]; omega)) only [vcd]
theorem kl_law [Has K 13 ir_spec_KindNames] [Has K 14 ir_impl_KindNames] [Has K 22 ir_spec_l1In] [Has K 23 ir_impl_within] [Has K 27 ir_impl_BallotNumber] [Has K 64 ir_spec_IsDyck] [Has K 67 ir_impl_IsDyck] [Has K 82 ir_impl_heights] [Has K 83 ir_impl_exchanged] [Has K 84 ir_spec_l3Ways] [Has K 138 ir_spec_FormatInt] [Has K 141 ir_impl_line] [Has K 143 ir_impl_FormatInt] [Has K 160 ir_spec_IsBinary] [Has K 162 ir_spec_NodesOf] [Has K 184 ir_impl_glued] [Has K 188 ir_spec_l6End] [Has K 194 ir_impl_parseTree] [Has K 196 ir_impl_tree_text] [Has K 197 ir_impl_tree_nodes] [Has K 208 ir_impl_readTree] [Has K 211 ir_cmp_isNaN_int_] [Has K 273 ir_impl_RankPath] [Has K 276 ir_spec_RankPath] [Has K 297 ir_spec_BracketsOf] [Has K 299 ir_spec_PlaneOf] [Has K 301 ir_spec_PartitionOf] [Has K 302 ir_spec_BlocksOf] [Has K 321 ir_spec_IsPlane] [Has K 323 ir_spec_l8Renumber] [Has K 324 ir_spec_IsPartition] [Has K 325 ir_spec_PermutationOf] [Has K 352 ir_spec_FormatDiagonals] [Has K 354 ir_impl_FormatDiagonals] [Has K 356 ir_spec_MatchingOf] [Has K 362 ir_spec_l7Put] [Has K 363 ir_slices_SortFunc_____int___int_] [Has K 364 ir_slices_Compare___int_int_] [Has K 370 ir_spec_l4Partner] [Has K 373 ir_impl_partners] [Has K 374 ir_spec_l7Before] [Has K 375 ir_slices_pdqsortCmpFunc___int_] [Has K 376 ir_math_bits_Len] [Has K 377 ir_cmp_Compare_int_] [Has K 379 ir_spec_IsMatching] [Has K 380 ir_impl_IsMatching] [Has K 382 ir_slices_insertionSortCmpFunc___int_] [Has K 391 ir_math_bits_Len64] [Has K 475 ir_impl_RenumberBlocks] [Has K 478 ir_impl_IsPartition] [Has K 479 ir_impl_BlocksOf] [Has K 501 ir_impl_HeightsOf] [Has K 503 ir_impl_PartitionOf] [Has K 508 ir_impl_BracketsOf] [Has K 510 ir_impl_PlaneOf] [Has K 513 ir_spec_l6Binary] [Has K 514 ir_impl_treeOfPath] [Has K 516 ir_impl_IsPlane] [Has K 518 ir_spec_l2Cut] [Has K 519 ir_impl_FirstReturn] [Has K 521 ir_laws_FnExactKindsLine] [Has K 523 ir_spec_WriteAs] [Has K 524 ir_impl_WriteAs] [Has K 525 ir_spec_KindsLine] [Has K 526 ir_impl_KindsLine] [Has K 529 ir_spec_FormatPlane] [Has K 530 ir_spec_BinaryOf] [Has K 531 ir_spec_TriangulationOf] [Has K 532 ir_spec_FormatPartition] [Has K 533 ir_spec_FormatMatching] [Has K 534 ir_impl_FormatPlane] [Has K 535 ir_impl_BinaryOf] [Has K 536 ir_impl_TriangulationOf] [Has K 537 ir_impl_FormatPartition] [Has K 538 ir_impl_FormatMatching] [Has K 539 ir_impl_PermutationOf] [Has K 540 ir_spec_l7Cut] [Has K 541 ir_impl_tree_triangles] {w : List Nat} (hw : w.length ≤ 9223372036854775807) : K 521 [.s w] [.b true] := by
  refine body_by (f := ir_laws_FnExactKindsLine) rfl ?_; simp only [ir_laws_FnExactKindsLine]
  simp (disch := first | omega | (simp only [vl]; omega)) only [vcd]
  by_cases h : 1048576 < w.length
  · simp (disch := first | omega | (simp only [vl]; omega)) only [vcd]
  · simp (disch := first | omega | (simp only [vl]; omega)) only [vcd]
    refine call_by (kl_s (K := K) (w := w) (by omega)) rfl ?_
    simp (disch := first | omega | (simp only [vl]; omega)) only [vcd]
    refine call_by (kl_i (K := K) (w := w) (by omega)) rfl ?_
    simp (disch := first | omega | (simp only [vl]; omega)) only [vcd]
end Go.Cat

