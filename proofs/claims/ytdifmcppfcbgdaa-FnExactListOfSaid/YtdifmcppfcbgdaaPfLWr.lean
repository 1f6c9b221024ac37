/-
  WriteAs, KindsLine, ListOf answer as the reference does.
-/
import Derived.Test.YtdifmcppfcbgdaaPfWrite
import Derived.Test.YtdifmcppfcbgdaaPfAp2
import Derived.Test.YtdifmcppfcbgdaaIrAllA
namespace Go.Cat
set_option linter.unusedSimpArgs false
variable {K : Nat → List D → List D → Prop}

/-! ### Is a word in a list? -/
theorem has_s [Has K 378 ir_spec_l15Has] {ws : List (List Nat)} {k : List Nat} (h : ws.length ≤ 1099511627776) : K 378 [LS ws, .s k] [.b (ws.contains k)] := by
  refine body_by (f := ir_spec_l15Has) rfl ?_; simp only [ir_spec_l15Has]
  simp (disch := first | omega | (simp only [vl]; omega)) only [vcd]
  refine loop_ix (fun i => k ∉ ws.take i) (fun i => [LS ws, .s k, .u, .n i, .u, .u]) ws.length (by simp) rfl (fun i hi hP => ?_) (fun hP => ?_)
  · have et : ws.take (i + 1) = ws.take i ++ [atS ws i] := by
      rw [List.take_succ_eq_append_getElem hi]; simp [atS, hi]
    have hm : atS ws i ∈ ws := by simp [atS, hi]
    cases hc : (atS ws i == k)
    · simp (disch := first | omega | (simp only [vl]; omega)) only [vcd, hc]
      rw [et]
      intro q
      rcases List.mem_append.1 q with q | q
      · exact hP q
      · simp only [List.mem_singleton] at q
        rw [q] at hc
        simp at hc
    · have e : atS ws i = k := by simpa using hc
      simp (disch := first | omega | (simp only [vl]; omega)) only [vcd, hc]
      refine Db ?_
      rw [← e]
      simpa using hm
  · simp (disch := first | omega | (simp only [vl]; omega)) only [vcd]
    refine Db ?_
    rw [List.take_length] at hP
    simpa using hP
theorem kix_has {k : List Nat} : kdN.contains k = decide (kix k < 9) := by
  by_cases h : kix k < 9
  · have e := kix_at h
    have hm : atS kdN (kix k) ∈ kdN := by
      have : kix k < kdN.length := h
      simp [atS, this]
    rw [← e] at hm
    simp [h, hm]
  · have : k ∉ kdN := by
      intro q
      have := kix_no h q
      simp at this
    simp [h, this]

/-! ### Lists -/
theorem apd1 : allB 7 (fun n => decide (0 < (pathsR n).length)) = true := by kernel_rfl
theorem pathsR_0 {n : Nat} (h : n < 7) : 0 < (pathsR n).length := by
  have := allB_spec apd1 n h
  simpa using this
noncomputable def loO (k : List Nat) (n : Int) : Bool := inR 0 6 n && decide (kix k < 9)
noncomputable def loR (k : List Nat) (n : Int) : List (List Nat) := if loO k n = true then (pathsR n.toNat).map fun w => txW w (kix k) else []
theorem loR_len {k : List Nat} {n : Int} : (loR k n).length ≤ 132 := by
  unfold loR
  split
  · rename_i h
    simp only [loO, Bool.and_eq_true] at h
    have := inR_iff.1 h.1
    rw [List.length_map]
    exact apl (by omega)
  · simp
theorem dyck_nil : dyck [] = true := rfl
theorem lo_i [Has K 23 ir_impl_within] [Has K 27 ir_impl_BallotNumber] [Has K 64 ir_spec_IsDyck] [Has K 67 ir_impl_IsDyck] [Has K 82 ir_impl_heights] [Has K 83 ir_impl_exchanged] [Has K 143 ir_impl_FormatInt] [Has K 184 ir_impl_glued] [Has K 194 ir_impl_parseTree] [Has K 196 ir_impl_tree_text] [Has K 197 ir_impl_tree_nodes] [Has K 208 ir_impl_readTree] [Has K 211 ir_cmp_isNaN_int_] [Has K 273 ir_impl_RankPath] [Has K 279 ir_impl_PathsOf] [Has K 301 ir_spec_PartitionOf] [Has K 314 ir_impl_allPaths] [Has K 323 ir_spec_l8Renumber] [Has K 326 ir_impl_allPaths_f1] [Has K 354 ir_impl_FormatDiagonals] [Has K 356 ir_spec_MatchingOf] [Has K 363 ir_slices_SortFunc_____int___int_] [Has K 364 ir_slices_Compare___int_int_] [Has K 370 ir_spec_l4Partner] [Has K 373 ir_impl_partners] [Has K 375 ir_slices_pdqsortCmpFunc___int_] [Has K 376 ir_math_bits_Len] [Has K 377 ir_cmp_Compare_int_] [Has K 380 ir_impl_IsMatching] [Has K 382 ir_slices_insertionSortCmpFunc___int_] [Has K 391 ir_math_bits_Len64] [Has K 475 ir_impl_RenumberBlocks] [Has K 478 ir_impl_IsPartition] [Has K 479 ir_impl_BlocksOf] [Has K 501 ir_impl_HeightsOf] [Has K 503 ir_impl_PartitionOf] [Has K 508 ir_impl_BracketsOf] [Has K 510 ir_impl_PlaneOf] [Has K 514 ir_impl_treeOfPath] [Has K 516 ir_impl_IsPlane] [Has K 519 ir_impl_FirstReturn] [Has K 524 ir_impl_WriteAs] [Has K 528 ir_impl_ListOf] [Has K 534 ir_impl_FormatPlane] [Has K 535 ir_impl_BinaryOf] [Has K 536 ir_impl_TriangulationOf] [Has K 537 ir_impl_FormatPartition] [Has K 538 ir_impl_FormatMatching] [Has K 539 ir_impl_PermutationOf] [Has K 541 ir_impl_tree_triangles] {k : List Nat} {n : Int} : K 528 [.s k, .n n] [LS (loR k n), .b (loO k n)] := by
  refine body_by (f := ir_impl_ListOf) rfl ?_; simp only [ir_impl_ListOf]
  simp (disch := first | omega | (simp only [vl]; omega)) only [vcd, LS_nil]
  refine call_by (wa_i (K := K) (k := k) (w := []) (by simp)) rfl ?_
  simp (disch := first | omega | (simp only [vl]; omega)) only [vcd]
  have ew : waO k [] = decide (kix k < 9) := by simp [waO, dyck_nil]
  by_cases hk : kix k < 9
  · simp (disch := first | omega | (simp only [vl]; omega)) only [vcd, ew, hk]
    refine call_by (within_ok (K := K)) rfl ?_
    cases hn : inR 0 6 n
    · simp (disch := first | omega | (simp only [vl]; omega)) only [vcd]
      simp [loR, loO, hn]
    · have hb := inR_iff.1 hn
      obtain ⟨m, rfl⟩ := Int.eq_ofNat_of_zero_le hb.1
      have hp := apl (n := m) (by omega)
      have e : loO k (m : Int) = true := by simp [loO, hn, hk]
      have e2 : loR k (m : Int) = (pathsR m).map fun w => txW w (kix k) := by simp [loR, e]
      rw [e, e2]
      simp (disch := first | omega | (simp only [vl]; omega)) only [vcd]
      refine call_by (pl_i (K := K) (n := m) (by omega)) rfl ?_
      simp (disch := first | omega | (simp only [vl]; omega)) only [vcd]
      refine loop_ix (fun _ => True) (fun i => [.s k, .u, .u, .u, LS (((pathsR m).take i).map fun w => txW w (kix k)), .u, .u, .u, .u, LS (pathsR m), .n (pathsR m).length, .n i, .u]) (pathsR m).length trivial (by simp) (fun i hi _ => ?_) (fun _ => ?_)
      · have et : (pathsR m).take (i + 1) = (pathsR m).take i ++ [atS (pathsR m) i] := by
          rw [List.take_succ_eq_append_getElem hi]; simp [atS, hi]
        have hd := (apd (n := m) (by omega) (w := atS (pathsR m) i) (by simp [atS, hi]))
        have hl : (((pathsR m).take i).map fun w => txW w (kix k)).length = i := by simp; omega
        have er : waR k (atS (pathsR m) i) = txW (atS (pathsR m) i) (kix k) := by simp [waR, waO, hd.1, hk]
        rw [et, List.map_append]
        simp (disch := first | omega | (simp only [vl]; omega)) only [vcd]
        refine call_by (wa_i (K := K) (k := k) (w := atS (pathsR m) i) (by omega)) rfl ?_
        simp (disch := first | omega | (simp only [vl]; omega)) only [vcd, ls_1, er]
      · rw [List.take_length]
        simp (disch := first | omega | (simp only [vl]; omega)) only [vcd]
  · simp (disch := first | omega | (simp only [vl]; omega)) only [vcd, ew, hk]
    simp [loR, loO, hk]
theorem lo_s [Has K 13 ir_spec_KindNames] [Has K 22 ir_spec_l1In] [Has K 64 ir_spec_IsDyck] [Has K 67 ir_impl_IsDyck] [Has K 82 ir_impl_heights] [Has K 84 ir_spec_l3Ways] [Has K 138 ir_spec_FormatInt] [Has K 160 ir_spec_IsBinary] [Has K 162 ir_spec_NodesOf] [Has K 188 ir_spec_l6End] [Has K 234 ir_spec_PathsOf] [Has K 276 ir_spec_RankPath] [Has K 292 ir_spec_l3All] [Has K 297 ir_spec_BracketsOf] [Has K 299 ir_spec_PlaneOf] [Has K 301 ir_spec_PartitionOf] [Has K 302 ir_spec_BlocksOf] [Has K 321 ir_spec_IsPlane] [Has K 323 ir_spec_l8Renumber] [Has K 324 ir_spec_IsPartition] [Has K 325 ir_spec_PermutationOf] [Has K 352 ir_spec_FormatDiagonals] [Has K 356 ir_spec_MatchingOf] [Has K 362 ir_spec_l7Put] [Has K 370 ir_spec_l4Partner] [Has K 373 ir_impl_partners] [Has K 374 ir_spec_l7Before] [Has K 378 ir_spec_l15Has] [Has K 379 ir_spec_IsMatching] [Has K 475 ir_impl_RenumberBlocks] [Has K 503 ir_impl_PartitionOf] [Has K 513 ir_spec_l6Binary] [Has K 518 ir_spec_l2Cut] [Has K 523 ir_spec_WriteAs] [Has K 527 ir_spec_ListOf] [Has K 529 ir_spec_FormatPlane] [Has K 530 ir_spec_BinaryOf] [Has K 531 ir_spec_TriangulationOf] [Has K 532 ir_spec_FormatPartition] [Has K 533 ir_spec_FormatMatching] [Has K 540 ir_spec_l7Cut] {k : List Nat} {n : Int} : K 527 [.s k, .n n] [LS (loR k n), .b (loO k n)] := by
  refine body_by (f := ir_spec_ListOf) rfl ?_; simp only [ir_spec_ListOf]
  simp (disch := first | omega | (simp only [vl]; omega)) only [vcd, LS_nil]
  by_cases hn : 0 ≤ n ∧ n ≤ 6
  · have hn2 : inR 0 6 n = true := inR_iff.2 hn
    obtain ⟨m, rfl⟩ := Int.eq_ofNat_of_zero_le hn.1
    have hp := apl (n := m) (by omega)
    have h0 := pathsR_0 (n := m) (by omega)
    refine call_by (pl_s (K := K) (n := m) (by omega)) rfl ?_
    simp (disch := first | omega | (simp only [vl]; omega)) only [vcd]
    refine call_by (kdn_s (K := K)) rfl ?_
    simp (disch := first | omega | (simp only [vl]; omega)) only [vcd]
    have kh := has_s (K := K) (ws := kdN) (k := k) (by decide)
    rw [kix_has] at kh
    refine call_by (kh) rfl ?_
    by_cases hk : kix k < 9
    · have e : loO k (m : Int) = true := by simp [loO, hn2, hk]
      have e2 : loR k (m : Int) = (pathsR m).map fun w => txW w (kix k) := by simp [loR, e]
      rw [e, e2]
      simp (disch := first | omega | (simp only [vl]; omega)) only [vcd, hk]
      refine loop_ix (fun _ => True) (fun i => [.s k, .u, .u, .u, LS (((pathsR m).take i).map fun w => txW w (kix k)), LS (pathsR m), .n i, .u, .u, .u]) (pathsR m).length trivial (by simp) (fun i hi _ => ?_) (fun _ => ?_)
      · have et : (pathsR m).take (i + 1) = (pathsR m).take i ++ [atS (pathsR m) i] := by
          rw [List.take_succ_eq_append_getElem hi]; simp [atS, hi]
        have hd := (apd (n := m) (by omega) (w := atS (pathsR m) i) (by simp [atS, hi]))
        have hl : (((pathsR m).take i).map fun w => txW w (kix k)).length = i := by simp; omega
        have er : waR k (atS (pathsR m) i) = txW (atS (pathsR m) i) (kix k) := by simp [waR, waO, hd.1, hk]
        rw [et, List.map_append]
        simp (disch := first | omega | (simp only [vl]; omega)) only [vcd]
        refine call_by (wa_s (K := K) (k := k) (w := atS (pathsR m) i) (by omega)) rfl ?_
        simp (disch := first | omega | (simp only [vl]; omega)) only [vcd, ls_1, er]
      · rw [List.take_length]
        simp (disch := first | omega | (simp only [vl]; omega)) only [vcd]
    · simp (disch := first | omega | (simp only [vl]; omega)) only [vcd, hk]
      simp [loR, loO, hk]
  · have hn2 : inR 0 6 n = false := inR_f.2 hn
    refine call_by (pl_out_s (K := K) hn) rfl ?_
    simp (disch := first | omega | (simp only [vl]; omega)) only [vcd]
    simp [loR, loO, hn2]
theorem lo_law [Has K 13 ir_spec_KindNames] [Has K 15 ir_laws_eqStringS] [Has K 16 ir_laws_markStringS] [Has K 17 ir_laws_heldStringS] [Has K 22 ir_spec_l1In] [Has K 23 ir_impl_within] [Has K 26 ir_laws_markText] [Has K 27 ir_impl_BallotNumber] [Has K 64 ir_spec_IsDyck] [Has K 67 ir_impl_IsDyck] [Has K 82 ir_impl_heights] [Has K 83 ir_impl_exchanged] [Has K 84 ir_spec_l3Ways] [Has K 138 ir_spec_FormatInt] [Has K 143 ir_impl_FormatInt] [Has K 160 ir_spec_IsBinary] [Has K 162 ir_spec_NodesOf] [Has K 184 ir_impl_glued] [Has K 188 ir_spec_l6End] [Has K 194 ir_impl_parseTree] [Has K 196 ir_impl_tree_text] [Has K 197 ir_impl_tree_nodes] [Has K 208 ir_impl_readTree] [Has K 211 ir_cmp_isNaN_int_] [Has K 234 ir_spec_PathsOf] [Has K 273 ir_impl_RankPath] [Has K 276 ir_spec_RankPath] [Has K 279 ir_impl_PathsOf] [Has K 292 ir_spec_l3All] [Has K 297 ir_spec_BracketsOf] [Has K 299 ir_spec_PlaneOf] [Has K 301 ir_spec_PartitionOf] [Has K 302 ir_spec_BlocksOf] [Has K 314 ir_impl_allPaths] [Has K 321 ir_spec_IsPlane] [Has K 323 ir_spec_l8Renumber] [Has K 324 ir_spec_IsPartition] [Has K 325 ir_spec_PermutationOf] [Has K 326 ir_impl_allPaths_f1] [Has K 352 ir_spec_FormatDiagonals] [Has K 354 ir_impl_FormatDiagonals] [Has K 356 ir_spec_MatchingOf] [Has K 362 ir_spec_l7Put] [Has K 363 ir_slices_SortFunc_____int___int_] [Has K 364 ir_slices_Compare___int_int_] [Has K 370 ir_spec_l4Partner] [Has K 373 ir_impl_partners] [Has K 374 ir_spec_l7Before] [Has K 375 ir_slices_pdqsortCmpFunc___int_] [Has K 376 ir_math_bits_Len] [Has K 377 ir_cmp_Compare_int_] [Has K 378 ir_spec_l15Has] [Has K 379 ir_spec_IsMatching] [Has K 380 ir_impl_IsMatching] [Has K 382 ir_slices_insertionSortCmpFunc___int_] [Has K 391 ir_math_bits_Len64] [Has K 475 ir_impl_RenumberBlocks] [Has K 478 ir_impl_IsPartition] [Has K 479 ir_impl_BlocksOf] [Has K 501 ir_impl_HeightsOf] [Has K 503 ir_impl_PartitionOf] [Has K 508 ir_impl_BracketsOf] [Has K 510 ir_impl_PlaneOf] [Has K 513 ir_spec_l6Binary] [Has K 514 ir_impl_treeOfPath] [Has K 516 ir_impl_IsPlane] [Has K 518 ir_spec_l2Cut] [Has K 519 ir_impl_FirstReturn] [Has K 522 ir_laws_FnExactListOf] [Has K 523 ir_spec_WriteAs] [Has K 524 ir_impl_WriteAs] [Has K 527 ir_spec_ListOf] [Has K 528 ir_impl_ListOf] [Has K 529 ir_spec_FormatPlane] [Has K 530 ir_spec_BinaryOf] [Has K 531 ir_spec_TriangulationOf] [Has K 532 ir_spec_FormatPartition] [Has K 533 ir_spec_FormatMatching] [Has K 534 ir_impl_FormatPlane] [Has K 535 ir_impl_BinaryOf] [Has K 536 ir_impl_TriangulationOf] [Has K 537 ir_impl_FormatPartition] [Has K 538 ir_impl_FormatMatching] [Has K 539 ir_impl_PermutationOf] [Has K 540 ir_spec_l7Cut] [Has K 541 ir_impl_tree_triangles] {k : List Nat} {n : Int} (hk : k.length ≤ 9223372036854775807) : K 522 [.s k, .n n] [.b true] := by
  have hr := loR_len (k := k) (n := n)
  have hh := heldStringS_ok (K := K) (a := markFS 1 (loR k n).length (loR k n)) (k := 1) (by rw [markFS_len]; omega) (by omega) (fun j hj => by rw [markFS_len] at hj; exact markFS_at (Nat.le_refl _) j hj)
  rw [markFS_len] at hh
  refine body_by (f := ir_laws_FnExactListOf) rfl ?_; simp only [ir_laws_FnExactListOf]
  by_cases h : 1048576 < k.length
  · simp (disch := first | omega | (simp only [vl]; omega)) only [vcd]
  · simp (disch := first | omega | (simp only [vl]; omega)) only [vcd]
    repeat (first | (refine call_by (lo_s (K := K) (k := k) (n := n)) rfl ?_; try simp (disch := first | omega | (simp only [vl]; omega)) only [vcd]) | (refine call_by (lo_i (K := K) (k := k) (n := n)) rfl ?_; try simp (disch := first | omega | (simp only [vl]; omega)) only [vcd]) | (refine call_by (eqStringS_t (K := K) (a := loR k n) (by omega)) rfl ?_; try simp (disch := first | omega | (simp only [vl]; omega)) only [vcd]) | (refine call_by (markStringS_ok (K := K) (a := loR k n) (k := 1) (by omega) (by omega)) rfl ?_; try simp (disch := first | omega | (simp only [vl]; omega)) only [vcd]) | (refine call_by (hh) rfl ?_; try simp (disch := first | omega | (simp only [vl]; omega)) only [vcd]))

end Go.Cat

