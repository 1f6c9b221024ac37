/-
  WriteAs, KindsLine, ListOf answer as the reference does.
-/
import Derived.Test.YtdifmcppfcbgdaaPfWrite
import Derived.Test.YtdifmcppfcbgdaaPfAp2
import Derived.Test.YtdifmcppfcbgdaaIrAllA
namespace Go.Cat
set_option linter.unusedSimpArgs false
variable {K : Nat → List D → List D → Prop}

theorem wa_law [Has K 22 ir_spec_l1In] [Has K 23 ir_impl_within] [Has K 27 ir_impl_BallotNumber] [Has K 64 ir_spec_IsDyck] [Has K 67 ir_impl_IsDyck] [Has K 82 ir_impl_heights] [Has K 83 ir_impl_exchanged] [Has K 84 ir_spec_l3Ways] [Has K 138 ir_spec_FormatInt] [Has K 143 ir_impl_FormatInt] [Has K 160 ir_spec_IsBinary] [Has K 162 ir_spec_NodesOf] [Has K 184 ir_impl_glued] [Has K 188 ir_spec_l6End] [Has K 194 ir_impl_parseTree] [Has K 196 ir_impl_tree_text] [Has K 197 ir_impl_tree_nodes] [Has K 208 ir_impl_readTree] [Has K 211 ir_cmp_isNaN_int_] [Has K 273 ir_impl_RankPath] [Has K 276 ir_spec_RankPath] [Has K 297 ir_spec_BracketsOf] [Has K 299 ir_spec_PlaneOf] [Has K 301 ir_spec_PartitionOf] [Has K 302 ir_spec_BlocksOf] [Has K 321 ir_spec_IsPlane] [Has K 323 ir_spec_l8Renumber] [Has K 324 ir_spec_IsPartition] [Has K 325 ir_spec_PermutationOf] [Has K 352 ir_spec_FormatDiagonals] [Has K 354 ir_impl_FormatDiagonals] [Has K 356 ir_spec_MatchingOf] [Has K 362 ir_spec_l7Put] [Has K 363 ir_slices_SortFunc_____int___int_] [Has K 364 ir_slices_Compare___int_int_] [Has K 370 ir_spec_l4Partner] [Has K 373 ir_impl_partners] [Has K 374 ir_spec_l7Before] [Has K 375 ir_slices_pdqsortCmpFunc___int_] [Has K 376 ir_math_bits_Len] [Has K 377 ir_cmp_Compare_int_] [Has K 379 ir_spec_IsMatching] [Has K 380 ir_impl_IsMatching] [Has K 382 ir_slices_insertionSortCmpFunc___int_] [Has K 391 ir_math_bits_Len64] [Has K 475 ir_impl_RenumberBlocks] [Has K 478 ir_impl_IsPartition] [Has K 479 ir_impl_BlocksOf] [Has K 501 ir_impl_HeightsOf] [Has K 503 ir_impl_PartitionOf] [Has K 508 ir_impl_BracketsOf] [Has K 510 ir_impl_PlaneOf] [Has K 513 ir_spec_l6Binary] [Has K 514 ir_impl_treeOfPath] [Has K 516 ir_impl_IsPlane] [Has K 518 ir_spec_l2Cut] [Has K 519 ir_impl_FirstReturn] [Has K 520 ir_laws_FnExactWriteAs] [Has K 523 ir_spec_WriteAs] [Has K 524 ir_impl_WriteAs] [Has K 529 ir_spec_FormatPlane] [Has K 530 ir_spec_BinaryOf] [Has K 531 ir_spec_TriangulationOf] [Has K 532 ir_spec_FormatPartition] [Has K 533 ir_spec_FormatMatching] [Has K 534 ir_impl_FormatPlane] [Has K 535 ir_impl_BinaryOf] [Has K 536 ir_impl_TriangulationOf] [Has K 537 ir_impl_FormatPartition] [Has K 538 ir_impl_FormatMatching] [Has K 539 ir_impl_PermutationOf] [Has K 540 ir_spec_l7Cut] [Has K 541 ir_impl_tree_triangles] {k w : List Nat} (hk : k.length ≤ 9223372036854775807) (hw : w.length ≤ 9223372036854775807) : K 520 [.s k, .s w] [.b true] := by
  refine body_by (f := ir_laws_FnExactWriteAs) rfl ?_; simp only [ir_laws_FnExactWriteAs]
  simp (disch := first | omega | (simp only [vl]; omega)) only [vcd]
  by_cases h1 : 1048576 < k.length
  · simp (disch := first | omega | (simp only [vl]; omega)) only [vcd]
  · by_cases h2 : 1048576 < w.length
    · simp (disch := first | omega | (simp only [vl]; omega)) only [vcd]
    · simp (disch := first | omega | (simp only [vl]; omega)) only [vcd]
      refine call_by (wa_s (K := K) (k := k) (w := w) (by omega)) rfl ?_
      simp (disch := first | omega | (simp only [vl]; omega)) only [vcd]
      refine call_by (wa_i (K := K) (k := k) (w := w) (by omega)) rfl ?_
      simp (disch := first | omega | (simp only [vl]; omega)) only [vcd]

end Go.Cat

