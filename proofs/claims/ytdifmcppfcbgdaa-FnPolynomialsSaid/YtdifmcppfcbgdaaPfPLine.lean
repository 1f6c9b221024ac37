/-
  PathLine answers as the reference does.
-/
import Derived.Test.YtdifmcppfcbgdaaPfStatB
import Derived.Test.YtdifmcppfcbgdaaPfPlane
import Derived.Test.YtdifmcppfcbgdaaPfPart
import Derived.Test.YtdifmcppfcbgdaaPfTxt
import Derived.Test.YtdifmcppfcbgdaaPfDrawP
import Derived.Test.YtdifmcppfcbgdaaIrAllA
namespace Go.Cat
set_option linter.unusedSimpArgs false
variable {K : Nat → List D → List D → Prop}

/-! ### The partition of a path -/
open Classical in
/-- The partners of the letters. -/
noncomputable def mate (w : List Nat) : List Int := if h : ∃ m, PP w m then h.choose else []
theorem mate_eq {w : List Nat} {m : List Int} (h : PP w m) : mate w = m := by
  have h2 : ∃ m, PP w m := ⟨m, h⟩
  simp only [mate, dif_pos h2]
  exact PP_one h2.choose_spec h
theorem mate_PP {w : List Nat} (hd : dyck w = true) : PP w (mate w) := by
  have : Has (fun _ _ _ => True) 373 ir_impl_partners := ⟨fun _ _ _ => trivial⟩
  obtain ⟨_, ⟨m, _, hm⟩, _⟩ := part_i (K := fun _ _ _ => True) hd
  rw [mate_eq hm]; exact hm
/-- The blocks' numbers of the letters u. -/
noncomputable def ptn (w : List Nat) : List Int := rnL (luG w (fun a => (drF w (atI (mate w) a).toNat : Int)) w.length) (uix w w.length)
theorem ptn_len {w : List Nat} (hd : dyck w = true) : (ptn w).length ≤ 8 := by
  have h := uix_all hd
  have hl := (DY_of hd).l
  simp only [ptn, rnL_len]; omega
theorem ptn_s [Has K 64 ir_spec_IsDyck] [Has K 301 ir_spec_PartitionOf] [Has K 323 ir_spec_l8Renumber] {w : List Nat} (hd : dyck w = true) : K 301 [.s w] [LI (ptn w), .b true] := part_p_s (K := K) hd (mate_PP hd)
theorem plF_len {w : List Nat} (hd : dyck w = true) : (plF w).length ≤ 17 := by
  have hl := (DY_of hd).l
  have := plT_len (w := w) (out := [-1]) (st := [0])
  simp only [plF, List.length_cons, List.length_nil] at *; omega
/-! ### Statistics by name -/
def stN : List (List Nat) := [[112, 101, 97, 107, 115], [114, 101, 116, 117, 114, 110, 115], [114, 105, 115, 101], [97, 114, 101, 97], [100, 101, 112, 116, 104], [108, 101, 97, 118, 101, 115], [98, 108, 111, 99, 107, 115], [109, 97, 106, 111, 114], [102, 97, 108, 108]]
/-- The numbers of a path, in the order of their names. -/
noncomputable def stF (w : List Nat) : Nat → Int
  | 0 => pvF 117 100 (fun _ => 1) w (w.length - 1)
  | 1 => rtF w w.length
  | 2 => runL 117 w
  | 3 => arF w w.length
  | 4 => dpF w (w.length + 1)
  | 5 => lvF (plF w) (plF w).length
  | 6 => (if isPt (ptn w) = true then blF (ptn w) (ptn w).length else []).length
  | 7 => pvF 100 117 (fun j => j + 1) w (w.length - 1)
  | 8 => runL 100 w.reverse
  | _ => -1
/-- A path is chosen by its name. -/
theorem bq_f {a b : Nat} {x y : List Nat} (h : a ≠ b) : ((a :: x) == (b :: y)) = false := by
  rw [List.cons_beq_cons, beq_eq_false_iff_ne.2 h]; rfl
theorem bq_t {a : Nat} {x y : List Nat} : ((a :: x) == (a :: y)) = (x == y) := by
  rw [List.cons_beq_cons, beq_self_eq_true, Bool.true_and]
theorem bq_n : (([] : List Nat) == []) = true := rfl
theorem st0_s [Has K 64 ir_spec_IsDyck] [Has K 235 ir_spec_StatisticOf] [Has K 293 ir_spec_PeaksOf] {w : List Nat} (hd : dyck w = true) : K 235 [.s [112, 101, 97, 107, 115], .s w] [.n (stF w 0)] := by
  have hl := (DY_of hd).l
  refine body_by (f := ir_spec_StatisticOf) rfl ?_; simp only [ir_spec_StatisticOf]
  simp (disch := first | omega | (simp only [vl]; omega)) only [vcd]
  repeat (first | (refine call_by (dyck_s (K := K) (w := w) (by omega)) rfl ?_; try simp (disch := first | omega | (simp only [vl]; omega)) only [vcd, hd, bq_f, bq_t, bq_n]) | (refine call_by (pk2_s (K := K) hd) rfl ?_; try simp (disch := first | omega | (simp only [vl]; omega)) only [vcd, hd, bq_f, bq_t, bq_n]))
  rfl
theorem st1_s [Has K 64 ir_spec_IsDyck] [Has K 235 ir_spec_StatisticOf] [Has K 294 ir_spec_ReturnsOf] [Has K 319 ir_spec_HeightsOf] {w : List Nat} (hd : dyck w = true) : K 235 [.s [114, 101, 116, 117, 114, 110, 115], .s w] [.n (stF w 1)] := by
  have hl := (DY_of hd).l
  refine body_by (f := ir_spec_StatisticOf) rfl ?_; simp only [ir_spec_StatisticOf]
  simp (disch := first | omega | (simp only [vl]; omega)) only [vcd]
  repeat (first | (refine call_by (dyck_s (K := K) (w := w) (by omega)) rfl ?_; try simp (disch := first | omega | (simp only [vl]; omega)) only [vcd, hd, bq_f, bq_t, bq_n]) | (refine call_by (ret_s (K := K) hd) rfl ?_; try simp (disch := first | omega | (simp only [vl]; omega)) only [vcd, hd, bq_f, bq_t, bq_n]))
  rfl
theorem st2_s [Has K 64 ir_spec_IsDyck] [Has K 235 ir_spec_StatisticOf] [Has K 295 ir_spec_l13Run] {w : List Nat} (hd : dyck w = true) : K 235 [.s [114, 105, 115, 101], .s w] [.n (stF w 2)] := by
  have hl := (DY_of hd).l
  refine body_by (f := ir_spec_StatisticOf) rfl ?_; simp only [ir_spec_StatisticOf]
  simp (disch := first | omega | (simp only [vl]; omega)) only [vcd]
  repeat (first | (refine call_by (dyck_s (K := K) (w := w) (by omega)) rfl ?_; try simp (disch := first | omega | (simp only [vl]; omega)) only [vcd, hd, bq_f, bq_t, bq_n]) | (refine call_by (rise_s (K := K) (w := w) (by omega)) rfl ?_; try simp (disch := first | omega | (simp only [vl]; omega)) only [vcd, hd, bq_f, bq_t, bq_n]))
  rfl
theorem st3_s [Has K 64 ir_spec_IsDyck] [Has K 235 ir_spec_StatisticOf] [Has K 296 ir_spec_AreaOf] [Has K 319 ir_spec_HeightsOf] {w : List Nat} (hd : dyck w = true) : K 235 [.s [97, 114, 101, 97], .s w] [.n (stF w 3)] := by
  have hl := (DY_of hd).l
  refine body_by (f := ir_spec_StatisticOf) rfl ?_; simp only [ir_spec_StatisticOf]
  simp (disch := first | omega | (simp only [vl]; omega)) only [vcd]
  repeat (first | (refine call_by (dyck_s (K := K) (w := w) (by omega)) rfl ?_; try simp (disch := first | omega | (simp only [vl]; omega)) only [vcd, hd, bq_f, bq_t, bq_n]) | (refine call_by (area_s (K := K) hd) rfl ?_; try simp (disch := first | omega | (simp only [vl]; omega)) only [vcd, hd, bq_f, bq_t, bq_n]))
  rfl
theorem st4_s [Has K 64 ir_spec_IsDyck] [Has K 235 ir_spec_StatisticOf] [Has K 297 ir_spec_BracketsOf] [Has K 298 ir_spec_DepthOf] [Has K 319 ir_spec_HeightsOf] [Has K 320 ir_spec_PathOfBrackets] {w : List Nat} (hd : dyck w = true) : K 235 [.s [100, 101, 112, 116, 104], .s w] [.n (stF w 4)] := by
  have hl := (DY_of hd).l
  refine body_by (f := ir_spec_StatisticOf) rfl ?_; simp only [ir_spec_StatisticOf]
  simp (disch := first | omega | (simp only [vl]; omega)) only [vcd]
  repeat (first | (refine call_by (dyck_s (K := K) (w := w) (by omega)) rfl ?_; try simp (disch := first | omega | (simp only [vl]; omega)) only [vcd, hd, bq_f, bq_t, bq_n]) | (refine call_by (br_s (K := K) hd) rfl ?_; try simp (disch := first | omega | (simp only [vl]; omega)) only [vcd, hd, bq_f, bq_t, bq_n]) | (refine call_by (dp_s (K := K) hd) rfl ?_; try simp (disch := first | omega | (simp only [vl]; omega)) only [vcd, hd, bq_f, bq_t, bq_n]))
  rfl
theorem st5_s [Has K 22 ir_spec_l1In] [Has K 64 ir_spec_IsDyck] [Has K 235 ir_spec_StatisticOf] [Has K 299 ir_spec_PlaneOf] [Has K 300 ir_spec_LeavesOf] [Has K 321 ir_spec_IsPlane] [Has K 322 ir_spec_ChildrenOf] {w : List Nat} (hd : dyck w = true) : K 235 [.s [108, 101, 97, 118, 101, 115], .s w] [.n (stF w 5)] := by
  have hl := (DY_of hd).l
  refine body_by (f := ir_spec_StatisticOf) rfl ?_; simp only [ir_spec_StatisticOf]
  simp (disch := first | omega | (simp only [vl]; omega)) only [vcd]
  have hpl := plF_len hd
  repeat (first | (refine call_by (dyck_s (K := K) (w := w) (by omega)) rfl ?_; try simp (disch := first | omega | (simp only [vl]; omega)) only [vcd, hd, bq_f, bq_t, bq_n]) | (refine call_by (plo_s (K := K) hd) rfl ?_; try simp (disch := first | omega | (simp only [vl]; omega)) only [vcd, hd, bq_f, bq_t, bq_n]) | (refine call_by (leaves_s (K := K) (p := plF w) (by omega)) rfl ?_; try simp (disch := first | omega | (simp only [vl]; omega)) only [vcd, hd, bq_f, bq_t, bq_n]))
  rfl
theorem st6_s [Has K 22 ir_spec_l1In] [Has K 64 ir_spec_IsDyck] [Has K 235 ir_spec_StatisticOf] [Has K 301 ir_spec_PartitionOf] [Has K 302 ir_spec_BlocksOf] [Has K 323 ir_spec_l8Renumber] [Has K 324 ir_spec_IsPartition] {w : List Nat} (hd : dyck w = true) : K 235 [.s [98, 108, 111, 99, 107, 115], .s w] [.n (stF w 6)] := by
  have hl := (DY_of hd).l
  refine body_by (f := ir_spec_StatisticOf) rfl ?_; simp only [ir_spec_StatisticOf]
  simp (disch := first | omega | (simp only [vl]; omega)) only [vcd]
  have hpl := ptn_len hd
  repeat (first | (refine call_by (dyck_s (K := K) (w := w) (by omega)) rfl ?_; try simp (disch := first | omega | (simp only [vl]; omega)) only [vcd, hd, bq_f, bq_t, bq_n]) | (refine call_by (ptn_s (K := K) hd) rfl ?_; try simp (disch := first | omega | (simp only [vl]; omega)) only [vcd, hd, bq_f, bq_t, bq_n]) | (refine call_by (blk_s (K := K) (p := ptn w) (by omega)) rfl ?_; try simp (disch := first | omega | (simp only [vl]; omega)) only [vcd, hd, bq_f, bq_t, bq_n]))
  rfl
theorem st7_s [Has K 64 ir_spec_IsDyck] [Has K 235 ir_spec_StatisticOf] [Has K 303 ir_spec_MajorOf] {w : List Nat} (hd : dyck w = true) : K 235 [.s [109, 97, 106, 111, 114], .s w] [.n (stF w 7)] := by
  have hl := (DY_of hd).l
  refine body_by (f := ir_spec_StatisticOf) rfl ?_; simp only [ir_spec_StatisticOf]
  simp (disch := first | omega | (simp only [vl]; omega)) only [vcd]
  repeat (first | (refine call_by (dyck_s (K := K) (w := w) (by omega)) rfl ?_; try simp (disch := first | omega | (simp only [vl]; omega)) only [vcd, hd, bq_f, bq_t, bq_n]) | (refine call_by (maj_s (K := K) hd) rfl ?_; try simp (disch := first | omega | (simp only [vl]; omega)) only [vcd, hd, bq_f, bq_t, bq_n]))
  rfl
theorem st8_s [Has K 64 ir_spec_IsDyck] [Has K 235 ir_spec_StatisticOf] [Has K 295 ir_spec_l13Run] {w : List Nat} (hd : dyck w = true) : K 235 [.s [102, 97, 108, 108], .s w] [.n (stF w 8)] := by
  have hl := (DY_of hd).l
  refine body_by (f := ir_spec_StatisticOf) rfl ?_; simp only [ir_spec_StatisticOf]
  simp (disch := first | omega | (simp only [vl]; omega)) only [vcd]
  repeat (first | (refine call_by (dyck_s (K := K) (w := w) (by omega)) rfl ?_; try simp (disch := first | omega | (simp only [vl]; omega)) only [vcd, hd, bq_f, bq_t, bq_n]) | (refine call_by (fall_s (K := K) (w := w) (by omega)) rfl ?_; try simp (disch := first | omega | (simp only [vl]; omega)) only [vcd, hd, bq_f, bq_t, bq_n]))
  rfl
theorem stat_s [Has K 22 ir_spec_l1In] [Has K 64 ir_spec_IsDyck] [Has K 235 ir_spec_StatisticOf] [Has K 293 ir_spec_PeaksOf] [Has K 294 ir_spec_ReturnsOf] [Has K 295 ir_spec_l13Run] [Has K 296 ir_spec_AreaOf] [Has K 297 ir_spec_BracketsOf] [Has K 298 ir_spec_DepthOf] [Has K 299 ir_spec_PlaneOf] [Has K 300 ir_spec_LeavesOf] [Has K 301 ir_spec_PartitionOf] [Has K 302 ir_spec_BlocksOf] [Has K 303 ir_spec_MajorOf] [Has K 319 ir_spec_HeightsOf] [Has K 320 ir_spec_PathOfBrackets] [Has K 321 ir_spec_IsPlane] [Has K 322 ir_spec_ChildrenOf] [Has K 323 ir_spec_l8Renumber] [Has K 324 ir_spec_IsPartition] {w : List Nat} (hd : dyck w = true) : ∀ i : Nat, i < 9 → K 235 [.s (atS stN i), .s w] [.n (stF w i)]
  | 0, _ => st0_s hd
  | 1, _ => st1_s hd
  | 2, _ => st2_s hd
  | 3, _ => st3_s hd
  | 4, _ => st4_s hd
  | 5, _ => st5_s hd
  | 6, _ => st6_s hd
  | 7, _ => st7_s hd
  | 8, _ => st8_s hd
  | i + 9, h => absurd h (by omega)

end Go.Cat

