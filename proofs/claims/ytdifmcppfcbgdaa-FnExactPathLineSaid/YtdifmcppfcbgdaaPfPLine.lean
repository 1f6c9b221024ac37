/-
  PathLine answers as the reference does.
-/
import Derived.Test.YtdifmcppfcbgdaaPfStatB
import Derived.Test.YtdifmcppfcbgdaaPfPlane
import Derived.Test.YtdifmcppfcbgdaaPfPart
import Derived.Test.YtdifmcppfcbgdaaPfTxt
import Derived.Test.YtdifmcppfcbgdaaPfRankP
import Derived.Test.YtdifmcppfcbgdaaIrAllA
namespace Go.Cat
set_option linter.unusedSimpArgs false
variable {K : Nat → List D → List D → Prop}

/-! ### The partition of a path -/
open Classical in
/-- The partners of the letters. -/
noncomputable def mate (w : List Nat) : List Int := if h : ∃ m, PP w m then h.choose else []
theorem mate_eq {w : List Nat} {m : List Int} (h : PP w m) : mate w = m := by
  have h2 : ∃ m, PP w m := ⟨m, h⟩
  simp only [mate, dif_pos h2]
  exact PP_one h2.choose_spec h
/-- The blocks' numbers of the letters u. -/
noncomputable def ptn (w : List Nat) : List Int := rnL (luG w (fun a => (drF w (atI (mate w) a).toNat : Int)) w.length) (uix w w.length)
theorem ptn_len {w : List Nat} (hd : dyck w = true) : (ptn w).length ≤ 8 := by
  have h := uix_all hd
  have hl := (DY_of hd).l
  simp only [ptn, rnL_len]; omega
theorem ptn_ok [Has K 64 ir_spec_IsDyck] [Has K 67 ir_impl_IsDyck] [Has K 82 ir_impl_heights] [Has K 301 ir_spec_PartitionOf] [Has K 323 ir_spec_l8Renumber] [Has K 373 ir_impl_partners] [Has K 475 ir_impl_RenumberBlocks] [Has K 503 ir_impl_PartitionOf] {w : List Nat} (hd : dyck w = true) : K 503 [.s w] [LI (ptn w), .b true] ∧ K 301 [.s w] [LI (ptn w), .b true] := by
  obtain ⟨_, ⟨m, hm, rfl⟩, k1⟩ := part_p_i (K := K) hd
  have k2 := part_p_s (K := K) hd hm
  have hml := hm.1
  have e := mate_eq hm
  refine ⟨?_, by rw [ptn, e]; exact k2⟩
  have e2 : rnL (luG w (fun a => (pkF2 w (atI m a).toNat : Int)) w.length) (uix w w.length) = ptn w := by
    have h1 : luG w (fun a => (pkF2 w (atI m a).toNat : Int)) w.length = (luG w (fun a => (drF w (atI m a).toNat : Int)) w.length).map (· + 1) := by
      refine luG_map fun a ha hu => ?_
      obtain ⟨b, hb, q⟩ := hm.2 a ha
      have hbl : b < w.length := by rcases q with q | q <;> have := q.1 <;> have := q.2.1 <;> omega
      have hD := DY_of hd
      have hb1 : atB w b = 100 := by
        rcases hD.ud b hbl with hv | hv
        · exfalso
          rcases q with q | q
          · have h3 := Hh_up hbl hv
            have h4 := q.2.2.1
            have h5 := q.2.2.2 b q.1 (Nat.le_refl _)
            omega
          · have h3 := Hh_up ha hu
            have h4 := q.2.2.1
            have h5 := q.2.2.2 a q.1 (Nat.le_refl _)
            omega
        · exact hv
      have h2 := pv_alt hd hbl
      rw [if_pos hb1] at h2
      simp only [hb, Int.toNat_natCast]
      omega
    rw [h1, rn_map, ptn, e]
    rw [luG_len (Nat.le_refl _)]
    exact Nat.le_refl _
  rw [e2] at k1
  exact k1

theorem plF_len {w : List Nat} (hd : dyck w = true) : (plF w).length ≤ 17 := by
  have hl := (DY_of hd).l
  have := plT_len (w := w) (out := [-1]) (st := [0])
  simp only [plF, List.length_cons, List.length_nil] at *; omega
/-! ### Statistics by name -/
def stN : List (List Nat) := [[112, 101, 97, 107, 115], [114, 101, 116, 117, 114, 110, 115], [114, 105, 115, 101], [97, 114, 101, 97], [100, 101, 112, 116, 104], [108, 101, 97, 118, 101, 115], [98, 108, 111, 99, 107, 115], [109, 97, 106, 111, 114], [102, 97, 108, 108]]
theorem ls_9 {a b c d e f g h i : List Nat} : liD [.s a, .s b, .s c, .s d, .s e, .s f, .s g, .s h, .s i] = some (LS [a, b, c, d, e, f, g, h, i]) := rfl
theorem stn_i [Has K 499 ir_impl_StatisticNames] : K 499 [] [LS stN] := by
  refine body_by (f := ir_impl_StatisticNames) rfl ?_; simp only [ir_impl_StatisticNames]
  simp (disch := first | omega | (simp only [vl]; omega)) only [vcd, ls_9]
  rfl
theorem stn_s [Has K 498 ir_spec_StatisticNames] : K 498 [] [LS stN] := by
  refine body_by (f := ir_spec_StatisticNames) rfl ?_; simp only [ir_spec_StatisticNames]
  simp (disch := first | omega | (simp only [vl]; omega)) only [vcd, ls_9]
  rfl
/-- The numbers of a path, in the order of their names. -/
noncomputable def stF (w : List Nat) : Nat → Int
  | 0 => pvF 117 100 (fun _ => 1) w (w.length - 1)
  | 1 => rtF w w.length
  | 2 => runL 117 w
  | 3 => arF w w.length
  | 4 => dpF w (w.length + 1)
  | 5 => lvF (plF w) (plF w).length
  | 6 => (if isPt (ptn w) = true then blF (ptn w) (ptn w).length else []).length
  | 7 => pvF 100 117 (fun j => j + 1) w (w.length - 1)
  | 8 => runL 100 w.reverse
  | _ => -1
/-- A path is chosen by its name. -/
theorem bq_f {a b : Nat} {x y : List Nat} (h : a ≠ b) : ((a :: x) == (b :: y)) = false := by
  rw [List.cons_beq_cons, beq_eq_false_iff_ne.2 h]; rfl
theorem bq_t {a : Nat} {x y : List Nat} : ((a :: x) == (a :: y)) = (x == y) := by
  rw [List.cons_beq_cons, beq_self_eq_true, Bool.true_and]
theorem bq_n : (([] : List Nat) == []) = true := rfl
theorem st0_i [Has K 67 ir_impl_IsDyck] [Has K 82 ir_impl_heights] [Has K 280 ir_impl_PeaksOf] [Has K 500 ir_impl_StatisticOf] {w : List Nat} (hd : dyck w = true) : K 500 [.s [112, 101, 97, 107, 115], .s w] [.n (stF w 0)] := by
  have hl := (DY_of hd).l
  refine body_by (f := ir_impl_StatisticOf) rfl ?_; simp only [ir_impl_StatisticOf]
  simp (disch := first | omega | (simp only [vl]; omega)) only [vcd]
  repeat (first | (refine call_by (dyck_i (K := K) (w := w) (by omega)) rfl ?_; try simp (disch := first | omega | (simp only [vl]; omega)) only [vcd, hd, bq_f, bq_t, bq_n]) | (refine call_by (pk2_i (K := K) hd) rfl ?_; try simp (disch := first | omega | (simp only [vl]; omega)) only [vcd, hd, bq_f, bq_t, bq_n]))
  rfl
theorem st1_i [Has K 67 ir_impl_IsDyck] [Has K 82 ir_impl_heights] [Has K 500 ir_impl_StatisticOf] [Has K 501 ir_impl_HeightsOf] [Has K 507 ir_impl_ReturnsOf] {w : List Nat} (hd : dyck w = true) : K 500 [.s [114, 101, 116, 117, 114, 110, 115], .s w] [.n (stF w 1)] := by
  have hl := (DY_of hd).l
  refine body_by (f := ir_impl_StatisticOf) rfl ?_; simp only [ir_impl_StatisticOf]
  simp (disch := first | omega | (simp only [vl]; omega)) only [vcd]
  repeat (first | (refine call_by (dyck_i (K := K) (w := w) (by omega)) rfl ?_; try simp (disch := first | omega | (simp only [vl]; omega)) only [vcd, hd, bq_f, bq_t, bq_n]) | (refine call_by (ret_i (K := K) hd) rfl ?_; try simp (disch := first | omega | (simp only [vl]; omega)) only [vcd, hd, bq_f, bq_t, bq_n]))
  rfl
theorem st2_i [Has K 67 ir_impl_IsDyck] [Has K 82 ir_impl_heights] [Has K 500 ir_impl_StatisticOf] {w : List Nat} (hd : dyck w = true) : K 500 [.s [114, 105, 115, 101], .s w] [.n (stF w 2)] := by
  have hl := (DY_of hd).l
  refine body_by (f := ir_impl_StatisticOf) rfl ?_; simp only [ir_impl_StatisticOf]
  simp (disch := first | omega | (simp only [vl]; omega)) only [vcd]
  repeat (first | (refine call_by (dyck_i (K := K) (w := w) (by omega)) rfl ?_; try simp (disch := first | omega | (simp only [vl]; omega)) only [vcd, hd, bq_f, bq_t, bq_n]))
  refine loop_wh (fun (x : Nat) => x ≤ runL 117 w) (fun x => [.u, .s w, .u, .n x, .u, .u, .u, .u, .u, .u, .u, .u, .u, .u, .u, .u, .u, .u, .u, .u, .u]) (fun x => runL 117 w - x) 0 (by omega) rfl ?_
  intro x hx
  have hr := runL_le (c := 117) w
  by_cases hxl : x < w.length
  · have ha := runL_at (c := 117) hxl
    by_cases hxr : x < runL 117 w
    · simp (disch := first | omega | (simp only [vl]; omega)) only [vcd, ha.1 hxr]
      exact ⟨x + 1, by omega, by omega, by simp⟩
    · have := ha.2 (by omega)
      simp (disch := first | omega | (simp only [vl]; omega)) only [vcd]
      exact Dn (by simp only [stF]; omega)
  · simp (disch := first | omega | (simp only [vl]; omega)) only [vcd]
    exact Dn (by simp only [stF]; omega)
theorem st3_i [Has K 67 ir_impl_IsDyck] [Has K 82 ir_impl_heights] [Has K 465 ir_impl_AreaOf] [Has K 500 ir_impl_StatisticOf] [Has K 501 ir_impl_HeightsOf] {w : List Nat} (hd : dyck w = true) : K 500 [.s [97, 114, 101, 97], .s w] [.n (stF w 3)] := by
  have hl := (DY_of hd).l
  refine body_by (f := ir_impl_StatisticOf) rfl ?_; simp only [ir_impl_StatisticOf]
  simp (disch := first | omega | (simp only [vl]; omega)) only [vcd]
  repeat (first | (refine call_by (dyck_i (K := K) (w := w) (by omega)) rfl ?_; try simp (disch := first | omega | (simp only [vl]; omega)) only [vcd, hd, bq_f, bq_t, bq_n]) | (refine call_by (area_i (K := K) hd) rfl ?_; try simp (disch := first | omega | (simp only [vl]; omega)) only [vcd, hd, bq_f, bq_t, bq_n]))
  rfl
theorem st4_i [Has K 67 ir_impl_IsDyck] [Has K 82 ir_impl_heights] [Has K 83 ir_impl_exchanged] [Has K 500 ir_impl_StatisticOf] [Has K 501 ir_impl_HeightsOf] [Has K 508 ir_impl_BracketsOf] [Has K 509 ir_impl_DepthOf] [Has K 515 ir_impl_PathOfBrackets] {w : List Nat} (hd : dyck w = true) : K 500 [.s [100, 101, 112, 116, 104], .s w] [.n (stF w 4)] := by
  have hl := (DY_of hd).l
  refine body_by (f := ir_impl_StatisticOf) rfl ?_; simp only [ir_impl_StatisticOf]
  simp (disch := first | omega | (simp only [vl]; omega)) only [vcd]
  repeat (first | (refine call_by (dyck_i (K := K) (w := w) (by omega)) rfl ?_; try simp (disch := first | omega | (simp only [vl]; omega)) only [vcd, hd, bq_f, bq_t, bq_n]) | (refine call_by (br_i (K := K) hd) rfl ?_; try simp (disch := first | omega | (simp only [vl]; omega)) only [vcd, hd, bq_f, bq_t, bq_n]) | (refine call_by (dp_i (K := K) hd) rfl ?_; try simp (disch := first | omega | (simp only [vl]; omega)) only [vcd, hd, bq_f, bq_t, bq_n]))
  rfl
theorem st5_i [Has K 23 ir_impl_within] [Has K 67 ir_impl_IsDyck] [Has K 82 ir_impl_heights] [Has K 500 ir_impl_StatisticOf] [Has K 510 ir_impl_PlaneOf] [Has K 511 ir_impl_LeavesOf] [Has K 516 ir_impl_IsPlane] [Has K 517 ir_impl_ChildrenOf] {w : List Nat} (hd : dyck w = true) : K 500 [.s [108, 101, 97, 118, 101, 115], .s w] [.n (stF w 5)] := by
  have hl := (DY_of hd).l
  refine body_by (f := ir_impl_StatisticOf) rfl ?_; simp only [ir_impl_StatisticOf]
  simp (disch := first | omega | (simp only [vl]; omega)) only [vcd]
  have hpl := plF_len hd
  repeat (first | (refine call_by (dyck_i (K := K) (w := w) (by omega)) rfl ?_; try simp (disch := first | omega | (simp only [vl]; omega)) only [vcd, hd, bq_f, bq_t, bq_n]) | (refine call_by (plo_i (K := K) hd) rfl ?_; try simp (disch := first | omega | (simp only [vl]; omega)) only [vcd, hd, bq_f, bq_t, bq_n]) | (refine call_by (leaves_i (K := K) (p := plF w) (by omega)) rfl ?_; try simp (disch := first | omega | (simp only [vl]; omega)) only [vcd, hd, bq_f, bq_t, bq_n]))
  rfl
theorem st6_i [Has K 23 ir_impl_within] [Has K 64 ir_spec_IsDyck] [Has K 67 ir_impl_IsDyck] [Has K 82 ir_impl_heights] [Has K 301 ir_spec_PartitionOf] [Has K 323 ir_spec_l8Renumber] [Has K 373 ir_impl_partners] [Has K 475 ir_impl_RenumberBlocks] [Has K 478 ir_impl_IsPartition] [Has K 479 ir_impl_BlocksOf] [Has K 500 ir_impl_StatisticOf] [Has K 503 ir_impl_PartitionOf] {w : List Nat} (hd : dyck w = true) : K 500 [.s [98, 108, 111, 99, 107, 115], .s w] [.n (stF w 6)] := by
  have hl := (DY_of hd).l
  refine body_by (f := ir_impl_StatisticOf) rfl ?_; simp only [ir_impl_StatisticOf]
  simp (disch := first | omega | (simp only [vl]; omega)) only [vcd]
  have hpl := ptn_len hd
  repeat (first | (refine call_by (dyck_i (K := K) (w := w) (by omega)) rfl ?_; try simp (disch := first | omega | (simp only [vl]; omega)) only [vcd, hd, bq_f, bq_t, bq_n]) | (refine call_by ((ptn_ok (K := K) hd).1) rfl ?_; try simp (disch := first | omega | (simp only [vl]; omega)) only [vcd, hd, bq_f, bq_t, bq_n]) | (refine call_by (blk_i (K := K) (p := ptn w) (by omega)) rfl ?_; try simp (disch := first | omega | (simp only [vl]; omega)) only [vcd, hd, bq_f, bq_t, bq_n]))
  rfl
theorem st7_i [Has K 67 ir_impl_IsDyck] [Has K 82 ir_impl_heights] [Has K 500 ir_impl_StatisticOf] [Has K 512 ir_impl_MajorOf] {w : List Nat} (hd : dyck w = true) : K 500 [.s [109, 97, 106, 111, 114], .s w] [.n (stF w 7)] := by
  have hl := (DY_of hd).l
  refine body_by (f := ir_impl_StatisticOf) rfl ?_; simp only [ir_impl_StatisticOf]
  simp (disch := first | omega | (simp only [vl]; omega)) only [vcd]
  repeat (first | (refine call_by (dyck_i (K := K) (w := w) (by omega)) rfl ?_; try simp (disch := first | omega | (simp only [vl]; omega)) only [vcd, hd, bq_f, bq_t, bq_n]) | (refine call_by (maj_i (K := K) hd) rfl ?_; try simp (disch := first | omega | (simp only [vl]; omega)) only [vcd, hd, bq_f, bq_t, bq_n]))
  rfl
theorem st8_i [Has K 67 ir_impl_IsDyck] [Has K 82 ir_impl_heights] [Has K 500 ir_impl_StatisticOf] {w : List Nat} (hd : dyck w = true) : K 500 [.s [102, 97, 108, 108], .s w] [.n (stF w 8)] := by
  have hl := (DY_of hd).l
  refine body_by (f := ir_impl_StatisticOf) rfl ?_; simp only [ir_impl_StatisticOf]
  simp (disch := first | omega | (simp only [vl]; omega)) only [vcd]
  repeat (first | (refine call_by (dyck_i (K := K) (w := w) (by omega)) rfl ?_; try simp (disch := first | omega | (simp only [vl]; omega)) only [vcd, hd, bq_f, bq_t, bq_n]))
  refine loop_wh (fun (x : Nat) => x ≤ runL 100 w.reverse) (fun x => [.u, .s w, .u, .u, .u, .u, .u, .n x, .u, .u, .u, .u, .u, .u, .u, .u, .u, .u, .u, .u, .u]) (fun x => runL 100 w.reverse - x) 0 (by omega) rfl ?_
  intro x hx
  have hr := runL_le (c := 100) w.reverse
  rw [List.length_reverse] at hr
  by_cases hxl : x < w.length
  · have ha := runL_at (c := 100) (l := w.reverse) (i := x) (by simpa using hxl)
    rw [at_rev hxl] at ha
    by_cases hxr : x < runL 100 w.reverse
    · simp (disch := first | omega | (simp only [vl]; omega)) only [vcd, ha.1 hxr]
      exact ⟨x + 1, by omega, by omega, by simp⟩
    · have := ha.2 (by omega)
      simp (disch := first | omega | (simp only [vl]; omega)) only [vcd]
      exact Dn (by simp only [stF]; omega)
  · simp (disch := first | omega | (simp only [vl]; omega)) only [vcd]
    exact Dn (by simp only [stF]; omega)
theorem st0_s [Has K 64 ir_spec_IsDyck] [Has K 235 ir_spec_StatisticOf] [Has K 293 ir_spec_PeaksOf] {w : List Nat} (hd : dyck w = true) : K 235 [.s [112, 101, 97, 107, 115], .s w] [.n (stF w 0)] := by
  have hl := (DY_of hd).l
  refine body_by (f := ir_spec_StatisticOf) rfl ?_; simp only [ir_spec_StatisticOf]
  simp (disch := first | omega | (simp only [vl]; omega)) only [vcd]
  repeat (first | (refine call_by (dyck_s (K := K) (w := w) (by omega)) rfl ?_; try simp (disch := first | omega | (simp only [vl]; omega)) only [vcd, hd, bq_f, bq_t, bq_n]) | (refine call_by (pk2_s (K := K) hd) rfl ?_; try simp (disch := first | omega | (simp only [vl]; omega)) only [vcd, hd, bq_f, bq_t, bq_n]))
  rfl
theorem st1_s [Has K 64 ir_spec_IsDyck] [Has K 235 ir_spec_StatisticOf] [Has K 294 ir_spec_ReturnsOf] [Has K 319 ir_spec_HeightsOf] {w : List Nat} (hd : dyck w = true) : K 235 [.s [114, 101, 116, 117, 114, 110, 115], .s w] [.n (stF w 1)] := by
  have hl := (DY_of hd).l
  refine body_by (f := ir_spec_StatisticOf) rfl ?_; simp only [ir_spec_StatisticOf]
  simp (disch := first | omega | (simp only [vl]; omega)) only [vcd]
  repeat (first | (refine call_by (dyck_s (K := K) (w := w) (by omega)) rfl ?_; try simp (disch := first | omega | (simp only [vl]; omega)) only [vcd, hd, bq_f, bq_t, bq_n]) | (refine call_by (ret_s (K := K) hd) rfl ?_; try simp (disch := first | omega | (simp only [vl]; omega)) only [vcd, hd, bq_f, bq_t, bq_n]))
  rfl
theorem st2_s [Has K 64 ir_spec_IsDyck] [Has K 235 ir_spec_StatisticOf] [Has K 295 ir_spec_l13Run] {w : List Nat} (hd : dyck w = true) : K 235 [.s [114, 105, 115, 101], .s w] [.n (stF w 2)] := by
  have hl := (DY_of hd).l
  refine body_by (f := ir_spec_StatisticOf) rfl ?_; simp only [ir_spec_StatisticOf]
  simp (disch := first | omega | (simp only [vl]; omega)) only [vcd]
  repeat (first | (refine call_by (dyck_s (K := K) (w := w) (by omega)) rfl ?_; try simp (disch := first | omega | (simp only [vl]; omega)) only [vcd, hd, bq_f, bq_t, bq_n]) | (refine call_by (rise_s (K := K) (w := w) (by omega)) rfl ?_; try simp (disch := first | omega | (simp only [vl]; omega)) only [vcd, hd, bq_f, bq_t, bq_n]))
  rfl
theorem st3_s [Has K 64 ir_spec_IsDyck] [Has K 235 ir_spec_StatisticOf] [Has K 296 ir_spec_AreaOf] [Has K 319 ir_spec_HeightsOf] {w : List Nat} (hd : dyck w = true) : K 235 [.s [97, 114, 101, 97], .s w] [.n (stF w 3)] := by
  have hl := (DY_of hd).l
  refine body_by (f := ir_spec_StatisticOf) rfl ?_; simp only [ir_spec_StatisticOf]
  simp (disch := first | omega | (simp only [vl]; omega)) only [vcd]
  repeat (first | (refine call_by (dyck_s (K := K) (w := w) (by omega)) rfl ?_; try simp (disch := first | omega | (simp only [vl]; omega)) only [vcd, hd, bq_f, bq_t, bq_n]) | (refine call_by (area_s (K := K) hd) rfl ?_; try simp (disch := first | omega | (simp only [vl]; omega)) only [vcd, hd, bq_f, bq_t, bq_n]))
  rfl
theorem st4_s [Has K 64 ir_spec_IsDyck] [Has K 235 ir_spec_StatisticOf] [Has K 297 ir_spec_BracketsOf] [Has K 298 ir_spec_DepthOf] [Has K 319 ir_spec_HeightsOf] [Has K 320 ir_spec_PathOfBrackets] {w : List Nat} (hd : dyck w = true) : K 235 [.s [100, 101, 112, 116, 104], .s w] [.n (stF w 4)] := by
  have hl := (DY_of hd).l
  refine body_by (f := ir_spec_StatisticOf) rfl ?_; simp only [ir_spec_StatisticOf]
  simp (disch := first | omega | (simp only [vl]; omega)) only [vcd]
  repeat (first | (refine call_by (dyck_s (K := K) (w := w) (by omega)) rfl ?_; try simp (disch := first | omega | (simp only [vl]; omega)) only [vcd, hd, bq_f, bq_t, bq_n]) | (refine call_by (br_s (K := K) hd) rfl ?_; try simp (disch := first | omega | (simp only [vl]; omega)) only [vcd, hd, bq_f, bq_t, bq_n]) | (refine call_by (dp_s (K := K) hd) rfl ?_; try simp (disch := first | omega | (simp only [vl]; omega)) only [vcd, hd, bq_f, bq_t, bq_n]))
  rfl
theorem st5_s [Has K 22 ir_spec_l1In] [Has K 64 ir_spec_IsDyck] [Has K 235 ir_spec_StatisticOf] [Has K 299 ir_spec_PlaneOf] [Has K 300 ir_spec_LeavesOf] [Has K 321 ir_spec_IsPlane] [Has K 322 ir_spec_ChildrenOf] {w : List Nat} (hd : dyck w = true) : K 235 [.s [108, 101, 97, 118, 101, 115], .s w] [.n (stF w 5)] := by
  have hl := (DY_of hd).l
  refine body_by (f := ir_spec_StatisticOf) rfl ?_; simp only [ir_spec_StatisticOf]
  simp (disch := first | omega | (simp only [vl]; omega)) only [vcd]
  have hpl := plF_len hd
  repeat (first | (refine call_by (dyck_s (K := K) (w := w) (by omega)) rfl ?_; try simp (disch := first | omega | (simp only [vl]; omega)) only [vcd, hd, bq_f, bq_t, bq_n]) | (refine call_by (plo_s (K := K) hd) rfl ?_; try simp (disch := first | omega | (simp only [vl]; omega)) only [vcd, hd, bq_f, bq_t, bq_n]) | (refine call_by (leaves_s (K := K) (p := plF w) (by omega)) rfl ?_; try simp (disch := first | omega | (simp only [vl]; omega)) only [vcd, hd, bq_f, bq_t, bq_n]))
  rfl
theorem st6_s [Has K 22 ir_spec_l1In] [Has K 64 ir_spec_IsDyck] [Has K 67 ir_impl_IsDyck] [Has K 82 ir_impl_heights] [Has K 235 ir_spec_StatisticOf] [Has K 301 ir_spec_PartitionOf] [Has K 302 ir_spec_BlocksOf] [Has K 323 ir_spec_l8Renumber] [Has K 324 ir_spec_IsPartition] [Has K 373 ir_impl_partners] [Has K 475 ir_impl_RenumberBlocks] [Has K 503 ir_impl_PartitionOf] {w : List Nat} (hd : dyck w = true) : K 235 [.s [98, 108, 111, 99, 107, 115], .s w] [.n (stF w 6)] := by
  have hl := (DY_of hd).l
  refine body_by (f := ir_spec_StatisticOf) rfl ?_; simp only [ir_spec_StatisticOf]
  simp (disch := first | omega | (simp only [vl]; omega)) only [vcd]
  have hpl := ptn_len hd
  repeat (first | (refine call_by (dyck_s (K := K) (w := w) (by omega)) rfl ?_; try simp (disch := first | omega | (simp only [vl]; omega)) only [vcd, hd, bq_f, bq_t, bq_n]) | (refine call_by ((ptn_ok (K := K) hd).2) rfl ?_; try simp (disch := first | omega | (simp only [vl]; omega)) only [vcd, hd, bq_f, bq_t, bq_n]) | (refine call_by (blk_s (K := K) (p := ptn w) (by omega)) rfl ?_; try simp (disch := first | omega | (simp only [vl]; omega)) only [vcd, hd, bq_f, bq_t, bq_n]))
  rfl
theorem st7_s [Has K 64 ir_spec_IsDyck] [Has K 235 ir_spec_StatisticOf] [Has K 303 ir_spec_MajorOf] {w : List Nat} (hd : dyck w = true) : K 235 [.s [109, 97, 106, 111, 114], .s w] [.n (stF w 7)] := by
  have hl := (DY_of hd).l
  refine body_by (f := ir_spec_StatisticOf) rfl ?_; simp only [ir_spec_StatisticOf]
  simp (disch := first | omega | (simp only [vl]; omega)) only [vcd]
  repeat (first | (refine call_by (dyck_s (K := K) (w := w) (by omega)) rfl ?_; try simp (disch := first | omega | (simp only [vl]; omega)) only [vcd, hd, bq_f, bq_t, bq_n]) | (refine call_by (maj_s (K := K) hd) rfl ?_; try simp (disch := first | omega | (simp only [vl]; omega)) only [vcd, hd, bq_f, bq_t, bq_n]))
  rfl
theorem st8_s [Has K 64 ir_spec_IsDyck] [Has K 235 ir_spec_StatisticOf] [Has K 295 ir_spec_l13Run] {w : List Nat} (hd : dyck w = true) : K 235 [.s [102, 97, 108, 108], .s w] [.n (stF w 8)] := by
  have hl := (DY_of hd).l
  refine body_by (f := ir_spec_StatisticOf) rfl ?_; simp only [ir_spec_StatisticOf]
  simp (disch := first | omega | (simp only [vl]; omega)) only [vcd]
  repeat (first | (refine call_by (dyck_s (K := K) (w := w) (by omega)) rfl ?_; try simp (disch := first | omega | (simp only [vl]; omega)) only [vcd, hd, bq_f, bq_t, bq_n]) | (refine call_by (fall_s (K := K) (w := w) (by omega)) rfl ?_; try simp (disch := first | omega | (simp only [vl]; omega)) only [vcd, hd, bq_f, bq_t, bq_n]))
  rfl
theorem stat_i [Has K 23 ir_impl_within] [Has K 64 ir_spec_IsDyck] [Has K 67 ir_impl_IsDyck] [Has K 82 ir_impl_heights] [Has K 83 ir_impl_exchanged] [Has K 280 ir_impl_PeaksOf] [Has K 301 ir_spec_PartitionOf] [Has K 323 ir_spec_l8Renumber] [Has K 373 ir_impl_partners] [Has K 465 ir_impl_AreaOf] [Has K 475 ir_impl_RenumberBlocks] [Has K 478 ir_impl_IsPartition] [Has K 479 ir_impl_BlocksOf] [Has K 500 ir_impl_StatisticOf] [Has K 501 ir_impl_HeightsOf] [Has K 503 ir_impl_PartitionOf] [Has K 507 ir_impl_ReturnsOf] [Has K 508 ir_impl_BracketsOf] [Has K 509 ir_impl_DepthOf] [Has K 510 ir_impl_PlaneOf] [Has K 511 ir_impl_LeavesOf] [Has K 512 ir_impl_MajorOf] [Has K 515 ir_impl_PathOfBrackets] [Has K 516 ir_impl_IsPlane] [Has K 517 ir_impl_ChildrenOf] {w : List Nat} (hd : dyck w = true) : ∀ i : Nat, i < 9 → K 500 [.s (atS stN i), .s w] [.n (stF w i)]
  | 0, _ => st0_i hd
  | 1, _ => st1_i hd
  | 2, _ => st2_i hd
  | 3, _ => st3_i hd
  | 4, _ => st4_i hd
  | 5, _ => st5_i hd
  | 6, _ => st6_i hd
  | 7, _ => st7_i hd
  | 8, _ => st8_i hd
  | i + 9, h => absurd h (by omega)
theorem stat_s [Has K 22 ir_spec_l1In] [Has K 64 ir_spec_IsDyck] [Has K 67 ir_impl_IsDyck] [Has K 82 ir_impl_heights] [Has K 235 ir_spec_StatisticOf] [Has K 293 ir_spec_PeaksOf] [Has K 294 ir_spec_ReturnsOf] [Has K 295 ir_spec_l13Run] [Has K 296 ir_spec_AreaOf] [Has K 297 ir_spec_BracketsOf] [Has K 298 ir_spec_DepthOf] [Has K 299 ir_spec_PlaneOf] [Has K 300 ir_spec_LeavesOf] [Has K 301 ir_spec_PartitionOf] [Has K 302 ir_spec_BlocksOf] [Has K 303 ir_spec_MajorOf] [Has K 319 ir_spec_HeightsOf] [Has K 320 ir_spec_PathOfBrackets] [Has K 321 ir_spec_IsPlane] [Has K 322 ir_spec_ChildrenOf] [Has K 323 ir_spec_l8Renumber] [Has K 324 ir_spec_IsPartition] [Has K 373 ir_impl_partners] [Has K 475 ir_impl_RenumberBlocks] [Has K 503 ir_impl_PartitionOf] {w : List Nat} (hd : dyck w = true) : ∀ i : Nat, i < 9 → K 235 [.s (atS stN i), .s w] [.n (stF w i)]
  | 0, _ => st0_s hd
  | 1, _ => st1_s hd
  | 2, _ => st2_s hd
  | 3, _ => st3_s hd
  | 4, _ => st4_s hd
  | 5, _ => st5_s hd
  | 6, _ => st6_s hd
  | 7, _ => st7_s hd
  | 8, _ => st8_s hd
  | i + 9, h => absurd h (by omega)

theorem stF_bd {w : List Nat} (hd : dyck w = true) : ∀ i : Nat, -1000 ≤ stF w i ∧ stF w i ≤ 1000
  | 0 => by
    have hl := (DY_of hd).l
    have := pvF_le (a := 117) (b := 100) (g := fun _ => 1) (w := w) (fun _ _ => by omega) (i := w.length - 1) (by omega)
    simp only [stF]; omega
  | 1 => by
    have hl := (DY_of hd).l
    have := rtF_le (w := w) (i := w.length)
    simp only [stF]; omega
  | 2 => by
    have hl := (DY_of hd).l
    have := runL_le (c := 117) w
    simp only [stF]; omega
  | 3 => by
    have hl := (DY_of hd).l
    have := arF_bd hl (i := w.length) (by omega)
    simp only [stF]; omega
  | 4 => by
    have hl := (DY_of hd).l
    have := dpF_bd (w := w) (w.length + 1)
    simp only [stF]; omega
  | 5 => by
    have hl := plF_len hd
    have := lvF_le (p := plF w) (i := (plF w).length)
    simp only [stF]; omega
  | 6 => by
    have hl := ptn_len hd
    simp only [stF]
    split
    · rename_i h
      simp only [isPt, Bool.and_eq_true, decide_eq_true_eq] at h
      have h1 := blF_len (p := ptn w) h.2
      have h2 := nxF_bd h.2
      omega
    · simp
  | 7 => by
    have hl := (DY_of hd).l
    have := pvF_le (a := 100) (b := 117) (g := fun j => j + 1) (w := w) (fun _ _ => by omega) (i := w.length - 1) (by omega)
    simp only [stF]; omega
  | 8 => by
    have hl := (DY_of hd).l
    have := runL_le (c := 100) w.reverse
    rw [List.length_reverse] at this
    simp only [stF]; omega
  | i + 9 => by simp only [stF]; omega

/-! ### Lines -/
theorem line_ok [Has K 141 ir_impl_line] [Has K 184 ir_impl_glued] {ws : List (List Nat)} (hl : ws.length ≤ 100000) (hb : ∀ x ∈ ws, x.length ≤ 100000) : K 141 [LS ws] [.s (glue [32] ws)] := by
  refine body_by (f := ir_impl_line) rfl ?_; simp only [ir_impl_line]
  simp (disch := first | omega | (simp only [vl]; omega)) only [vcd]
  refine call_by (glued_ok (K := K) (ws := ws) (sep := [32]) hl hb (by simp)) rfl ?_
  simp (disch := first | omega | (simp only [vl]; omega)) only [vcd]
theorem glue_3 {s a b c : List Nat} : glue s [a, b, c] = a ++ s ++ b ++ s ++ c := by simp [glue, glT, atS]
theorem glue_4 {s a b c d : List Nat} : glue s [a, b, c, d] = a ++ s ++ b ++ s ++ c ++ s ++ d := by simp [glue, glT, atS]
theorem ls_4 {a b c d : List Nat} : liD [.s a, .s b, .s c, .s d] = some (LS [a, b, c, d]) := rfl
theorem ls_3 {a b c : List Nat} : liD [.s a, .s b, .s c] = some (LS [a, b, c]) := rfl
noncomputable def plnT (w : List Nat) : Nat → List Nat
  | 0 => [112, 97, 116, 104] ++ [32] ++ fmtI (szR w) ++ [32] ++ [114, 97, 110, 107] ++ [32] ++ fmtI (rkR w)
  | i + 1 => plnT w i ++ [32] ++ atS stN i ++ [32] ++ fmtI (stF w i)
theorem stN_len {i : Nat} : (atS stN i).length ≤ 10 := atS_len (b := 10) (ws := stN) (by decide)
theorem rk_bd {w : List Nat} (hd : dyck w = true) : -1 ≤ rkR w ∧ rkR w ≤ 1430 := by
  simp only [rkR, hd, if_true]
  obtain ⟨g, hl⟩ := gw_dyck hd
  have h1 := (rk_ok w _ _ g).1
  have h2 := bw_max (u := w.length / 2) (d := w.length / 2) (by omega) (by omega)
  omega
theorem szR_d {w : List Nat} (hd : dyck w = true) : szR w = (w.length : Int) / 2 := by simp [szR, hd]
theorem plnT_len {w : List Nat} (hd : dyck w = true) : ∀ i : Nat, (plnT w i).length ≤ 60 + i * 40
  | 0 => by
    have hl := (DY_of hd).l
    have h1 := rk_bd hd
    have h2 := szR_d hd
    have h3 := fmt_len (n := rkR w) (by omega)
    have h4 := fmt_len (n := szR w) (by omega)
    simp only [plnT, List.length_append, List.length_cons, List.length_nil]; omega
  | i + 1 => by
    have h := plnT_len hd i
    have h1 := stF_bd hd i
    have h3 := fmt_len (n := stF w i) (by omega)
    have h4 := stN_len (i := i)
    simp only [plnT, List.length_append, List.length_cons, List.length_nil]; omega
theorem pln_i [Has K 23 ir_impl_within] [Has K 27 ir_impl_BallotNumber] [Has K 64 ir_spec_IsDyck] [Has K 67 ir_impl_IsDyck] [Has K 82 ir_impl_heights] [Has K 83 ir_impl_exchanged] [Has K 132 ir_impl_SizeOf] [Has K 141 ir_impl_line] [Has K 143 ir_impl_FormatInt] [Has K 184 ir_impl_glued] [Has K 273 ir_impl_RankPath] [Has K 280 ir_impl_PeaksOf] [Has K 301 ir_spec_PartitionOf] [Has K 323 ir_spec_l8Renumber] [Has K 373 ir_impl_partners] [Has K 458 ir_impl_PathLine] [Has K 465 ir_impl_AreaOf] [Has K 475 ir_impl_RenumberBlocks] [Has K 478 ir_impl_IsPartition] [Has K 479 ir_impl_BlocksOf] [Has K 499 ir_impl_StatisticNames] [Has K 500 ir_impl_StatisticOf] [Has K 501 ir_impl_HeightsOf] [Has K 503 ir_impl_PartitionOf] [Has K 507 ir_impl_ReturnsOf] [Has K 508 ir_impl_BracketsOf] [Has K 509 ir_impl_DepthOf] [Has K 510 ir_impl_PlaneOf] [Has K 511 ir_impl_LeavesOf] [Has K 512 ir_impl_MajorOf] [Has K 515 ir_impl_PathOfBrackets] [Has K 516 ir_impl_IsPlane] [Has K 517 ir_impl_ChildrenOf] {w : List Nat} (h : w.length ≤ 1048576) : K 458 [.s w] [.s (if dyck w = true then plnT w 9 else [])] := by
  refine body_by (f := ir_impl_PathLine) rfl ?_; simp only [ir_impl_PathLine]
  simp (disch := first | omega | (simp only [vl]; omega)) only [vcd]
  cases hd : dyck w
  · repeat (first | (refine call_by (dyck_i (K := K) (w := w) (by omega)) rfl ?_; try simp (disch := first | omega | (simp only [vl]; omega)) only [vcd, hd]))
    rfl
  · have hl := (DY_of hd).l
    have h1 := rk_bd hd
    have h2 := szR_d hd
    have h3 := fmt_len (n := rkR w) (by omega)
    have h4 := fmt_len (n := szR w) (by omega)
    repeat (first | (refine call_by (dyck_i (K := K) (w := w) (by omega)) rfl ?_; try simp (disch := first | omega | (simp only [vl]; omega)) only [vcd, hd, ls_4]) | (refine call_by (sz_ii (K := K) (w := w) (by omega)) rfl ?_; try simp (disch := first | omega | (simp only [vl]; omega)) only [vcd, hd, ls_4]) | (refine call_by (fmt_i (K := K) (n := szR w) (by omega)) rfl ?_; try simp (disch := first | omega | (simp only [vl]; omega)) only [vcd, hd, ls_4]) | (refine call_by (rk_i (K := K) (w := w) (by omega)) rfl ?_; try simp (disch := first | omega | (simp only [vl]; omega)) only [vcd, hd, ls_4]) | (refine call_by (fmt_i (K := K) (n := rkR w) (by omega)) rfl ?_; try simp (disch := first | omega | (simp only [vl]; omega)) only [vcd, hd, ls_4]))
    have kl := line_ok (K := K) (ws := [[112, 97, 116, 104], fmtI (szR w), [114, 97, 110, 107], fmtI (rkR w)]) (by simp) (by simp; omega)
    refine call_by (kl) rfl ?_
    simp (disch := first | omega | (simp only [vl]; omega)) only [vcd, glue_4]
    refine call_by (stn_i (K := K)) rfl ?_
    have e9 : stN.length = 9 := rfl
    simp (disch := first | omega | (simp only [vl]; omega)) only [vcd]
    refine loop_ix (fun _ => True) (fun i => [.s w, .u, .s (plnT w i), .u, .u, LS stN, .n 9, .n i, .u]) 9 trivial rfl (fun i hi _ => ?_) (fun _ => ?_)
    · have b1 := stF_bd hd i
      have b3 := fmt_len (n := stF w i) (by omega)
      have b4 := stN_len (i := i)
      have b5 := plnT_len hd i
      simp (disch := first | omega | (simp only [vl]; omega)) only [vcd]
      refine call_by (stat_i (K := K) hd i hi) rfl ?_
      simp (disch := first | omega | (simp only [vl]; omega)) only [vcd]
      refine call_by (fmt_i (K := K) (n := stF w i) (by omega)) rfl ?_
      simp (disch := first | omega | (simp only [vl]; omega)) only [vcd, ls_3]
      have kl := line_ok (K := K) (ws := [plnT w i, atS stN i, fmtI (stF w i)]) (by simp) (by simp; omega)
      refine call_by (kl) rfl ?_
      simp (disch := first | omega | (simp only [vl]; omega)) only [vcd, glue_3]
      rfl
    · simp (disch := first | omega | (simp only [vl]; omega)) only [vcd]
theorem pln_s [Has K 22 ir_spec_l1In] [Has K 64 ir_spec_IsDyck] [Has K 67 ir_impl_IsDyck] [Has K 82 ir_impl_heights] [Has K 84 ir_spec_l3Ways] [Has K 138 ir_spec_FormatInt] [Has K 235 ir_spec_StatisticOf] [Has K 276 ir_spec_RankPath] [Has K 293 ir_spec_PeaksOf] [Has K 294 ir_spec_ReturnsOf] [Has K 295 ir_spec_l13Run] [Has K 296 ir_spec_AreaOf] [Has K 297 ir_spec_BracketsOf] [Has K 298 ir_spec_DepthOf] [Has K 299 ir_spec_PlaneOf] [Has K 300 ir_spec_LeavesOf] [Has K 301 ir_spec_PartitionOf] [Has K 302 ir_spec_BlocksOf] [Has K 303 ir_spec_MajorOf] [Has K 319 ir_spec_HeightsOf] [Has K 320 ir_spec_PathOfBrackets] [Has K 321 ir_spec_IsPlane] [Has K 322 ir_spec_ChildrenOf] [Has K 323 ir_spec_l8Renumber] [Has K 324 ir_spec_IsPartition] [Has K 373 ir_impl_partners] [Has K 457 ir_spec_PathLine] [Has K 475 ir_impl_RenumberBlocks] [Has K 498 ir_spec_StatisticNames] [Has K 503 ir_impl_PartitionOf] {w : List Nat} (h : w.length ≤ 1048576) : K 457 [.s w] [.s (if dyck w = true then plnT w 9 else [])] := by
  refine body_by (f := ir_spec_PathLine) rfl ?_; simp only [ir_spec_PathLine]
  simp (disch := first | omega | (simp only [vl]; omega)) only [vcd]
  cases hd : dyck w
  · repeat (first | (refine call_by (dyck_s (K := K) (w := w) (by omega)) rfl ?_; try simp (disch := first | omega | (simp only [vl]; omega)) only [vcd, hd]))
    rfl
  · have hl := (DY_of hd).l
    have h1 := rk_bd hd
    have h2 := szR_d hd
    have h3 := fmt_len (n := rkR w) (by omega)
    have h4 := fmt_len (n := szR w) (by omega)
    have kf := fmt_s (K := K) (n := szR w) (by omega)
    rw [h2] at kf h4
    repeat (first | (refine call_by (dyck_s (K := K) (w := w) (by omega)) rfl ?_; try simp (disch := first | omega | (simp only [vl]; omega)) only [vcd, hd]) | (refine call_by (kf) rfl ?_; try simp (disch := first | omega | (simp only [vl]; omega)) only [vcd, hd]) | (refine call_by (rk_s (K := K) (w := w) (by omega)) rfl ?_; try simp (disch := first | omega | (simp only [vl]; omega)) only [vcd, hd]) | (refine call_by (fmt_s (K := K) (n := rkR w) (by omega)) rfl ?_; try simp (disch := first | omega | (simp only [vl]; omega)) only [vcd, hd]))
    refine call_by (stn_s (K := K)) rfl ?_
    have e9 : stN.length = 9 := rfl
    simp (disch := first | omega | (simp only [vl]; omega)) only [vcd]
    refine loop_ix (fun _ => True) (fun i => [.s w, .u, .s (plnT w i), LS stN, .n i, .u, .u]) 9 trivial (by simp [plnT, h2]) (fun i hi _ => ?_) (fun _ => ?_)
    · have b1 := stF_bd hd i
      have b3 := fmt_len (n := stF w i) (by omega)
      have b4 := stN_len (i := i)
      have b5 := plnT_len hd i
      simp (disch := first | omega | (simp only [vl]; omega)) only [vcd]
      refine call_by (stat_s (K := K) hd i hi) rfl ?_
      simp (disch := first | omega | (simp only [vl]; omega)) only [vcd]
      refine call_by (fmt_s (K := K) (n := stF w i) (by omega)) rfl ?_
      simp (disch := first | omega | (simp only [vl]; omega)) only [vcd]
      rfl
    · simp (disch := first | omega | (simp only [vl]; omega)) only [vcd]
theorem pln_law [Has K 22 ir_spec_l1In] [Has K 23 ir_impl_within] [Has K 27 ir_impl_BallotNumber] [Has K 64 ir_spec_IsDyck] [Has K 67 ir_impl_IsDyck] [Has K 82 ir_impl_heights] [Has K 83 ir_impl_exchanged] [Has K 84 ir_spec_l3Ways] [Has K 132 ir_impl_SizeOf] [Has K 138 ir_spec_FormatInt] [Has K 141 ir_impl_line] [Has K 143 ir_impl_FormatInt] [Has K 184 ir_impl_glued] [Has K 235 ir_spec_StatisticOf] [Has K 273 ir_impl_RankPath] [Has K 276 ir_spec_RankPath] [Has K 280 ir_impl_PeaksOf] [Has K 293 ir_spec_PeaksOf] [Has K 294 ir_spec_ReturnsOf] [Has K 295 ir_spec_l13Run] [Has K 296 ir_spec_AreaOf] [Has K 297 ir_spec_BracketsOf] [Has K 298 ir_spec_DepthOf] [Has K 299 ir_spec_PlaneOf] [Has K 300 ir_spec_LeavesOf] [Has K 301 ir_spec_PartitionOf] [Has K 302 ir_spec_BlocksOf] [Has K 303 ir_spec_MajorOf] [Has K 319 ir_spec_HeightsOf] [Has K 320 ir_spec_PathOfBrackets] [Has K 321 ir_spec_IsPlane] [Has K 322 ir_spec_ChildrenOf] [Has K 323 ir_spec_l8Renumber] [Has K 324 ir_spec_IsPartition] [Has K 373 ir_impl_partners] [Has K 401 ir_laws_FnExactPathLine] [Has K 457 ir_spec_PathLine] [Has K 458 ir_impl_PathLine] [Has K 465 ir_impl_AreaOf] [Has K 475 ir_impl_RenumberBlocks] [Has K 478 ir_impl_IsPartition] [Has K 479 ir_impl_BlocksOf] [Has K 498 ir_spec_StatisticNames] [Has K 499 ir_impl_StatisticNames] [Has K 500 ir_impl_StatisticOf] [Has K 501 ir_impl_HeightsOf] [Has K 503 ir_impl_PartitionOf] [Has K 507 ir_impl_ReturnsOf] [Has K 508 ir_impl_BracketsOf] [Has K 509 ir_impl_DepthOf] [Has K 510 ir_impl_PlaneOf] [Has K 511 ir_impl_LeavesOf] [Has K 512 ir_impl_MajorOf] [Has K 515 ir_impl_PathOfBrackets] [Has K 516 ir_impl_IsPlane] [Has K 517 ir_impl_ChildrenOf] {w : List Nat} (hw : w.length ≤ 9223372036854775807) : K 401 [.s w] [.b true] := by
  refine body_by (f := ir_laws_FnExactPathLine) rfl ?_; simp only [ir_laws_FnExactPathLine]
  simp (disch := first | omega | (simp only [vl]; omega)) only [vcd]
  by_cases h : 1048576 < w.length
  · simp (disch := first | omega | (simp only [vl]; omega)) only [vcd]
  · simp (disch := first | omega | (simp only [vl]; omega)) only [vcd]
    refine call_by (pln_s (K := K) (w := w) (by omega)) rfl ?_
    simp (disch := first | omega | (simp only [vl]; omega)) only [vcd]
    refine call_by (pln_i (K := K) (w := w) (by omega)) rfl ?_
    simp (disch := first | omega | (simp only [vl]; omega)) only [vcd]
end Go.Cat

