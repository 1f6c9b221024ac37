/-
  Numbers of paths: heights, returns, area, peaks, places of valleys, runs, depth.
-/
import Derived.Test.YtdifmcppfcbgdaaPfMat
import Derived.Test.YtdifmcppfcbgdaaIrAllA
namespace Go.Cat
set_option linter.unusedSimpArgs false
variable {K : Nat → List D → List D → Prop}

theorem LI_nilS : D.l [] = LI [] := rfl
theorem take_snocI {m : List Int} {i : Nat} (h : i < m.length) : m.take (i + 1) = m.take i ++ [atI m i] := by
  rw [List.take_succ_eq_append_getElem h]; simp [atI, h]
theorem Hh_bd {w : List Nat} {i : Nat} : Hh w i ≤ i ∧ -(i : Int) ≤ Hh w i := by
  have h1 := cnt_le (w := w.take i) (c := 117)
  have h2 := cnt_le (w := w.take i) (c := 100)
  simp only [Hh]
  simp only [List.length_take] at h1 h2
  omega

/-- All heights. -/
def hL (w : List Nat) : List Int := (List.range (w.length + 1)).map fun i => Hh w i
theorem hL_len {w : List Nat} : (hL w).length = w.length + 1 := by simp [hL]
theorem hL_at {w : List Nat} {i : Nat} (h : i < w.length + 1) : atI (hL w) i = Hh w i := by simp [hL, atI, h]
theorem hts_len : ∀ (w : List Nat) (h : Int), (hts w h).length = w.length
  | [], _ => rfl
  | c :: w, h => by unfold hts; split <;> simp [hts_len w]
theorem hts_at : ∀ (w : List Nat) (h : Int) (i : Nat), allud w = true → i ≤ w.length → atI (h :: hts w h) i = h + Hh w i
  | w, h, 0, _, _ => by simp [atI, Hh_0]
  | [], h, i + 1, _, hi => by simp at hi
  | c :: w, h, i + 1, ha, hi => by
    rw [allud_cons, Bool.and_eq_true, decide_eq_true_eq] at ha
    have e : ∀ (l : List Int), atI (h :: l) ((i + 1 : Nat) : Int) = atI l i := fun l => by simp [atI]
    rw [e, Hh_cons]
    simp only [hts]
    simp only [List.length_cons] at hi
    rcases ha.1 with hc | hc
    · rw [if_pos hc, hts_at w (h + 1) i ha.2 (by omega), hc]; simp; omega
    · rw [if_neg (by omega), hts_at w (h - 1) i ha.2 (by omega), hc]; simp; omega
theorem dy_all {w : List Nat} (hd : dyck w = true) : allud w = true := by
  have := dyck_iff.1 hd
  exact this.2.1
theorem hts_hL {w : List Nat} (hd : dyck w = true) : htsR w = hL w ∧ htsO w = true := by
  have hw : walkH w 0 = some 0 := by
    simp only [dyck, Bool.and_eq_true, decide_eq_true_eq] at hd
    exact hd.1
  refine ⟨?_, by simp [htsO, hw]⟩
  simp only [htsR, hw]
  refine extI (by rw [hL_len, List.length_cons, hts_len]) fun j hj => ?_
  rw [List.length_cons, hts_len] at hj
  rw [hts_at w 0 j (dy_all hd) (by omega), hL_at hj]
  omega

theorem ho_i [Has K 67 ir_impl_IsDyck] [Has K 82 ir_impl_heights] [Has K 501 ir_impl_HeightsOf] {w : List Nat} (hd : dyck w = true) : K 501 [.s w] [LI (hL w)] := by
  have hl := (DY_of hd).l
  obtain ⟨e1, e2⟩ := hts_hL hd
  have k1 := heights_ok (K := K) (w := w) (by omega)
  rw [e1, e2] at k1
  refine body_by (f := ir_impl_HeightsOf) rfl ?_; simp only [ir_impl_HeightsOf]
  simp (disch := first | omega | (simp only [vl]; omega)) only [vcd]
  repeat (first | (refine call_by (dyck_i (K := K) (w := w) (by omega)) rfl ?_; try simp (disch := first | omega | (simp only [vl]; omega)) only [vcd, hd]))
  refine call_by (k1) rfl ?_
  simp (disch := first | omega | (simp only [vl]; omega)) only [vcd]
theorem ho_s [Has K 64 ir_spec_IsDyck] [Has K 319 ir_spec_HeightsOf] {w : List Nat} (hd : dyck w = true) : K 319 [.s w] [LI (hL w)] := by
  have hD := DY_of hd
  have hl := hD.l
  have hlen := hL_len (w := w)
  refine body_by (f := ir_spec_HeightsOf) rfl ?_; simp only [ir_spec_HeightsOf]
  simp (disch := first | omega | (simp only [vl]; omega)) only [vcd]
  repeat (first | (refine call_by (dyck_s (K := K) (w := w) (by omega)) rfl ?_; try simp (disch := first | omega | (simp only [vl]; omega)) only [vcd, hd]))
  rw [LI_nilS]
  refine loop_ix (fun _ => True) (fun i => [.s w, .u, LI ((hL w).take i), .n (Hh w i), .n i, .u, .u, .u]) w.length trivial (by simp [Hh_0]) (fun i hi _ => ?_) (fun _ => ?_)
  · have hb := Hh_bd (w := w) (i := i)
    have ht : ((hL w).take i).length = i := by simp; omega
    have e := take_snocI (m := hL w) (i := i) (by omega)
    rw [hL_at (by omega)] at e
    rw [e]
    rcases hD.ud i hi with hu | hu
    · rw [Hh_up hi hu]
      simp (disch := first | omega | (simp only [vl]; omega)) only [vcd, hu]
    · rw [Hh_dn hi hu]
      simp (disch := first | omega | (simp only [vl]; omega)) only [vcd, hu]
  · have ht : ((hL w).take w.length).length = w.length := by simp; omega
    have e := take_snocI (m := hL w) (i := w.length) (by omega)
    rw [hL_at (by omega), List.take_of_length_le (by omega)] at e
    simp (disch := first | omega | (simp only [vl]; omega)) only [vcd]
    rw [← e]

/-! ### Returns -/
def rtF (w : List Nat) (i : Nat) : Nat := sumU (fun j => if Hh w (j + 1) = 0 then 1 else 0) i
theorem sumU_sh {f : Nat → Nat} : ∀ n, sumU f (n + 1) = f 0 + sumU (fun j => f (j + 1)) n
  | 0 => by simp [sumU]
  | n + 1 => by
    rw [sumU, sumU_sh n]
    simp only [sumU]; omega
theorem ret_s [Has K 64 ir_spec_IsDyck] [Has K 294 ir_spec_ReturnsOf] [Has K 319 ir_spec_HeightsOf] {w : List Nat} (hd : dyck w = true) : K 294 [.s w] [.n (rtF w w.length)] := by
  have hl := (DY_of hd).l
  have hlen := hL_len (w := w)
  refine body_by (f := ir_spec_ReturnsOf) rfl ?_; simp only [ir_spec_ReturnsOf]
  simp (disch := first | omega | (simp only [vl]; omega)) only [vcd]
  refine call_by (ho_s (K := K) hd) rfl ?_
  simp (disch := first | omega | (simp only [vl]; omega)) only [vcd, hlen]
  refine loop_ix (fun _ => True) (fun i => [.u, .u, LI (hL w), .n ((sumU (fun j => if Hh w j = 0 then 1 else 0) i : Int) - 1), .n i, .u, .u]) (w.length + 1) trivial rfl (fun i hi _ => ?_) (fun _ => ?_)
  · have hb := sumU_le (g := fun j => if Hh w j = 0 then 1 else 0) (b := 1) (fun j => by split <;> omega) i
    have e := hL_at (w := w) (i := i) (by omega)
    have e2 : sumU (fun j => if Hh w j = 0 then 1 else 0) (i + 1) = sumU (fun j => if Hh w j = 0 then 1 else 0) i + (if Hh w i = 0 then 1 else 0) := rfl
    by_cases h0 : Hh w i = 0
    · rw [e2, if_pos h0]
      simp (disch := first | omega | (simp only [vl]; omega)) only [vcd, hlen, e]
      simp
    · rw [e2, if_neg h0]
      simp (disch := first | omega | (simp only [vl]; omega)) only [vcd, hlen, e]
      simp
  · have e := sumU_sh (f := fun j => if Hh w j = 0 then 1 else 0) w.length
    simp only [Hh_0, if_true] at e
    simp (disch := first | omega | (simp only [vl]; omega)) only [vcd, hlen]
    rw [e]
    exact Dn (by simp only [rtF]; omega)

/-! ### Area -/
def arF (w : List Nat) : Nat → Int
  | 0 => 0
  | i + 1 => arF w i + (if atB w i = 117 then Hh w i else 0)
theorem arF_bd {w : List Nat} (hl : w.length ≤ 16) : ∀ {i : Nat}, i ≤ w.length → -(i * 16 : Int) ≤ arF w i ∧ arF w i ≤ i * 16
  | 0, _ => by simp [arF]
  | i + 1, h => by
    have := arF_bd hl (i := i) (by omega)
    have := Hh_bd (w := w) (i := i)
    simp only [arF]
    split <;> omega
theorem area_i [Has K 67 ir_impl_IsDyck] [Has K 82 ir_impl_heights] [Has K 465 ir_impl_AreaOf] [Has K 501 ir_impl_HeightsOf] {w : List Nat} (hd : dyck w = true) : K 465 [.s w] [.n (arF w w.length)] := by
  have hl := (DY_of hd).l
  have hlen := hL_len (w := w)
  refine body_by (f := ir_impl_AreaOf) rfl ?_; simp only [ir_impl_AreaOf]
  simp (disch := first | omega | (simp only [vl]; omega)) only [vcd]
  repeat (first | (refine call_by (dyck_i (K := K) (w := w) (by omega)) rfl ?_; try simp (disch := first | omega | (simp only [vl]; omega)) only [vcd, hd]))
  refine call_by (ho_i (K := K) hd) rfl ?_
  simp (disch := first | omega | (simp only [vl]; omega)) only [vcd]
  refine loop_ix (fun _ => True) (fun i => [.s w, .u, .n (arF w i), LI (hL w), .n i, .u, .u, .u]) w.length trivial rfl (fun i hi _ => ?_) (fun _ => ?_)
  · have hb := arF_bd hl (i := i) (by omega)
    have hb2 := Hh_bd (w := w) (i := i)
    have e := hL_at (w := w) (i := i) (by omega)
    by_cases hu : atB w i = 117
    · simp only [arF, if_pos hu]
      simp (disch := first | omega | (simp only [vl]; omega)) only [vcd, hu, e]
    · simp only [arF, if_neg hu]
      simp (disch := first | omega | (simp only [vl]; omega)) only [vcd]
      simp
  · simp (disch := first | omega | (simp only [vl]; omega)) only [vcd]
theorem area_s [Has K 64 ir_spec_IsDyck] [Has K 296 ir_spec_AreaOf] [Has K 319 ir_spec_HeightsOf] {w : List Nat} (hd : dyck w = true) : K 296 [.s w] [.n (arF w w.length)] := by
  have hl := (DY_of hd).l
  have hlen := hL_len (w := w)
  refine body_by (f := ir_spec_AreaOf) rfl ?_; simp only [ir_spec_AreaOf]
  simp (disch := first | omega | (simp only [vl]; omega)) only [vcd]
  refine call_by (ho_s (K := K) hd) rfl ?_
  simp (disch := first | omega | (simp only [vl]; omega)) only [vcd]
  refine loop_ix (fun _ => True) (fun i => [.s w, .u, LI (hL w), .n (arF w i), .n i, .u, .u, .u]) w.length trivial rfl (fun i hi _ => ?_) (fun _ => ?_)
  · have hb := arF_bd hl (i := i) (by omega)
    have hb2 := Hh_bd (w := w) (i := i)
    have e := hL_at (w := w) (i := i) (by omega)
    by_cases hu : atB w i = 117
    · simp only [arF, if_pos hu]
      simp (disch := first | omega | (simp only [vl]; omega)) only [vcd, hu, e, hlen]
    · simp only [arF, if_neg hu]
      simp (disch := first | omega | (simp only [vl]; omega)) only [vcd, hlen]
      simp
  · simp (disch := first | omega | (simp only [vl]; omega)) only [vcd, hlen]

/-! ### Peaks, valleys -/
def pvF (a b : Nat) (g : Nat → Nat) (w : List Nat) (i : Nat) : Nat := sumU (fun j => if atB w j = a ∧ atB w ((j : Int) + 1) = b then g j else 0) i
theorem pvF_le {a b : Nat} {g : Nat → Nat} {w : List Nat} (hg : ∀ j, j < 16 → g j ≤ 16) : ∀ {i : Nat}, i ≤ 16 → pvF a b g w i ≤ i * 16
  | 0, _ => by simp [pvF, sumU]
  | i + 1, h => by
    have h1 := pvF_le (a := a) (b := b) (w := w) hg (i := i) (by omega)
    have h2 := hg i (by omega)
    simp only [pvF, sumU] at h1 ⊢
    split <;> omega
theorem sub_twoP {w : List Nat} {i : Nat} (h : i + 1 < w.length) : sub w i ((i : Int) + 1 + 1) = [atB w i, atB w ((i : Int) + 1)] := by
  have e : ((i : Int) + 1 + 1).toNat = i + 2 := by omega
  have h2 : (w.take i).length = i := by simp; omega
  simp only [sub, e, Int.toNat_natCast]
  rw [show i + 2 = (i + 1) + 1 by omega, List.take_succ_eq_append_getElem (by omega), List.take_succ_eq_append_getElem (by omega), List.append_assoc, List.drop_append_of_le_length (by omega), List.drop_of_length_le (by omega)]
  have e1 : ((i : Int) + 1) = ((i + 1 : Nat) : Int) := by omega
  rw [e1]
  simp only [atB, Int.toNat_natCast, List.getD_eq_getElem?_getD, List.getElem?_eq_getElem h, List.getElem?_eq_getElem (show i < w.length by omega)]
  rfl
theorem pk2_s [Has K 64 ir_spec_IsDyck] [Has K 293 ir_spec_PeaksOf] {w : List Nat} (hd : dyck w = true) : K 293 [.s w] [.n (pvF 117 100 (fun _ => 1) w (w.length - 1))] := by
  have hl := (DY_of hd).l
  refine body_by (f := ir_spec_PeaksOf) rfl ?_; simp only [ir_spec_PeaksOf]
  simp (disch := first | omega | (simp only [vl]; omega)) only [vcd]
  repeat (first | (refine call_by (dyck_s (K := K) (w := w) (by omega)) rfl ?_; try simp (disch := first | omega | (simp only [vl]; omega)) only [vcd, hd]))
  refine loop_ix (fun _ => True) (fun i => [.s w, .u, .n (pvF 117 100 (fun _ => 1) w i), .n ((i : Int) + 1), .u, .u, .u]) (w.length - 1) trivial rfl (fun i hi _ => ?_) (fun _ => ?_)
  · have hb := pvF_le (a := 117) (b := 100) (g := fun _ => 1) (w := w) (fun _ _ => by omega) (i := i) (by omega)
    have e2 : pvF 117 100 (fun _ => 1) w (i + 1) = pvF 117 100 (fun _ => 1) w i + (if atB w i = 117 ∧ atB w ((i : Int) + 1) = 100 then 1 else 0) := rfl
    have e3 := sub_twoP (w := w) (i := i) (by omega)
    by_cases h12 : atB w i = 117 ∧ atB w ((i : Int) + 1) = 100
    · have e4 : ([atB w i, atB w ((i : Int) + 1)] == [117, 100]) = true := by rw [h12.1, h12.2]; rfl
      rw [e2, if_pos h12]
      simp (disch := first | omega | (simp only [vl]; omega)) only [vcd, Int.add_sub_cancel, e3, e4]
      all_goals simp
    · have e4 : ([atB w i, atB w ((i : Int) + 1)] == [117, 100]) = false := by
        refine beq_eq_false_iff_ne.2 fun q => h12 ?_
        simp at q; exact q
      rw [e2, if_neg h12]
      simp (disch := first | omega | (simp only [vl]; omega)) only [vcd, Int.add_sub_cancel, e3, e4]
      simp
  · simp (disch := first | omega | (simp only [vl]; omega)) only [vcd]
theorem maj_s [Has K 64 ir_spec_IsDyck] [Has K 303 ir_spec_MajorOf] {w : List Nat} (hd : dyck w = true) : K 303 [.s w] [.n (pvF 100 117 (fun j => j + 1) w (w.length - 1))] := by
  have hl := (DY_of hd).l
  refine body_by (f := ir_spec_MajorOf) rfl ?_; simp only [ir_spec_MajorOf]
  simp (disch := first | omega | (simp only [vl]; omega)) only [vcd]
  repeat (first | (refine call_by (dyck_s (K := K) (w := w) (by omega)) rfl ?_; try simp (disch := first | omega | (simp only [vl]; omega)) only [vcd, hd]))
  refine loop_ix (fun _ => True) (fun i => [.s w, .u, .n (pvF 100 117 (fun j => j + 1) w i), .n ((i : Int) + 1), .u, .u, .u]) (w.length - 1) trivial rfl (fun i hi _ => ?_) (fun _ => ?_)
  · have hb := pvF_le (a := 100) (b := 117) (g := fun j => j + 1) (w := w) (fun _ _ => by omega) (i := i) (by omega)
    have e2 : pvF 100 117 (fun j => j + 1) w (i + 1) = pvF 100 117 (fun j => j + 1) w i + (if atB w i = 100 ∧ atB w ((i : Int) + 1) = 117 then i + 1 else 0) := rfl
    by_cases h1 : atB w i = 100
    · by_cases h2 : atB w ((i : Int) + 1) = 117
      · rw [e2, if_pos ⟨h1, h2⟩]
        simp (disch := first | omega | (simp only [vl]; omega)) only [vcd, h1, h2, Int.add_sub_cancel]
        simp
      · rw [e2, if_neg fun q => h2 q.2]
        simp (disch := first | omega | (simp only [vl]; omega)) only [vcd, h1, Int.add_sub_cancel]
        simp
    · rw [e2, if_neg fun q => h1 q.1]
      simp (disch := first | omega | (simp only [vl]; omega)) only [vcd, Int.add_sub_cancel]
      simp
  · simp (disch := first | omega | (simp only [vl]; omega)) only [vcd]
end Go.Cat

