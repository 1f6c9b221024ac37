/-
  Words of Motzkin: the law.
-/
import Derived.Test.YtfjkbocblpjpjaaPfMotzI
namespace Go.Cat
variable {K : Nat → List D → List D → Prop}
set_option maxRecDepth 100000

theorem bigM_ok [Has K 220 ir_laws_big] {code : List Nat} : K 220 [LB code] [.b (decide (1048576 < (code.length : Int)))] := by
  refine body_by (f := ir_laws_big) rfl ?_; simp only [ir_laws_big]
  simp (disch := first | omega | (simp only [vl]; omega)) only [vc]

theorem atS_get {ss : List (List Nat)} {i : Nat} (h : i < ss.length) : ss[i]? = some (atS ss i) := by
  simp [atS, h]

set_option maxHeartbeats 4000000 in
theorem motzkin_law [Has K 10 ir_impl_CountWords] [Has K 22 ir_spec_l1In] [Has K 23 ir_impl_within] [Has K 25 ir_impl_choose] [Has K 27 ir_impl_BallotNumber] [Has K 28 ir_impl_CatalanNumber] [Has K 64 ir_spec_IsDyck] [Has K 66 ir_impl_count] [Has K 67 ir_impl_IsDyck] [Has K 82 ir_impl_heights] [Has K 218 ir_laws_FnMotzkin] [Has K 220 ir_laws_big] [Has K 252 ir_spec_DrawMotzkinPaths] [Has K 253 ir_impl_MotzkinPaths] [Has K 254 ir_spec_MotzkinPaths] [Has K 255 ir_laws_sameWords] [Has K 256 ir_impl_MotzkinNumber] [Has K 257 ir_impl_IsMotzkin] [Has K 258 ir_spec_DrawDyckOfMotzkin] [Has K 259 ir_impl_DyckOfMotzkin] [Has K 260 ir_spec_DyckOfMotzkin] [Has K 261 ir_impl_MotzkinOf] [Has K 262 ir_spec_DrawMotzkinOf] [Has K 263 ir_spec_MotzkinOf] [Has K 264 ir_spec_DrawIsMotzkin] [Has K 265 ir_spec_DrawMotzkinNumber] [Has K 266 ir_spec_IsMotzkin] [Has K 267 ir_spec_MotzkinNumber] [Has K 268 ir_impl_LevelSteps] [Has K 269 ir_spec_LevelSteps] [Has K 288 ir_spec_l1New] [Has K 289 ir_spec_l1Below] [Has K 290 ir_spec_l2Any] [Has K 306 ir_spec_l2Draw] [Has K 307 ir_spec_l1Once] [Has K 309 ir_impl_MotzkinPaths_f1] [Has K 310 ir_spec_l25All] [Has K 311 ir_impl_rises] [Has K 312 ir_spec_l25Any] [Has K 315 ir_spec_l1Spoil] [Has K 316 ir_spec_l1Byte] [Has K 317 ir_spec_l2Path] [Has K 318 ir_spec_l1Pick] [Has K 327 ir_spec_l1Text] (code : List Nat) : K 218 [LB code] [.b true] := by
  refine body_by (f := ir_laws_FnMotzkin) rfl ?_; simp only [ir_laws_FnMotzkin]
  by_cases hl : code.length ≤ 1048576
  · obtain ⟨_, ⟨a, rfl, ha⟩, k1⟩ := DrawMotzkinPaths_ok (K := K) hl
    obtain ⟨_, ⟨w, rfl, hw⟩, k2⟩ := DrawDyckOfMotzkin_ok (K := K) hl
    obtain ⟨_, ⟨v, rfl, hv⟩, k3⟩ := DrawMotzkinOf_ok (K := K) hl
    obtain ⟨_, ⟨d, rfl, hd⟩, k4⟩ := DrawIsMotzkin_ok (K := K) hl
    obtain ⟨_, ⟨e, rfl⟩, k5⟩ := DrawMotzkinNumber_ok (K := K) hl
    obtain ⟨mn, k6, k7⟩ := mn_same (K := K) e
    have lw : (dmR w).length ≤ 16 := dmR_len
    simp (disch := first | omega | (simp only [vl]; omega)) only [vcd]
    refine call_by (bigM_ok (K := K)) rfl ?_
    simp (disch := first | omega | (simp only [vl]; omega)) only [vcd]
    refine call_by (k1) rfl ?_
    simp (disch := first | omega | (simp only [vl]; omega)) only [vcd]
    apply joinM
    · intro hG
      rcases Decidable.em (¬ (0 ≤ a ∧ a ≤ 7)) with h | h
      · refine call_by (mp_out_i (K := K) h) rfl ?_
        simp (disch := first | omega | (simp only [vl]; omega)) only [vcd]
        refine call_by (mp_out (K := K) h) rfl ?_
        simp (disch := first | omega | (simp only [vl]; omega)) only [vcd]
        refine call_by (sameWords_t (K := K) (a := []) (by simp)) rfl ?_
        simp (disch := first | omega | (simp only [vl]; omega)) only [vcd]
        refine loop_ix (fun i => True) (fun i => [LB code, .u, .n a, .u, .b false, LS [], .u, .n i, .u, .u, .u, .u, .u, .u, .u, .u, .u, .u, .u, .u, .u, .u, .u, .u, .u, .u, .u, .u, .u, .u, .u, .u, .u, .u]) 0 trivial rfl (fun i hi hP => ?_) (fun hP => ?_)
        · omega
        · simp (disch := first | omega | (simp only [vl]; omega)) only [vcd]
          refine call_by (k2) rfl ?_
          simp (disch := first | omega | (simp only [vl]; omega)) only [vcd]
          exact hG
      · have h := Decidable.not_not.1 h
        obtain ⟨n, rfl⟩ := Int.eq_ofNat_of_zero_le h.1
        have hn : n < 8 := by omega
        have hE := allB_spec smE n hn
        simp only [Bool.and_eq_true, decide_eq_true_eq] at hE
        refine call_by (mp_i (K := K) hn) rfl ?_
        simp (disch := first | omega | (simp only [vl]; omega)) only [vcd]
        refine call_by (mp_s (K := K) hn) rfl ?_
        simp (disch := first | omega | (simp only [vl]; omega)) only [vcd]
        refine call_by (sameWords_t (K := K) (a := mpL n) (by omega)) rfl ?_
        simp (disch := first | omega | (simp only [vl]; omega)) only [vcd]
        refine call_by (mnl (K := K) hn) rfl ?_
        simp (disch := first | omega | (simp only [vl]; omega)) only [vcd]
        refine loop_ix (fun i => True) (fun i => [LB code, .u, .n n, .u, .b true, LS (mpL n), .u, .n i, .u, .u, .u, .u, .u, .u, .u, .u, .u, .u, .u, .u, .u, .u, .u, .u, .u, .u, .u, .u, .u, .u, .u, .u, .u, .u]) (mpL n).length trivial rfl (fun i hi hP => ?_) (fun hP => ?_)
        · obtain ⟨g1, g2⟩ := mp_good hn (atS_get hi)
          simp (disch := first | omega | (simp only [vl]; omega)) only [vcd]
          refine call_by (motz_i (K := K) (by omega)) rfl ?_
          simp (disch := first | omega | (simp only [vl]; omega)) only [vcd, g1, g2]
        · simp (disch := first | omega | (simp only [vl]; omega)) only [vcd]
          refine loop_ix (fun k => True) (fun k => [LB code, .u, .n n, .u, .u, LS (mpL n), .u, .u, .n (smM n k), .n k, .u, .u, .u, .u, .u, .u, .u, .u, .u, .u, .u, .u, .u, .u, .u, .u, .u, .u, .u, .u, .u, .u, .u, .u]) (n / 2 + 1) trivial rfl (fun k hk hP => ?_) (fun hP => ?_)
          · have hB := allB_spec (allB_spec smB n hn) k (by omega)
            simp only [decide_eq_true_eq] at hB
            have hs : smM n (k + 1) = smM n k + cwm n k * catL.getD k 0 := rfl
            simp (disch := first | omega | (simp only [vl]; omega)) only [vcd]
            refine call_by (cwm_i (K := K) hn (by omega)) rfl ?_
            simp (disch := first | omega | (simp only [vl]; omega)) only [vcd]
            refine call_by (cat_i (K := K) (n := k) (by omega)) rfl ?_
            simp (disch := first | omega | (simp only [vl]; omega)) only [vcd, hs]
          · simp (disch := first | omega | (simp only [vl]; omega)) only [vcd, hE.1]
            refine call_by (k2) rfl ?_
            simp (disch := first | omega | (simp only [vl]; omega)) only [vcd]
            exact hG
    refine call_by (dm_i (K := K) (w := w) (by omega)) rfl ?_
    simp (disch := first | omega | (simp only [vl]; omega)) only [vcd]
    refine call_by (dm_s (K := K) (w := w) (by omega)) rfl ?_
    simp (disch := first | omega | (simp only [vl]; omega)) only [vcd]
    apply joinM
    · intro hG
      cases ho : dmO w
      · simp (disch := first | omega | (simp only [vl]; omega)) only [vcd, ho]
        refine call_by (k3) rfl ?_
        simp (disch := first | omega | (simp only [vl]; omega)) only [vcd]
        exact hG
      · obtain ⟨b1, b2, b3⟩ := dm_back ho
        simp (disch := first | omega | (simp only [vl]; omega)) only [vcd, ho]
        refine call_by (mo_i (K := K) (w := dmR w) (by omega)) rfl ?_
        simp (disch := first | omega | (simp only [vl]; omega)) only [vcd, b1, b2]
        refine call_by (dyck_i (K := K) (w := dmR w) (by omega)) rfl ?_
        simp (disch := first | omega | (simp only [vl]; omega)) only [vcd, b3]
        refine call_by (k3) rfl ?_
        simp (disch := first | omega | (simp only [vl]; omega)) only [vcd]
        exact hG
    refine call_by (mo_i (K := K) (w := v) (by omega)) rfl ?_
    simp (disch := first | omega | (simp only [vl]; omega)) only [vcd]
    refine call_by (mo_s (K := K) (w := v) (by omega)) rfl ?_
    simp (disch := first | omega | (simp only [vl]; omega)) only [vcd]
    refine call_by (k4) rfl ?_
    simp (disch := first | omega | (simp only [vl]; omega)) only [vcd]
    refine call_by (k5) rfl ?_
    simp (disch := first | omega | (simp only [vl]; omega)) only [vcd]
    refine call_by (motz_i (K := K) (w := d) (by omega)) rfl ?_
    simp (disch := first | omega | (simp only [vl]; omega)) only [vcd]
    refine call_by (motz_s (K := K) (w := d) (by omega)) rfl ?_
    simp (disch := first | omega | (simp only [vl]; omega)) only [vcd]
    refine call_by (k6) rfl ?_
    simp (disch := first | omega | (simp only [vl]; omega)) only [vcd]
    refine call_by (k7) rfl ?_
    simp (disch := first | omega | (simp only [vl]; omega)) only [vcd]
    refine call_by (lv_i (K := K) (w := d) (by omega)) rfl ?_
    simp (disch := first | omega | (simp only [vl]; omega)) only [vcd]
    refine call_by (lv_s (K := K) (w := d) (by omega)) rfl ?_
    simp (disch := first | omega | (simp only [vl]; omega)) only [vcd]
  · simp (disch := first | omega | (simp only [vl]; omega)) only [vcd]
    refine call_by (bigM_ok (K := K)) rfl ?_
    simp (disch := first | omega | (simp only [vl]; omega)) only [vcd]
end Go.Cat

