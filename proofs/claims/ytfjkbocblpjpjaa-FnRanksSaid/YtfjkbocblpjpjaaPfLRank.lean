/-
  Paths by rank: the law.
-/
import Derived.Test.YtfjkbocblpjpjaaPfRankP
import Derived.Test.YtfjkbocblpjpjaaIrAllA
namespace Go.Cat
variable {K : Nat → List D → List D → Prop}
set_option maxRecDepth 100000

theorem joinK {P G : Prop} (f : G → P) (g : G) : P := f g

theorem bigK_ok [Has K 220 ir_laws_big] {code : List Nat} : K 220 [LB code] [.b (decide (1048576 < (code.length : Int)))] := by
  refine body_by (f := ir_laws_big) rfl ?_; simp only [ir_laws_big]
  simp (disch := first | omega | (simp only [vl]; omega)) only [vc]

theorem sameWordsK [Has K 255 ir_laws_sameWords] {a : List (List Nat)} (h : a.length ≤ 1099511627776) : K 255 [LS a, LS a] [.b true] := by
  refine body_by (f := ir_laws_sameWords) rfl ?_; simp only [ir_laws_sameWords]
  simp (disch := first | omega | (simp only [vl]; omega)) only [vcd]
  refine loop_ix (fun i => True) (fun i => [LS a, LS a, .u, .n i, .u, .u, .u]) a.length trivial rfl (fun i hi hP => ?_) (fun hP => ?_) <;> simp (disch := first | omega | (simp only [vl]; omega)) only [vcd]

theorem atS_getK {ss : List (List Nat)} {i : Nat} (h : i < ss.length) : ss[i]? = some (atS ss i) := by
  simp [atS, h]

theorem pickK_ok [Has K 289 ir_spec_l1Below] [Has K 313 ir_spec_l1PickInt] [Has K 316 ir_spec_l1Byte] {d : D} (hd : Cur d) {l : List Int} (h0 : 0 < l.length) (hl : l.length ≤ 1000000) : ∃ rs, (∃ x d', rs = [.n x, d'] ∧ Cur d') ∧ K 313 [d, LI l] rs := by
  refine body_ex (f := ir_spec_l1PickInt) rfl ?_; simp only [ir_spec_l1PickInt]
  obtain ⟨_, ⟨x1, d1, rfl, hx1, hd1⟩, k1⟩ := l1Below_ok (K := K) hd (n := l.length)
  have := hx1.2 (by omega)
  simp (disch := first | omega | (simp only [vl]; omega)) only [vcd]
  refine call_by (k1) rfl ?_
  simp (disch := first | omega | (simp only [vl]; omega)) only [vcd]
  exact ⟨_, _, rfl, hd1⟩

theorem DrawUnrankPath_ok [Has K 270 ir_spec_DrawUnrankPath] [Has K 288 ir_spec_l1New] [Has K 289 ir_spec_l1Below] [Has K 313 ir_spec_l1PickInt] [Has K 316 ir_spec_l1Byte] {code : List Nat} (h : code.length ≤ 1048576) : ∃ rs, (∃ x y, rs = [.n x, .n y]) ∧ K 270 [LB code] rs := by
  refine body_ex (f := ir_spec_DrawUnrankPath) rfl ?_; simp only [ir_spec_DrawUnrankPath]
  obtain ⟨_, ⟨d, rfl, hd⟩, k1⟩ := l1New_ok (K := K) h
  obtain ⟨_, ⟨x, d1, rfl, hx, hd1⟩, k2⟩ := l1Below_ok (K := K) hd (n := 11)
  have hx := hx.2 (by omega)
  obtain ⟨_, ⟨y, d2, rfl, hy, hd2⟩, k3⟩ := l1Below_ok (K := K) hd1 (n := 100)
  have hy := hy.2 (by omega)
  obtain ⟨_, ⟨z1, d3, rfl, hd3⟩, k4⟩ := pickK_ok (K := K) hd2 (l := [0, 1, 2, 4, 13, 41, 131, 1429, -1, y]) (by simp) (by simp)
  simp (disch := first | omega | (simp only [vl]; omega)) only [vcd]
  refine call_by (k1) rfl ?_
  simp (disch := first | omega | (simp only [vl]; omega)) only [vcd]
  refine call_by (k2) rfl ?_
  simp (disch := first | omega | (simp only [vl]; omega)) only [vcd]
  refine call_by (k3) rfl ?_
  simp (disch := first | omega | (simp only [vl]; omega)) only [vcd, liI_c, consS_LI]
  refine call_by (k4) rfl ?_
  simp (disch := first | omega | (simp only [vl]; omega)) only [vcd]
  exact ⟨_, _, rfl⟩
theorem DrawBallotNumber_ok [Has K 282 ir_spec_DrawBallotNumber] [Has K 288 ir_spec_l1New] [Has K 289 ir_spec_l1Below] [Has K 316 ir_spec_l1Byte] {code : List Nat} (h : code.length ≤ 1048576) : ∃ rs, (∃ x y, rs = [.n x, .n y] ∧ y ≤ x + 3) ∧ K 282 [LB code] rs := by
  refine body_ex (f := ir_spec_DrawBallotNumber) rfl ?_; simp only [ir_spec_DrawBallotNumber]
  obtain ⟨_, ⟨d, rfl, hd⟩, k1⟩ := l1New_ok (K := K) h
  obtain ⟨_, ⟨x, d1, rfl, hx, hd1⟩, k2⟩ := l1Below_ok (K := K) hd (n := 18)
  have hx := hx.2 (by omega)
  obtain ⟨_, ⟨y, d2, rfl, hy, hd2⟩, k3⟩ := l1Below_ok (K := K) hd1 (n := 5)
  have hy := hy.2 (by omega)
  simp (disch := first | omega | (simp only [vl]; omega)) only [vcd]
  refine call_by (k1) rfl ?_
  simp (disch := first | omega | (simp only [vl]; omega)) only [vcd]
  refine call_by (k2) rfl ?_
  simp (disch := first | omega | (simp only [vl]; omega)) only [vcd]
  refine call_by (k3) rfl ?_
  simp (disch := first | omega | (simp only [vl]; omega)) only [vcd]
  exact ⟨_, _, rfl, by omega⟩
theorem DrawNarayanaNumber_ok [Has K 283 ir_spec_DrawNarayanaNumber] [Has K 288 ir_spec_l1New] [Has K 289 ir_spec_l1Below] [Has K 316 ir_spec_l1Byte] {code : List Nat} (h : code.length ≤ 1048576) : ∃ rs, (∃ x y, rs = [.n x, .n y] ∧ y ≤ 7) ∧ K 283 [LB code] rs := by
  refine body_ex (f := ir_spec_DrawNarayanaNumber) rfl ?_; simp only [ir_spec_DrawNarayanaNumber]
  obtain ⟨_, ⟨d, rfl, hd⟩, k1⟩ := l1New_ok (K := K) h
  obtain ⟨_, ⟨x, d1, rfl, hx, hd1⟩, k2⟩ := l1Below_ok (K := K) hd (n := 18)
  have hx := hx.2 (by omega)
  obtain ⟨_, ⟨y, d2, rfl, hy, hd2⟩, k3⟩ := l1Below_ok (K := K) hd1 (n := 9)
  have hy := hy.2 (by omega)
  simp (disch := first | omega | (simp only [vl]; omega)) only [vcd]
  refine call_by (k1) rfl ?_
  simp (disch := first | omega | (simp only [vl]; omega)) only [vcd]
  refine call_by (k2) rfl ?_
  simp (disch := first | omega | (simp only [vl]; omega)) only [vcd]
  refine call_by (k3) rfl ?_
  simp (disch := first | omega | (simp only [vl]; omega)) only [vcd]
  exact ⟨_, _, rfl, by omega⟩
theorem DrawCatalanNumber_ok [Has K 284 ir_spec_DrawCatalanNumber] [Has K 288 ir_spec_l1New] [Has K 289 ir_spec_l1Below] [Has K 316 ir_spec_l1Byte] {code : List Nat} (h : code.length ≤ 1048576) : ∃ rs, (∃ x, rs = [.n x]) ∧ K 284 [LB code] rs := by
  refine body_ex (f := ir_spec_DrawCatalanNumber) rfl ?_; simp only [ir_spec_DrawCatalanNumber]
  obtain ⟨_, ⟨d, rfl, hd⟩, k1⟩ := l1New_ok (K := K) h
  obtain ⟨_, ⟨x, d1, rfl, hx, hd1⟩, k2⟩ := l1Below_ok (K := K) hd (n := 18)
  have hx := hx.2 (by omega)
  simp (disch := first | omega | (simp only [vl]; omega)) only [vcd]
  refine call_by (k1) rfl ?_
  simp (disch := first | omega | (simp only [vl]; omega)) only [vcd]
  refine call_by (k2) rfl ?_
  simp (disch := first | omega | (simp only [vl]; omega)) only [vcd]
  exact ⟨_, rfl⟩
theorem DrawPathsOf_ok [Has K 278 ir_spec_DrawPathsOf] [Has K 288 ir_spec_l1New] [Has K 289 ir_spec_l1Below] [Has K 316 ir_spec_l1Byte] {code : List Nat} (h : code.length ≤ 1048576) : ∃ rs, (∃ x, rs = [.n x] ∧ -1 ≤ x ∧ x ≤ 7) ∧ K 278 [LB code] rs := by
  refine body_ex (f := ir_spec_DrawPathsOf) rfl ?_; simp only [ir_spec_DrawPathsOf]
  obtain ⟨_, ⟨d, rfl, hd⟩, k1⟩ := l1New_ok (K := K) h
  obtain ⟨_, ⟨x, d1, rfl, hx, hd1⟩, k2⟩ := l1Below_ok (K := K) hd (n := 9)
  have hx := hx.2 (by omega)
  simp (disch := first | omega | (simp only [vl]; omega)) only [vcd]
  refine call_by (k1) rfl ?_
  simp (disch := first | omega | (simp only [vl]; omega)) only [vcd]
  refine call_by (k2) rfl ?_
  simp (disch := first | omega | (simp only [vl]; omega)) only [vcd]
  exact ⟨_, rfl, by omega⟩
theorem DrawRankPath_ok [Has K 275 ir_spec_DrawRankPath] [Has K 288 ir_spec_l1New] [Has K 289 ir_spec_l1Below] [Has K 290 ir_spec_l2Any] [Has K 306 ir_spec_l2Draw] [Has K 307 ir_spec_l1Once] [Has K 315 ir_spec_l1Spoil] [Has K 316 ir_spec_l1Byte] [Has K 317 ir_spec_l2Path] [Has K 318 ir_spec_l1Pick] [Has K 327 ir_spec_l1Text] {code : List Nat} (h : code.length ≤ 1048576) : ∃ rs, (∃ x, rs = [.s x] ∧ x.length ≤ 20) ∧ K 275 [LB code] rs := by
  refine body_ex (f := ir_spec_DrawRankPath) rfl ?_; simp only [ir_spec_DrawRankPath]
  obtain ⟨_, ⟨d, rfl, hd⟩, k1⟩ := l1New_ok (K := K) h
  obtain ⟨_, ⟨x, d1, rfl, hx, hd1⟩, k2⟩ := l2Any_ok (K := K) hd
  simp (disch := first | omega | (simp only [vl]; omega)) only [vcd]
  refine call_by (k1) rfl ?_
  simp (disch := first | omega | (simp only [vl]; omega)) only [vcd]
  refine call_by (k2) rfl ?_
  simp (disch := first | omega | (simp only [vl]; omega)) only [vcd]
  exact ⟨_, rfl, hx⟩

/-- What is told of a path that has been found. -/
theorem un_good {a b : Int} (h : unO a b = true) : dyck (unRR a b) = true ∧ rkR (unRR a b) = b ∧ szR (unRR a b) = a ∧ (unRR a b).length ≤ 16 := by
  have h' : 0 ≤ a ∧ a ≤ 8 ∧ 0 ≤ b ∧ b < bw a.toNat a.toNat := by simpa [unO] using h
  obtain ⟨n, rfl⟩ := Int.eq_ofNat_of_zero_le h'.1
  obtain ⟨k, rfl⟩ := Int.eq_ofNat_of_zero_le h'.2.2.1
  simp only [Int.toNat_natCast] at h'
  have hk : k < bw n n := by omega
  obtain ⟨⟨g1, g2, g3⟩, g4⟩ := unr_ok (n + n) n n k (by omega) rfl hk
  rw [unRR_in (by omega) hk]
  have hd : dyck (unr (n + n) n n k) = true := by
    simp only [dyck, Bool.and_eq_true, decide_eq_true_eq]
    exact ⟨by rw [← g3]; congr 1; omega, by omega⟩
  refine ⟨hd, ?_, ?_, by omega⟩
  · simp only [rkR, hd, if_true, g2]
    rw [show (n + n) / 2 = n by omega, g4]
  · simp only [szR, hd, if_true, g2]; omega
theorem unRR_len {a b : Int} : (unRR a b).length ≤ 16 := by
  cases h : unO a b
  · rw [unRR_out h]; simp
  · exact (un_good h).2.2.2
theorem rk_good {w : List Nat} (h : dyck w = true) : ∃ n r : Nat, w.length = 2 * n ∧ n ≤ 8 ∧ rkR w = r ∧ szR w = n ∧ r < bw n n ∧ unRR n r = w ∧ unO n r = true := by
  obtain ⟨g, hl⟩ := gw_dyck h
  obtain ⟨q1, q2⟩ := rk_ok w _ _ g
  have g2 := g.2.1
  refine ⟨w.length / 2, rkF w (w.length / 2) (w.length / 2), by omega, by omega, by simp [rkR, h], by simp only [szR, h, if_true]; omega, q1, ?_, unO_in (by omega) q1⟩
  rw [unRR_in (by omega) q1, q2]
theorem rkR_neg {w : List Nat} (h : dyck w = false) : rkR w = -1 := by simp [rkR, h]

theorem pln0 : allB 7 (fun q => decide (0 < (pathsR q).length)) = true := by kernel_rfl

set_option maxHeartbeats 4000000 in
theorem ranks_law [Has K 19 ir_impl_BallotByReflection] [Has K 22 ir_spec_l1In] [Has K 23 ir_impl_within] [Has K 24 ir_spec_l3Binomial] [Has K 25 ir_impl_choose] [Has K 27 ir_impl_BallotNumber] [Has K 28 ir_impl_CatalanNumber] [Has K 64 ir_spec_IsDyck] [Has K 67 ir_impl_IsDyck] [Has K 79 ir_spec_CatalanNumber] [Has K 82 ir_impl_heights] [Has K 84 ir_spec_l3Ways] [Has K 132 ir_impl_SizeOf] [Has K 219 ir_laws_FnRanks] [Has K 220 ir_laws_big] [Has K 234 ir_spec_PathsOf] [Has K 255 ir_laws_sameWords] [Has K 270 ir_spec_DrawUnrankPath] [Has K 271 ir_impl_UnrankPath] [Has K 272 ir_spec_UnrankPath] [Has K 273 ir_impl_RankPath] [Has K 274 ir_spec_SizeOf] [Has K 275 ir_spec_DrawRankPath] [Has K 276 ir_spec_RankPath] [Has K 277 ir_impl_NextPath] [Has K 278 ir_spec_DrawPathsOf] [Has K 279 ir_impl_PathsOf] [Has K 280 ir_impl_PeaksOf] [Has K 281 ir_impl_NarayanaNumber] [Has K 282 ir_spec_DrawBallotNumber] [Has K 283 ir_spec_DrawNarayanaNumber] [Has K 284 ir_spec_DrawCatalanNumber] [Has K 285 ir_spec_BallotNumber] [Has K 286 ir_spec_NarayanaNumber] [Has K 288 ir_spec_l1New] [Has K 289 ir_spec_l1Below] [Has K 290 ir_spec_l2Any] [Has K 292 ir_spec_l3All] [Has K 306 ir_spec_l2Draw] [Has K 307 ir_spec_l1Once] [Has K 313 ir_spec_l1PickInt] [Has K 314 ir_impl_allPaths] [Has K 315 ir_spec_l1Spoil] [Has K 316 ir_spec_l1Byte] [Has K 317 ir_spec_l2Path] [Has K 318 ir_spec_l1Pick] [Has K 326 ir_impl_allPaths_f1] [Has K 327 ir_spec_l1Text] (code : List Nat) : K 219 [LB code] [.b true] := by
  refine body_by (f := ir_laws_FnRanks) rfl ?_; simp only [ir_laws_FnRanks]
  by_cases hl : code.length ≤ 1048576
  · obtain ⟨_, ⟨n, k, rfl⟩, k1⟩ := DrawUnrankPath_ok (K := K) hl
    obtain ⟨_, ⟨v, rfl, hv⟩, k2⟩ := DrawRankPath_ok (K := K) hl
    obtain ⟨_, ⟨m, rfl, hm⟩, k3⟩ := DrawPathsOf_ok (K := K) hl
    obtain ⟨_, ⟨a, b, rfl, hab⟩, k4⟩ := DrawBallotNumber_ok (K := K) hl
    obtain ⟨_, ⟨c, e, rfl, he⟩, k5⟩ := DrawNarayanaNumber_ok (K := K) hl
    obtain ⟨_, ⟨f, rfl⟩, k6⟩ := DrawCatalanNumber_ok (K := K) hl
    obtain ⟨bv, k7, k8⟩ := bl_same (K := K) a b hab
    obtain ⟨nn, k9, k10⟩ := nv_same (K := K) c e he
    obtain ⟨cc, k11, k12⟩ := cat_same (K := K) f
    have lu := unRR_len (a := n) (b := k)
    simp (disch := first | omega | (simp only [vl]; omega)) only [vcd]
    refine call_by (bigK_ok (K := K)) rfl ?_
    simp (disch := first | omega | (simp only [vl]; omega)) only [vcd]
    refine call_by (k1) rfl ?_
    simp (disch := first | omega | (simp only [vl]; omega)) only [vcd]
    refine call_by (un_i (K := K)) rfl ?_
    simp (disch := first | omega | (simp only [vl]; omega)) only [vcd]
    refine call_by (un_s (K := K)) rfl ?_
    simp (disch := first | omega | (simp only [vl]; omega)) only [vcd]
    apply joinK
    · intro hG
      cases ho : unO n k
      · simp (disch := first | omega | (simp only [vl]; omega)) only [vcd]
        refine call_by (k2) rfl ?_
        simp (disch := first | omega | (simp only [vl]; omega)) only [vcd]
        exact hG
      · obtain ⟨u1, u2, u3, u4⟩ := un_good ho
        simp (disch := first | omega | (simp only [vl]; omega)) only [vcd]
        refine call_by (rk_i (K := K) (w := unRR n k) (by omega)) rfl ?_
        simp (disch := first | omega | (simp only [vl]; omega)) only [vcd, u2]
        refine call_by (sz_s (K := K) (w := unRR n k) (by omega)) rfl ?_
        simp (disch := first | omega | (simp only [vl]; omega)) only [vcd, u3]
        refine call_by (k2) rfl ?_
        simp (disch := first | omega | (simp only [vl]; omega)) only [vcd]
        exact hG
    refine call_by (rk_i (K := K) (w := v) (by omega)) rfl ?_
    simp (disch := first | omega | (simp only [vl]; omega)) only [vcd]
    refine call_by (rk_s (K := K) (w := v) (by omega)) rfl ?_
    simp (disch := first | omega | (simp only [vl]; omega)) only [vcd]
    apply joinK
    · intro hG
      cases hd : dyck v
      · have hr := rkR_neg hd
        simp (disch := first | omega | (simp only [vl]; omega)) only [vcd, hr]
        refine call_by (k3) rfl ?_
        simp (disch := first | omega | (simp only [vl]; omega)) only [vcd]
        exact hG
      · obtain ⟨s, r, r1, r2, r3, r4, r5, r6, r7⟩ := rk_good hd
        have hc := bw_cat (n := s) (by omega)
        have hmx := bw_max (u := s) (d := s) (by omega) (by omega)
        rw [r3]
        simp (disch := first | omega | (simp only [vl]; omega)) only [vcd]
        refine call_by (sz_s (K := K) (w := v) (by omega)) rfl ?_
        rw [r4]
        simp (disch := first | omega | (simp only [vl]; omega)) only [vcd]
        refine call_by (un_i (K := K)) rfl ?_
        rw [r6, r7]
        simp (disch := first | omega | (simp only [vl]; omega)) only [vcd]
        have kn := nx_i (K := K) (w := v) (by omega) hd
        rw [r3, r4] at kn
        refine call_by (kn) rfl ?_
        simp (disch := first | omega | (simp only [vl]; omega)) only [vcd]
        refine call_by (sz_s (K := K) (w := v) (by omega)) rfl ?_
        rw [r4]
        simp (disch := first | omega | (simp only [vl]; omega)) only [vcd]
        refine call_by (cat_i (K := K) (n := s) (by omega)) rfl ?_
        rw [← hc]
        by_cases hlt : r + 1 < bw s s
        · have ho : unO s ((r : Int) + 1) = true := unO_in (k := r + 1) (by omega) hlt
          obtain ⟨_, u2, _, u4⟩ := un_good ho
          simp (disch := first | omega | (simp only [vl]; omega)) only [vcd, ho]
          refine call_by (rk_i (K := K) (w := unRR s ((r : Int) + 1)) (by omega)) rfl ?_
          simp (disch := first | omega | (simp only [vl]; omega)) only [vcd, u2]
          refine call_by (k3) rfl ?_
          simp (disch := first | omega | (simp only [vl]; omega)) only [vcd]
          exact hG
        · have ho : unO s ((r : Int) + 1) = false := by simp only [unO, decide_eq_false_iff_not, Int.toNat_natCast]; omega
          simp (disch := first | omega | (simp only [vl]; omega)) only [vcd, ho]
          refine call_by (k3) rfl ?_
          simp (disch := first | omega | (simp only [vl]; omega)) only [vcd]
          exact hG
    apply joinK
    · intro hG
      rcases Decidable.em (¬ (0 ≤ m ∧ m ≤ 6)) with h | h
      · refine call_by (pl_out_i (K := K) h) rfl ?_
        simp (disch := first | omega | (simp only [vl]; omega)) only [vcd]
        refine call_by (pl_out_s (K := K) h) rfl ?_
        simp (disch := first | omega | (simp only [vl]; omega)) only [vcd]
        refine call_by (sameWordsK (K := K) (a := []) (by simp)) rfl ?_
        simp (disch := first | omega | (simp only [vl]; omega)) only [vcd]
        refine loop_ix (fun i => True) (fun i => [LB code, .u, .u, .u, .u, .u, .u, .u, .u, .u, .u, .u, .u, .u, .n m, LS [], LI (rep 10 0), .n i, .u, .u, .u, .u, .u, .u, .u, .u, .u, .u, .u, .u, .u, .u, .u, .u, .u, .u]) 0 trivial rfl (fun i hi hP => ?_) (fun hP => ?_)
        · omega
        · simp (disch := first | omega | (simp only [vl]; omega)) only [vcd]
          refine loop_ix (fun i => True) (fun i => [LB code, .u, .u, .u, .u, .u, .u, .u, .u, .u, .u, .u, .u, .u, .n m, LS [], LI (rep 10 0), .u, .n i, .u, .u, .u, .u, .u, .u, .u, .u, .u, .u, .u, .u, .u, .u, .u, .u, .u]) 0 trivial rfl (fun i hi hP => ?_) (fun hP => ?_)
          · omega
          · simp (disch := first | omega | (simp only [vl]; omega)) only [vcd]
            refine call_by (k4) rfl ?_
            simp (disch := first | omega | (simp only [vl]; omega)) only [vcd]
            exact hG
      · have h := Decidable.not_not.1 h
        obtain ⟨q, rfl⟩ := Int.eq_ofNat_of_zero_le h.1
        have hq : q < 7 := by omega
        have hR := allB_spec rch0 q hq
        simp only [Bool.and_eq_true, decide_eq_true_eq] at hR
        obtain ⟨hR, hRl⟩ := hR
        have hpk := fun i => fun hi => allB_spec (allB_spec pkA q hq) i hi
        simp only [decide_eq_true_eq] at hpk
        have hne : 0 < (pathsR q).length := of_decide_eq_true (allB_spec pln0 q hq)
        refine call_by (pl_i (K := K) hq) rfl ?_
        simp (disch := first | omega | (simp only [vl]; omega)) only [vcd]
        refine call_by (pl_s (K := K) hq) rfl ?_
        simp (disch := first | omega | (simp only [vl]; omega)) only [vcd]
        refine call_by (sameWordsK (K := K) (a := pathsR q) (by omega)) rfl ?_
        simp (disch := first | omega | (simp only [vl]; omega)) only [vcd]
        refine loop_fold (pkS (pathsR q)) (fun i s => s.length = 10 ∧ ∀ j : Nat, 0 ≤ atI s j ∧ atI s j ≤ i) (fun i s => [LB code, .u, .u, .u, .u, .u, .u, .u, .u, .u, .u, .u, .u, .u, .n q, LS (pathsR q), LI s, .n i, .u, .u, .u, .u, .u, .u, .u, .u, .u, .u, .u, .u, .u, .u, .u, .u, .u, .u]) (pathsR q).length (rep 10 0) ⟨rfl, fun j => ?_⟩ rfl (fun i s hi hP => ?_) (fun i s hi hP hs => ?_) (fun s hs hP => ?_)
        · have : atI (rep 10 0) (j : Int) = 0 := by
            simp only [atI, rep, Int.toNat_natCast, List.getD_eq_getElem?_getD, List.getElem?_replicate]
            split <;> rfl
          omega
        · obtain ⟨p1, p2⟩ := hP
          have hp := (rchk_get hR i _ (atS_getK hi)).2.2.2
          refine ⟨by simp only [pkS, seI_len, p1], fun j => ?_⟩
          simp only [pkS]
          rw [atI_set (by omega)]
          have := p2 (pkF (atS (pathsR q) i))
          have := p2 j
          split <;> omega
        · obtain ⟨p1, p2⟩ := hP
          obtain ⟨g1, g2, g3, g4⟩ := rchk_get hR i _ (atS_getK hi)
          have hr : rkR (atS (pathsR q) i) = i := by
            simp only [rkR, g1, if_true, g3]
            rw [show 2 * q / 2 = q by omega]
            omega
          have := p2 (pkF (atS (pathsR q) i))
          simp (disch := first | omega | (simp only [vl]; omega)) only [vcd]
          refine call_by (rk_i (K := K) (w := atS (pathsR q) i) (by omega)) rfl ?_
          simp (disch := first | omega | (simp only [vl]; omega)) only [vcd, hr]
          refine call_by (pk_i (K := K) (w := atS (pathsR q) i) (by omega) g1) rfl ?_
          simp (disch := first | omega | (simp only [vl]; omega)) only [vcd]
          refine call_by (pk_i (K := K) (w := atS (pathsR q) i) (by omega) g1) rfl ?_
          simp (disch := first | omega | (simp only [vl]; omega)) only [vcd]
          rfl
        · obtain ⟨p1, p2⟩ := hP
          simp (disch := first | omega | (simp only [vl]; omega)) only [vcd]
          refine loop_ix (fun i => True) (fun i => [LB code, .u, .u, .u, .u, .u, .u, .u, .u, .u, .u, .u, .u, .u, .n q, LS (pathsR q), LI s, .u, .n i, .u, .u, .u, .u, .u, .u, .u, .u, .u, .u, .u, .u, .u, .u, .u, .u, .u]) 10 trivial rfl (fun i hi hP => ?_) (fun hP => ?_)
          · have := hpk i hi
            rw [← hs] at this
            simp (disch := first | omega | (simp only [vl]; omega)) only [vcd]
            refine call_by (nvm (K := K) hq hi) rfl ?_
            simp (disch := first | omega | (simp only [vl]; omega)) only [vcd, this]
          · simp (disch := first | omega | (simp only [vl]; omega)) only [vcd]
            refine call_by (k4) rfl ?_
            simp (disch := first | omega | (simp only [vl]; omega)) only [vcd]
            exact hG
    refine call_by (k5) rfl ?_
    simp (disch := first | omega | (simp only [vl]; omega)) only [vcd]
    refine call_by (k6) rfl ?_
    simp (disch := first | omega | (simp only [vl]; omega)) only [vcd]
    refine call_by (k7) rfl ?_
    simp (disch := first | omega | (simp only [vl]; omega)) only [vcd]
    refine call_by (k8) rfl ?_
    simp (disch := first | omega | (simp only [vl]; omega)) only [vcd]
    apply joinK
    · intro hG
      by_cases a0 : 0 ≤ a
      · by_cases ab : a ≤ b
        · by_cases b14 : b ≤ 14
          · have kr := br_bl (K := K) ⟨⟨a0, ab⟩, b14⟩ k7
            simp (disch := first | omega | (simp only [vl]; omega)) only [vcd]
            refine call_by (kr) rfl ?_
            simp (disch := first | omega | (simp only [vl]; omega)) only [vcd]
            refine call_by (k9) rfl ?_
            simp (disch := first | omega | (simp only [vl]; omega)) only [vcd]
            exact hG
          · simp (disch := first | omega | (simp only [vl]; omega)) only [vcd]
            refine call_by (k9) rfl ?_
            simp (disch := first | omega | (simp only [vl]; omega)) only [vcd]
            exact hG
        · simp (disch := first | omega | (simp only [vl]; omega)) only [vcd]
          refine call_by (k9) rfl ?_
          simp (disch := first | omega | (simp only [vl]; omega)) only [vcd]
          exact hG
      · simp (disch := first | omega | (simp only [vl]; omega)) only [vcd]
        refine call_by (k9) rfl ?_
        simp (disch := first | omega | (simp only [vl]; omega)) only [vcd]
        exact hG
    refine call_by (k10) rfl ?_
    simp (disch := first | omega | (simp only [vl]; omega)) only [vcd]
    refine call_by (k11) rfl ?_
    simp (disch := first | omega | (simp only [vl]; omega)) only [vcd]
    refine call_by (k12) rfl ?_
    simp (disch := first | omega | (simp only [vl]; omega)) only [vcd]
  · simp (disch := first | omega | (simp only [vl]; omega)) only [vcd]
    refine call_by (bigK_ok (K := K)) rfl ?_
    simp (disch := first | omega | (simp only [vl]; omega)) only [vcd]
end Go.Cat

