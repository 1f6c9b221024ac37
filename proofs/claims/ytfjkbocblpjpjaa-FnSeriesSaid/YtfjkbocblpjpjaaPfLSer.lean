/-
  Series: the law.
-/
import Derived.Test.YtfjkbocblpjpjaaPfSerX
import Derived.Test.YtfjkbocblpjpjaaPfDraw
import Derived.Test.YtfjkbocblpjpjaaPfIn
import Derived.Test.YtfjkbocblpjpjaaIrAllA
namespace Go.Cat
variable {K : Nat → List D → List D → Prop}
set_option maxRecDepth 100000

/-- Two roads, one end. -/
theorem joinS {P G : Prop} (f : G → P) (g : G) : P := f g

theorem bigS_ok [Has K 220 ir_laws_big] {code : List Nat} : K 220 [LB code] [.b (decide (1048576 < (code.length : Int)))] := by
  refine body_by (f := ir_laws_big) rfl ?_; simp only [ir_laws_big]
  simp (disch := first | omega | (simp only [vl]; omega)) only [vc]

theorem sameInts_t [Has K 239 ir_laws_sameInts] {a : List Int} (h : a.length ≤ 1099511627776) : K 239 [LI a, LI a] [.b true] := by
  refine body_by (f := ir_laws_sameInts) rfl ?_; simp only [ir_laws_sameInts]
  simp (disch := first | omega | (simp only [vl]; omega)) only [vcd]
  refine loop_ix (fun i => True) (fun i => [LI a, LI a, .u, .n i, .u, .u, .u]) a.length trivial rfl (fun i hi hP => ?_) (fun hP => ?_)
  · simp (disch := first | omega | (simp only [vl]; omega)) only [vcd]
  · simp (disch := first | omega | (simp only [vl]; omega)) only [vcd]

theorem l1PickInt_ok [Has K 289 ir_spec_l1Below] [Has K 313 ir_spec_l1PickInt] [Has K 316 ir_spec_l1Byte] {d : D} (hd : Cur d) {l : List Int} (h0 : 0 < l.length) (hl : l.length ≤ 1000000) : ∃ rs, (∃ x d', rs = [.n x, d'] ∧ Cur d') ∧ K 313 [d, LI l] rs := by
  refine body_ex (f := ir_spec_l1PickInt) rfl ?_; simp only [ir_spec_l1PickInt]
  obtain ⟨_, ⟨x1, d1, rfl, hx1, hd1⟩, k1⟩ := l1Below_ok (K := K) hd (n := l.length)
  have := hx1.2 (by omega)
  simp (disch := first | omega | (simp only [vl]; omega)) only [vcd]
  refine call_by (k1) rfl ?_
  simp (disch := first | omega | (simp only [vl]; omega)) only [vcd]
  exact ⟨_, _, rfl, hd1⟩

theorem l30Any_ok [Has K 22 ir_spec_l1In] [Has K 59 ir_spec_CatalanSeries] [Has K 79 ir_spec_CatalanNumber] [Has K 84 ir_spec_l3Ways] [Has K 289 ir_spec_l1Below] [Has K 307 ir_spec_l1Once] [Has K 308 ir_spec_l30Any] [Has K 313 ir_spec_l1PickInt] [Has K 316 ir_spec_l1Byte] {d : D} (hd : Cur d) : ∃ rs, (∃ x d', rs = [LI x, d'] ∧ x.length ≤ 12 ∧ Cur d') ∧ K 308 [d] rs := by
  refine body_ex (f := ir_spec_l30Any) rfl ?_; simp only [ir_spec_l30Any]
  obtain ⟨_, ⟨n, d1, rfl, hn, hd1⟩, k1⟩ := l1Below_ok (K := K) hd (n := 6)
  have hn := hn.2 (by omega)
  simp (disch := first | omega | (simp only [vl]; omega)) only [vcd]
  refine call_by (k1) rfl ?_
  by_cases h0 : n = 0
  · obtain ⟨_, ⟨m, d2, rfl, hm, hd2⟩, k2⟩ := l1Below_ok (K := K) hd1 (n := 8)
    have hm := hm.2 (by omega)
    simp (disch := first | omega | (simp only [vl]; omega)) only [vcd, h0]
    refine call_by (k2) rfl ?_
    simp (disch := first | omega | (simp only [vl]; omega)) only [vcd]
    refine call_by (cs_s (K := K) (n := 1 + m)) rfl ?_
    simp (disch := first | omega | (simp only [vl]; omega)) only [vcd]
    exact ⟨_, _, rfl, csR_len, hd2⟩
  · by_cases h1 : n = 1
    · simp (disch := first | omega | (simp only [vl]; omega)) only [vcd, h1, liI_c, consS_LI]
      exact ⟨_, _, rfl, by simp, hd1⟩
    · obtain ⟨_, ⟨a0, d2, rfl, hd2⟩, k2⟩ := l1PickInt_ok (K := K) hd1 (l := [1, 1, 0, -1]) (by simp) (by simp)
      obtain ⟨_, ⟨m, d3, rfl, hm, hd3⟩, k3⟩ := l1Below_ok (K := K) hd2 (n := 6)
      have hm := hm.2 (by omega)
      simp (disch := first | omega | (simp only [vl]; omega)) only [vcd, liI_c, consS_LI]
      refine call_by (k2) rfl ?_
      simp (disch := first | omega | (simp only [vl]; omega)) only [vcd]
      refine call_by (k3) rfl ?_
      simp (disch := first | omega | (simp only [vl]; omega)) only [vcd]
      refine loop_wh (fun (q : D × List Int × Int) => Cur q.1 ∧ (0 ≤ q.2.2 ∧ (q.2.1.length : Int) + q.2.2 ≤ 6) ∧ 1 ≤ q.2.1.length) (fun q => [q.1, .u, .u, LI q.2.1, .n q.2.2, .u, .u, .u, .u, .u, .u]) (fun q => q.2.2.toNat) (d3, [a0], m) ⟨hd3, by simp; omega, by simp⟩ rfl ?_
      rintro ⟨d4, x, r⟩ ⟨hd4, hr, hx⟩
      simp only at hd4 hr hx ⊢
      by_cases hr0 : 0 < r
      · obtain ⟨_, ⟨y, d5, rfl, hy, hd5⟩, k4⟩ := l1Below_ok (K := K) hd4 (n := 5)
        have hy := hy.2 (by omega)
        simp (disch := first | omega | (simp only [vl]; omega)) only [vcd]
        refine call_by (k4) rfl ?_
        simp (disch := first | omega | (simp only [vl]; omega)) only [vcd]
        exact ⟨(d5, x ++ [y - 2], r - 1), by show (r - 1).toNat < r.toNat; omega, ⟨hd5, by simp; omega, by simp⟩, rfl⟩
      · obtain ⟨_, ⟨b, d5, rfl, hd5⟩, k4⟩ := l1Once_ok (K := K) hd4 (n := 14)
        obtain ⟨z, hz⟩ : ∃ z, z = if 1 < x.length ∧ atI x 0 = 0 then seI x 1 1 else x := ⟨_, rfl⟩
        have hzl : z.length = x.length := by rw [hz]; split <;> simp [seI]
        apply joinS
        · intro hG
          by_cases q1 : 1 < x.length
          · by_cases q2 : atI x 0 = 0
            · rw [if_pos ⟨q1, q2⟩] at hz
              simp (disch := first | omega | (simp only [vl]; omega)) only [vcd, q2, LI_set1]
              rw [← hz]
              refine call_by (k4) rfl ?_
              simp (disch := first | omega | (simp only [vl]; omega)) only [vcd]
              exact hG
            · rw [if_neg (fun h => q2 h.2)] at hz
              simp (disch := first | omega | (simp only [vl]; omega)) only [vcd, q2]
              rw [← hz]
              refine call_by (k4) rfl ?_
              simp (disch := first | omega | (simp only [vl]; omega)) only [vcd]
              exact hG
          · rw [if_neg (fun h => q1 h.1)] at hz
            simp (disch := first | omega | (simp only [vl]; omega)) only [vcd]
            rw [← hz]
            refine call_by (k4) rfl ?_
            simp (disch := first | omega | (simp only [vl]; omega)) only [vcd]
            exact hG
        cases b
        · simp (disch := first | omega | (simp only [vl]; omega)) only [vcd]
          exact ⟨_, _, rfl, by omega, hd5⟩
        · obtain ⟨_, ⟨y, d6, rfl, hd6⟩, k5⟩ := l1PickInt_ok (K := K) hd5 (l := [1000001, -9223372036854775808, 1000000]) (by simp) (by simp)
          simp (disch := first | omega | (simp only [vl]; omega)) only [vcd, liI_c, consS_LI]
          refine call_by (k5) rfl ?_
          simp (disch := first | omega | (simp only [vl]; omega)) only [vcd, LI_set0]
          exact ⟨_, _, rfl, by simp [seI]; omega, hd6⟩

theorem DrawInverseSeries_ok [Has K 22 ir_spec_l1In] [Has K 59 ir_spec_CatalanSeries] [Has K 79 ir_spec_CatalanNumber] [Has K 84 ir_spec_l3Ways] [Has K 246 ir_spec_DrawInverseSeries] [Has K 288 ir_spec_l1New] [Has K 289 ir_spec_l1Below] [Has K 307 ir_spec_l1Once] [Has K 308 ir_spec_l30Any] [Has K 313 ir_spec_l1PickInt] [Has K 316 ir_spec_l1Byte] {code : List Nat} (h : code.length ≤ 1048576) : ∃ rs, (∃ x, rs = [LI x] ∧ x.length ≤ 12) ∧ K 246 [LB code] rs := by
  refine body_ex (f := ir_spec_DrawInverseSeries) rfl ?_; simp only [ir_spec_DrawInverseSeries]
  obtain ⟨_, ⟨d, rfl, hd⟩, k1⟩ := l1New_ok (K := K) h
  obtain ⟨_, ⟨x, d1, rfl, hx, hd1⟩, k2⟩ := l30Any_ok (K := K) hd
  simp (disch := first | omega | (simp only [vl]; omega)) only [vcd]
  refine call_by (k1) rfl ?_
  simp (disch := first | omega | (simp only [vl]; omega)) only [vcd]
  refine call_by (k2) rfl ?_
  simp (disch := first | omega | (simp only [vl]; omega)) only [vcd]
  exact ⟨_, rfl, hx⟩

theorem DrawReversionOf_ok [Has K 22 ir_spec_l1In] [Has K 59 ir_spec_CatalanSeries] [Has K 79 ir_spec_CatalanNumber] [Has K 84 ir_spec_l3Ways] [Has K 247 ir_spec_DrawReversionOf] [Has K 288 ir_spec_l1New] [Has K 289 ir_spec_l1Below] [Has K 307 ir_spec_l1Once] [Has K 308 ir_spec_l30Any] [Has K 313 ir_spec_l1PickInt] [Has K 316 ir_spec_l1Byte] {code : List Nat} (h : code.length ≤ 1048576) : ∃ rs, (∃ x, rs = [LI x] ∧ x.length ≤ 12) ∧ K 247 [LB code] rs := by
  refine body_ex (f := ir_spec_DrawReversionOf) rfl ?_; simp only [ir_spec_DrawReversionOf]
  obtain ⟨_, ⟨d, rfl, hd⟩, k1⟩ := l1New_ok (K := K) h
  obtain ⟨_, ⟨x, d1, rfl, hx, hd1⟩, k2⟩ := l30Any_ok (K := K) hd
  simp (disch := first | omega | (simp only [vl]; omega)) only [vcd]
  refine call_by (k1) rfl ?_
  simp (disch := first | omega | (simp only [vl]; omega)) only [vcd]
  refine call_by (k2) rfl ?_
  simp (disch := first | omega | (simp only [vl]; omega)) only [vcd]
  exact ⟨_, rfl, hx⟩

theorem DrawBinomialTransform_ok [Has K 22 ir_spec_l1In] [Has K 59 ir_spec_CatalanSeries] [Has K 79 ir_spec_CatalanNumber] [Has K 84 ir_spec_l3Ways] [Has K 250 ir_spec_DrawBinomialTransform] [Has K 288 ir_spec_l1New] [Has K 289 ir_spec_l1Below] [Has K 307 ir_spec_l1Once] [Has K 308 ir_spec_l30Any] [Has K 313 ir_spec_l1PickInt] [Has K 316 ir_spec_l1Byte] {code : List Nat} (h : code.length ≤ 1048576) : ∃ rs, (∃ x, rs = [LI x] ∧ x.length ≤ 12) ∧ K 250 [LB code] rs := by
  refine body_ex (f := ir_spec_DrawBinomialTransform) rfl ?_; simp only [ir_spec_DrawBinomialTransform]
  obtain ⟨_, ⟨d, rfl, hd⟩, k1⟩ := l1New_ok (K := K) h
  obtain ⟨_, ⟨x, d1, rfl, hx, hd1⟩, k2⟩ := l30Any_ok (K := K) hd
  simp (disch := first | omega | (simp only [vl]; omega)) only [vcd]
  refine call_by (k1) rfl ?_
  simp (disch := first | omega | (simp only [vl]; omega)) only [vcd]
  refine call_by (k2) rfl ?_
  simp (disch := first | omega | (simp only [vl]; omega)) only [vcd]
  exact ⟨_, rfl, hx⟩

theorem DrawSatisfiesCatalan_ok [Has K 22 ir_spec_l1In] [Has K 59 ir_spec_CatalanSeries] [Has K 79 ir_spec_CatalanNumber] [Has K 84 ir_spec_l3Ways] [Has K 251 ir_spec_DrawSatisfiesCatalan] [Has K 288 ir_spec_l1New] [Has K 289 ir_spec_l1Below] [Has K 307 ir_spec_l1Once] [Has K 308 ir_spec_l30Any] [Has K 313 ir_spec_l1PickInt] [Has K 316 ir_spec_l1Byte] {code : List Nat} (h : code.length ≤ 1048576) : ∃ rs, (∃ x, rs = [LI x] ∧ x.length ≤ 12) ∧ K 251 [LB code] rs := by
  refine body_ex (f := ir_spec_DrawSatisfiesCatalan) rfl ?_; simp only [ir_spec_DrawSatisfiesCatalan]
  obtain ⟨_, ⟨d, rfl, hd⟩, k1⟩ := l1New_ok (K := K) h
  obtain ⟨_, ⟨x, d1, rfl, hx, hd1⟩, k2⟩ := l30Any_ok (K := K) hd
  simp (disch := first | omega | (simp only [vl]; omega)) only [vcd]
  refine call_by (k1) rfl ?_
  simp (disch := first | omega | (simp only [vl]; omega)) only [vcd]
  refine call_by (k2) rfl ?_
  simp (disch := first | omega | (simp only [vl]; omega)) only [vcd]
  exact ⟨_, rfl, hx⟩

theorem DrawCatalanSeries_ok [Has K 245 ir_spec_DrawCatalanSeries] [Has K 288 ir_spec_l1New] [Has K 289 ir_spec_l1Below] [Has K 316 ir_spec_l1Byte] {code : List Nat} (h : code.length ≤ 1048576) : ∃ rs, (∃ x, rs = [.n x]) ∧ K 245 [LB code] rs := by
  refine body_ex (f := ir_spec_DrawCatalanSeries) rfl ?_; simp only [ir_spec_DrawCatalanSeries]
  obtain ⟨_, ⟨d, rfl, hd⟩, k1⟩ := l1New_ok (K := K) h
  obtain ⟨_, ⟨x, d1, rfl, hx, hd1⟩, k2⟩ := l1Below_ok (K := K) hd (n := 15)
  have hx := hx.2 (by omega)
  simp (disch := first | omega | (simp only [vl]; omega)) only [vcd]
  refine call_by (k1) rfl ?_
  simp (disch := first | omega | (simp only [vl]; omega)) only [vcd]
  refine call_by (k2) rfl ?_
  simp (disch := first | omega | (simp only [vl]; omega)) only [vcd]
  exact ⟨_, rfl⟩

theorem DrawMultiplySeries_ok [Has K 22 ir_spec_l1In] [Has K 59 ir_spec_CatalanSeries] [Has K 79 ir_spec_CatalanNumber] [Has K 84 ir_spec_l3Ways] [Has K 248 ir_spec_DrawMultiplySeries] [Has K 288 ir_spec_l1New] [Has K 289 ir_spec_l1Below] [Has K 307 ir_spec_l1Once] [Has K 308 ir_spec_l30Any] [Has K 313 ir_spec_l1PickInt] [Has K 316 ir_spec_l1Byte] {code : List Nat} (h : code.length ≤ 1048576) : ∃ rs, (∃ x y, rs = [LI x, LI y] ∧ x.length ≤ 12 ∧ y.length ≤ 12) ∧ K 248 [LB code] rs := by
  refine body_ex (f := ir_spec_DrawMultiplySeries) rfl ?_; simp only [ir_spec_DrawMultiplySeries]
  obtain ⟨_, ⟨d, rfl, hd⟩, k1⟩ := l1New_ok (K := K) h
  obtain ⟨_, ⟨x, d1, rfl, hx, hd1⟩, k2⟩ := l30Any_ok (K := K) hd
  obtain ⟨_, ⟨y, d2, rfl, hy, hd2⟩, k3⟩ := l30Any_ok (K := K) hd1
  obtain ⟨_, ⟨b, d3, rfl, hd3⟩, k4⟩ := l1Once_ok (K := K) hd2 (n := 8)
  simp (disch := first | omega | (simp only [vl]; omega)) only [vcd]
  refine call_by (k1) rfl ?_
  simp (disch := first | omega | (simp only [vl]; omega)) only [vcd]
  refine call_by (k2) rfl ?_
  simp (disch := first | omega | (simp only [vl]; omega)) only [vcd]
  refine call_by (k3) rfl ?_
  simp (disch := first | omega | (simp only [vl]; omega)) only [vcd]
  refine call_by (k4) rfl ?_
  cases b
  · simp (disch := first | omega | (simp only [vl]; omega)) only [vcd]
    refine ⟨_, _, rfl, ?_, ?_⟩ <;> simp only [vl] <;> omega
  · simp (disch := first | omega | (simp only [vl]; omega)) only [vcd]
    exact ⟨_, _, rfl, hx, hy⟩

theorem DrawHankelOf_ok [Has K 22 ir_spec_l1In] [Has K 59 ir_spec_CatalanSeries] [Has K 79 ir_spec_CatalanNumber] [Has K 84 ir_spec_l3Ways] [Has K 249 ir_spec_DrawHankelOf] [Has K 288 ir_spec_l1New] [Has K 289 ir_spec_l1Below] [Has K 307 ir_spec_l1Once] [Has K 308 ir_spec_l30Any] [Has K 313 ir_spec_l1PickInt] [Has K 316 ir_spec_l1Byte] {code : List Nat} (h : code.length ≤ 1048576) : ∃ rs, (∃ x m n, rs = [LI x, .n m, .n n] ∧ x.length ≤ 12) ∧ K 249 [LB code] rs := by
  refine body_ex (f := ir_spec_DrawHankelOf) rfl ?_; simp only [ir_spec_DrawHankelOf]
  obtain ⟨_, ⟨d, rfl, hd⟩, k1⟩ := l1New_ok (K := K) h
  obtain ⟨_, ⟨x, d1, rfl, hx, hd1⟩, k2⟩ := l30Any_ok (K := K) hd
  obtain ⟨_, ⟨m, d2, rfl, hm, hd2⟩, k3⟩ := l1Below_ok (K := K) hd1 (n := 6)
  obtain ⟨_, ⟨n, d3, rfl, hn, hd3⟩, k4⟩ := l1Below_ok (K := K) hd2 (n := 4)
  have hn := hn.2 (by omega)
  simp (disch := first | omega | (simp only [vl]; omega)) only [vcd]
  refine call_by (k1) rfl ?_
  simp (disch := first | omega | (simp only [vl]; omega)) only [vcd]
  refine call_by (k2) rfl ?_
  simp (disch := first | omega | (simp only [vl]; omega)) only [vcd]
  refine call_by (k3) rfl ?_
  simp (disch := first | omega | (simp only [vl]; omega)) only [vcd]
  refine call_by (k4) rfl ?_
  simp (disch := first | omega | (simp only [vl]; omega)) only [vcd]
  exact ⟨_, _, _, rfl, hx⟩

/-- One power added to the sums. -/
def smS (f p : List Int) (k i : Nat) (o : List Int) : List Int := seI o i (IntKind.i64.wrap (atI o i + IntKind.i64.wrap (atI f k * atI p i)))
theorem smS_len {f p o : List Int} {k i : Nat} : (smS f p k i o).length = o.length := by simp [smS, seI]
theorem smS_at {f p o : List Int} {k n : Nat} : ∀ {m j : Nat}, m ≤ o.length → atI (iter (smS f p k) m o) j = if j < m then IntKind.i64.wrap (atI o j + IntKind.i64.wrap (atI f k * atI p j)) else atI o j
  | 0, j, _ => by simp [iter]
  | m + 1, j, h => by
    have hl : (iter (smS f p k) m o).length = o.length := iter_inv (fun (s : List Int) => s.length = o.length) rfl (fun i s h => by rw [smS_len, h]) m
    show atI (smS f p k m (iter (smS f p k) m o)) j = _
    rw [smS, atI_set (by rw [hl]; omega), smS_at (n := n) (by omega), smS_at (n := n) (by omega)]
    by_cases q : m = j
    · subst q; simp
    · have e : j < m + 1 ↔ j < m := by omega
      simp [q, e]

theorem line_r : ∃ r : List Int, rvR [0, 1, -1, 0, 0, 0, 0] = r ∧ r.length = 7 ∧ ∀ i : Nat, i < 6 → atI r ((i : Int) + 1) = catL.getD i 0 := by
  refine ⟨_, lineC.2, rfl, fun i hi => ?_⟩
  have : i = 0 ∨ i = 1 ∨ i = 2 ∨ i = 3 ∨ i = 4 ∨ i = 5 := by omega
  rcases this with rfl | rfl | rfl | rfl | rfl | rfl <;> rfl

set_option maxHeartbeats 4000000 in
theorem series_law [Has K 22 ir_spec_l1In] [Has K 23 ir_impl_within] [Has K 24 ir_spec_l3Binomial] [Has K 25 ir_impl_choose] [Has K 27 ir_impl_BallotNumber] [Has K 28 ir_impl_CatalanNumber] [Has K 41 ir_spec_MultiplySeries] [Has K 43 ir_impl_MultiplySeries] [Has K 47 ir_spec_SatisfiesCatalan] [Has K 48 ir_impl_SatisfiesCatalan] [Has K 55 ir_spec_InverseSeries] [Has K 56 ir_impl_InverseSeries] [Has K 57 ir_spec_BinomialTransform] [Has K 58 ir_impl_BinomialTransform] [Has K 59 ir_spec_CatalanSeries] [Has K 60 ir_impl_CatalanSeries] [Has K 68 ir_spec_l30Fine] [Has K 69 ir_spec_l30Times] [Has K 70 ir_impl_areTerms] [Has K 71 ir_impl_times] [Has K 72 ir_impl_equalInts] [Has K 75 ir_impl_copyInts] [Has K 78 ir_impl_areWithin] [Has K 79 ir_spec_CatalanNumber] [Has K 84 ir_spec_l3Ways] [Has K 97 ir_spec_HankelOf] [Has K 98 ir_impl_HankelOf] [Has K 103 ir_spec_ReversionOf] [Has K 104 ir_impl_ReversionOf] [Has K 126 ir_spec_l30Det] [Has K 127 ir_impl_determinant] [Has K 217 ir_laws_FnSeries] [Has K 220 ir_laws_big] [Has K 239 ir_laws_sameInts] [Has K 245 ir_spec_DrawCatalanSeries] [Has K 246 ir_spec_DrawInverseSeries] [Has K 247 ir_spec_DrawReversionOf] [Has K 248 ir_spec_DrawMultiplySeries] [Has K 249 ir_spec_DrawHankelOf] [Has K 250 ir_spec_DrawBinomialTransform] [Has K 251 ir_spec_DrawSatisfiesCatalan] [Has K 288 ir_spec_l1New] [Has K 289 ir_spec_l1Below] [Has K 307 ir_spec_l1Once] [Has K 308 ir_spec_l30Any] [Has K 313 ir_spec_l1PickInt] [Has K 316 ir_spec_l1Byte] (code : List Nat) : K 217 [LB code] [.b true] := by
  refine body_by (f := ir_laws_FnSeries) rfl ?_; simp only [ir_laws_FnSeries]
  by_cases hl : code.length ≤ 1048576
  · obtain ⟨_, ⟨n, rfl⟩, k1⟩ := DrawCatalanSeries_ok (K := K) hl
    obtain ⟨_, ⟨a, rfl, ha⟩, k2⟩ := DrawInverseSeries_ok (K := K) hl
    obtain ⟨_, ⟨f, rfl, hf⟩, k3⟩ := DrawReversionOf_ok (K := K) hl
    obtain ⟨_, ⟨x, y, rfl, hx, hy⟩, k4⟩ := DrawMultiplySeries_ok (K := K) hl
    obtain ⟨_, ⟨z, zn, zs, rfl, hz⟩, k5⟩ := DrawHankelOf_ok (K := K) hl
    obtain ⟨_, ⟨t, rfl, ht⟩, k6⟩ := DrawBinomialTransform_ok (K := K) hl
    obtain ⟨_, ⟨w, rfl, hw⟩, k7⟩ := DrawSatisfiesCatalan_ok (K := K) hl
    have l1 := csR_len (n := n)
    have l2 := invR_len (a := a)
    have l3 := rvR_len (a := f)
    have l4 := mulR_len (a := x) (b := y)
    have l5 := binR_len (a := t)
    simp (disch := first | omega | (simp only [vl]; omega)) only [vcd]
    refine call_by (bigS_ok (K := K)) rfl ?_
    simp (disch := first | omega | (simp only [vl]; omega)) only [vcd]
    refine call_by (k1) rfl ?_
    simp (disch := first | omega | (simp only [vl]; omega)) only [vcd]
    refine call_by (cs_i (K := K)) rfl ?_
    simp (disch := first | omega | (simp only [vl]; omega)) only [vcd]
    refine call_by (cs_s (K := K)) rfl ?_
    simp (disch := first | omega | (simp only [vl]; omega)) only [vcd]
    refine call_by (sameInts_t (K := K) (a := csR n) (by omega)) rfl ?_
    apply joinS
    · intro hG
      cases hn : inR 1 12 n
      · simp (disch := first | omega | (simp only [vl]; omega)) only [vcd, hn]
        refine call_by (k2) rfl ?_
        simp (disch := first | omega | (simp only [vl]; omega)) only [vcd]
        exact hG
      · simp (disch := first | omega | (simp only [vl]; omega)) only [vcd, hn]
        refine call_by (sat_i (K := K) (a := csR n) (by omega)) rfl ?_
        simp (disch := first | omega | (simp only [vl]; omega)) only [vcd, satC hn]
        refine loop_ix (fun k => True) (fun k => [LB code, .u, .u, .u, .u, LI (csR n), .u, .n k, .u, .u, .u, .u, .u, .u, .u, .u, .u, .u, .u, .u, .u, .u, .u, .u, .u, .u, .u, .u, .u, .u, .u, .u, .u, .u, .u, .u, .u, .u, .u, .u, .u, .u, .u, .u, .u, .u, .u, .u, .u, .u, .u, .u, .u, .u, .u, .u, .u, .u, .u, .u, .u, .u, .u, .u, .u, .u, .u, .u, .u, .u, .u, .u]) 5 trivial rfl (fun k hk hP => ?_) (fun hP => ?_)
        · simp (disch := first | omega | (simp only [vl]; omega)) only [vcd]
          refine loop_ix (fun s => True) (fun s => [LB code, .u, .u, .u, .u, LI (csR n), .u, .n k, .n s, .u, .u, .u, .u, .u, .u, .u, .u, .u, .u, .u, .u, .u, .u, .u, .u, .u, .u, .u, .u, .u, .u, .u, .u, .u, .u, .u, .u, .u, .u, .u, .u, .u, .u, .u, .u, .u, .u, .u, .u, .u, .u, .u, .u, .u, .u, .u, .u, .u, .u, .u, .u, .u, .u, .u, .u, .u, .u, .u, .u, .u, .u, .u]) 2 trivial rfl (fun s hs hP => ?_) (fun hP => ?_)
          · simp (disch := first | omega | (simp only [vl]; omega)) only [vcd]
            refine call_by (hk_i (K := K) (z := csR n) (n := k) (s := s) (by omega)) rfl ?_
            cases hB : hkB (csR n) k s
            · simp (disch := first | omega | (simp only [vl]; omega)) only [vcd, hB]
            · have := hankC hn hk hs hB
              simp (disch := first | omega | (simp only [vl]; omega)) only [vcd, hB, this]
          · simp (disch := first | omega | (simp only [vl]; omega)) only [vcd]
        · simp (disch := first | omega | (simp only [vl]; omega)) only [vcd]
          refine call_by (k2) rfl ?_
          simp (disch := first | omega | (simp only [vl]; omega)) only [vcd]
          exact hG
    refine call_by (inv_i (K := K) (a := a) (by omega)) rfl ?_
    simp (disch := first | omega | (simp only [vl]; omega)) only [vcd]
    refine call_by (inv_s (K := K) (a := a) (by omega)) rfl ?_
    simp (disch := first | omega | (simp only [vl]; omega)) only [vcd]
    refine call_by (sameInts_t (K := K) (a := invR a) (by omega)) rfl ?_
    apply joinS
    · intro hG
      cases ho : invO a
      · simp (disch := first | omega | (simp only [vl]; omega)) only [vcd, ho]
        refine call_by (k3) rfl ?_
        simp (disch := first | omega | (simp only [vl]; omega)) only [vcd]
        exact hG
      · simp (disch := first | omega | (simp only [vl]; omega)) only [vcd, ho]
        refine call_by (mul_i (K := K) (a := a) (b := invR a) (by omega) (by omega)) rfl ?_
        cases hm : mulO a (invR a)
        · have hp : mulR a (invR a) = [] := by simp [mulR, hm]
          simp (disch := first | omega | (simp only [vl]; omega)) only [vcd, hp]
          refine loop_ix (fun i => True) (fun i => [LB code, .u, .u, .u, .u, .u, .u, .u, .u, .u, .u, .u, .u, .u, .u, .u, LI [], .b false, .n i, .u, .u, .u, .u, .u, .u, .u, .u, .u, .u, .u, .u, .u, .u, .u, .u, .u, .u, .u, .u, .u, .u, .u, .u, .u, .u, .u, .u, .u, .u, .u, .u, .u, .u, .u, .u, .u, .u, .u, .u, .u, .u, .u, .u, .u, .u, .u, .u, .u, .u, .u, .u, .u]) 0 trivial rfl (fun i hi hP => ?_) (fun hP => ?_)
          · omega
          · simp (disch := first | omega | (simp only [vl]; omega)) only [vcd]
            refine call_by (k3) rfl ?_
            simp (disch := first | omega | (simp only [vl]; omega)) only [vcd]
            exact hG
        · obtain ⟨p, hp⟩ : ∃ p, p = mulR a (invR a) := ⟨_, rfl⟩
          have hpe : p = timesF a (invR a) a.length := by rw [hp]; simp [mulR, hm]
          have hpl : p.length = a.length := by rw [hpe, timesF_len]
          have hpa : ∀ j : Nat, j < p.length → atI p j = if j = 0 then 1 else 0 := fun j hj => by rw [hpe]; exact inv_one ho (by omega)
          simp (disch := first | omega | (simp only [vl]; omega)) only [vcd, ← hp]
          refine loop_ix (fun i => True) (fun i => [LB code, .u, .u, .u, .u, .u, .u, .u, .u, .u, .u, .u, .u, .u, .u, .u, LI p, .b true, .n i, .u, .u, .u, .u, .u, .u, .u, .u, .u, .u, .u, .u, .u, .u, .u, .u, .u, .u, .u, .u, .u, .u, .u, .u, .u, .u, .u, .u, .u, .u, .u, .u, .u, .u, .u, .u, .u, .u, .u, .u, .u, .u, .u, .u, .u, .u, .u, .u, .u, .u, .u, .u, .u]) p.length trivial rfl (fun i hi hP => ?_) (fun hP => ?_)
          · have e := hpa i hi
            rcases Nat.eq_zero_or_pos i with q | q
            · subst q
              have e0 : atI p 0 = 1 := e
              simp (disch := first | omega | (simp only [vl]; omega)) only [vcd, e0]
            · rw [if_neg (by omega)] at e
              simp (disch := first | omega | (simp only [vl]; omega)) only [vcd, e]
          · simp (disch := first | omega | (simp only [vl]; omega)) only [vcd]
            refine call_by (k3) rfl ?_
            simp (disch := first | omega | (simp only [vl]; omega)) only [vcd]
            exact hG
    refine call_by (rv_i (K := K) (a := f) (by omega)) rfl ?_
    simp (disch := first | omega | (simp only [vl]; omega)) only [vcd]
    refine call_by (rv_s (K := K) (a := f) (by omega)) rfl ?_
    simp (disch := first | omega | (simp only [vl]; omega)) only [vcd]
    refine call_by (sameInts_t (K := K) (a := rvR f) (by omega)) rfl ?_
    apply joinS
    · intro hG
      cases ho : rvO f
      · simp (disch := first | omega | (simp only [vl]; omega)) only [vcd, ho, liI_c, consS_LI]
        exact hG
      · obtain ⟨q1, q2, q3, q4, q5⟩ := rvO_p ho
        have hR : rvR f = rvF f f.length := by simp [rvR, ho]
        obtain ⟨h, hh⟩ : ∃ h, h = rvR f := ⟨_, rfl⟩
        have hhl : h.length = f.length := by rw [hh, hR, rvF_len]
        have hG2 := rvB_G (a := f) q1 (m := f.length - 2) (Nat.le_refl _)
        have hut : timesF (unitL f.length) h f.length = h := unit_times (by omega) hhl (by rw [hh, hR]; exact hG2.2.2.1)
        have hone : ∀ i : Nat, i < f.length → sm f h f.length i f.length = if i = 1 then 1 else 0 := by
          intro i hi
          rw [hh, hR]
          exact rev_one ho hi
        have hul : (rep (f.length : Int) (0 : Int)).length = f.length := by simp [rep]
        have hu0 : seI (rep (f.length : Int) (0 : Int)) 0 1 = unitL f.length := rfl
        have hunl : (unitL f.length).length = f.length := by simp [unitL, seI, rep]
        simp (disch := first | omega | (simp only [vl]; omega)) only [vcd, ho, ← hh, LI_set0, hu0]
        refine loop_wh (fun (q : Nat × List Int × List Int × Bool) => q.1 ≤ f.length ∧ q.2.1.length = f.length ∧ (q.2.2.2 = true → q.2.2.1 = pws h f.length q.1 ∧ q.2.2.1.length = f.length ∧ ∀ j : Nat, j < f.length → atI q.2.1 j = sm f h f.length j q.1)) (fun q => [LB code, .u, .u, .u, .u, .u, .u, .u, .u, .u, .u, .u, .u, .u, .u, .u, .u, .u, .u, LI f, .u, .u, LI h, .u, LI q.2.1, LI q.2.2.1, .b q.2.2.2, .n q.1, .u, .u, .u, .u, .u, .u, .u, .u, .u, .u, .u, .u, .u, .u, .u, .u, .u, .u, .u, .u, .u, .u, .u, .u, .u, .u, .u, .u, .u, .u, .u, .u, .u, .u, .u, .u, .u, .u, .u, .u, .u, .u, .u, .u]) (fun q => f.length - q.1) (0, rep (f.length : Int) 0, unitL f.length, true) ⟨Nat.zero_le _, hul, fun _ => ⟨rfl, hunl, fun j hj => atI_rep⟩⟩ rfl ?_
        rintro ⟨k, s, p, b⟩ ⟨b1, b2, b3⟩
        simp only at b1 b2 b3 ⊢
        cases b
        · by_cases hk : k < f.length
          · simp (disch := first | omega | (simp only [vl]; omega)) only [vcd]
            refine loop_ix (fun i => True) (fun i => [LB code, .u, .u, .u, .u, .u, .u, .u, .u, .u, .u, .u, .u, .u, .u, .u, .u, .u, .u, LI f, .u, .u, .u, .u, LI s, .u, .b false, .u, .u, .n i, .u, .u, .u, .u, .u, .u, .u, .u, .u, .u, .u, .u, .u, .u, .u, .u, .u, .u, .u, .u, .u, .u, .u, .u, .u, .u, .u, .u, .u, .u, .u, .u, .u, .u, .u, .u, .u, .u, .u, .u, .u, .u]) 0 trivial rfl (fun i hi hP => ?_) (fun hP => ?_)
            · omega
            · simp (disch := first | omega | (simp only [vl]; omega)) only [vcd, liI_c, consS_LI]
              exact hG
          · simp (disch := first | omega | (simp only [vl]; omega)) only [vcd]
            refine loop_ix (fun i => True) (fun i => [LB code, .u, .u, .u, .u, .u, .u, .u, .u, .u, .u, .u, .u, .u, .u, .u, .u, .u, .u, LI f, .u, .u, .u, .u, LI s, .u, .b false, .u, .u, .n i, .u, .u, .u, .u, .u, .u, .u, .u, .u, .u, .u, .u, .u, .u, .u, .u, .u, .u, .u, .u, .u, .u, .u, .u, .u, .u, .u, .u, .u, .u, .u, .u, .u, .u, .u, .u, .u, .u, .u, .u, .u, .u]) 0 trivial rfl (fun i hi hP => ?_) (fun hP => ?_)
            · omega
            · simp (disch := first | omega | (simp only [vl]; omega)) only [vcd, liI_c, consS_LI]
              exact hG
        · obtain ⟨c1, c2, c3⟩ := b3 rfl
          by_cases hk : k < f.length
          · simp (disch := first | omega | (simp only [vl]; omega)) only [vcd]
            refine loop_fold (smS f p k) (fun _ (o : List Int) => o.length = f.length) (fun i o => [LB code, .u, .u, .u, .u, .u, .u, .u, .u, .u, .u, .u, .u, .u, .u, .u, .u, .u, .u, LI f, .u, .u, LI h, .u, LI o, LI p, .u, .n k, .n i, .u, .u, .u, .u, .u, .u, .u, .u, .u, .u, .u, .u, .u, .u, .u, .u, .u, .u, .u, .u, .u, .u, .u, .u, .u, .u, .u, .u, .u, .u, .u, .u, .u, .u, .u, .u, .u, .u, .u, .u, .u, .u, .u]) f.length s b2 rfl (fun i o _ q => by rw [smS_len, q]) (fun i o hi q _ => ?_) (fun o ho1 ho2 => ?_)
            · simp (disch := first | omega | (simp only [vl]; omega)) only [vcd, smS]
            · have hpl : p.length ≤ 1048576 := by omega
              simp (disch := first | omega | (simp only [vl]; omega)) only [vcd]
              refine call_by (mul_s (K := K) (a := p) (b := h) hpl (by omega)) rfl ?_
              simp (disch := first | omega | (simp only [vl]; omega)) only [vcd]
              refine ⟨(k + 1, o, mulR p h, mulO p h), by show f.length - (k + 1) < f.length - k; omega, ⟨hk, ho2, fun hm => ?_⟩, rfl⟩
              have e1 : mulR p h = timesF p h f.length := by
                simp only at hm
                simp only [mulR, hm, if_true, c2]
              have e2 : mulR p h = pws h f.length (k + 1) := by
                rw [e1, c1]
                cases k with
                | zero => exact hut
                | succ k => rfl
              refine ⟨e2, by simp only [e1, timesF_len], fun j hj => ?_⟩
              simp only
              rw [ho1, smS_at (n := 0) (by omega), if_pos hj, c3 j hj, c1]
              rfl
          · obtain rfl : k = f.length := by omega
            simp (disch := first | omega | (simp only [vl]; omega)) only [vcd]
            refine loop_ix (fun i => True) (fun i => [LB code, .u, .u, .u, .u, .u, .u, .u, .u, .u, .u, .u, .u, .u, .u, .u, .u, .u, .u, LI f, .u, .u, .u, .u, LI s, .u, .b true, .u, .u, .n i, .u, .u, .u, .u, .u, .u, .u, .u, .u, .u, .u, .u, .u, .u, .u, .u, .u, .u, .u, .u, .u, .u, .u, .u, .u, .u, .u, .u, .u, .u, .u, .u, .u, .u, .u, .u, .u, .u, .u, .u, .u, .u]) f.length trivial rfl (fun i hi hP => ?_) (fun hP => ?_)
            · have e := c3 i hi
              rw [hone i hi] at e
              by_cases q : i = 1
              · rw [if_pos q] at e
                have q2 : ((i : Int) = 1) ↔ True := by simp; omega
                simp (disch := first | omega | (simp only [vl]; omega)) only [vcd, e, q2]
              · rw [if_neg q] at e
                have q2 : ¬ (i : Int) = 1 := by omega
                simp (disch := first | omega | (simp only [vl]; omega)) only [vcd, e, q2]
            · simp (disch := first | omega | (simp only [vl]; omega)) only [vcd, liI_c, consS_LI]
              exact hG
    refine call_by (rv_i (K := K) (a := [0, 1, -1, 0, 0, 0, 0]) (by simp)) rfl ?_
    obtain ⟨r, hr, hr1, hr2⟩ := line_r
    simp (disch := first | omega | (simp only [vl]; omega)) only [vcd, lineC.1, hr]
    refine loop_ix (fun i => True) (fun i => [LB code, .u, .u, .u, .u, .u, .u, .u, .u, .u, .u, .u, .u, .u, .u, .u, .u, .u, .u, .u, .u, .u, .u, .u, .u, .u, .u, .u, .u, .u, .u, LI r, .u, .n ((i : Int) + 1), .u, .u, .u, .u, .u, .u, .u, .u, .u, .u, .u, .u, .u, .u, .u, .u, .u, .u, .u, .u, .u, .u, .u, .u, .u, .u, .u, .u, .u, .u, .u, .u, .u, .u, .u, .u, .u, .u]) 6 trivial rfl (fun i hi hP => ?_) (fun hP => ?_)
    · have e := hr2 i hi
      simp (disch := first | omega | (simp only [vl]; omega)) only [vcd, Int.add_sub_cancel]
      refine call_by (cat_s (K := K) (n := i) (by omega)) rfl ?_
      simp (disch := first | omega | (simp only [vl]; omega)) only [vcd, e]
    · simp (disch := first | omega | (simp only [vl]; omega)) only [vcd]
      refine call_by (k4) rfl ?_
      simp (disch := first | omega | (simp only [vl]; omega)) only [vcd]
      refine call_by (mul_i (K := K) (a := x) (b := y) (by omega) (by omega)) rfl ?_
      simp (disch := first | omega | (simp only [vl]; omega)) only [vcd]
      refine call_by (mul_s (K := K) (a := x) (b := y) (by omega) (by omega)) rfl ?_
      simp (disch := first | omega | (simp only [vl]; omega)) only [vcd]
      refine call_by (k5) rfl ?_
      simp (disch := first | omega | (simp only [vl]; omega)) only [vcd]
      refine call_by (hk_i (K := K) (z := z) (n := zn) (s := zs) (by omega)) rfl ?_
      simp (disch := first | omega | (simp only [vl]; omega)) only [vcd]
      refine call_by (hk_s (K := K) (z := z) (n := zn) (s := zs) (by omega)) rfl ?_
      simp (disch := first | omega | (simp only [vl]; omega)) only [vcd]
      refine call_by (k6) rfl ?_
      simp (disch := first | omega | (simp only [vl]; omega)) only [vcd]
      refine call_by (bt_i (K := K) (a := t) (by omega)) rfl ?_
      simp (disch := first | omega | (simp only [vl]; omega)) only [vcd]
      refine call_by (bt_s (K := K) (a := t) (by omega)) rfl ?_
      simp (disch := first | omega | (simp only [vl]; omega)) only [vcd]
      refine call_by (k7) rfl ?_
      simp (disch := first | omega | (simp only [vl]; omega)) only [vcd]
      refine call_by (sameInts_t (K := K) (a := mulR x y) (by omega)) rfl ?_
      simp (disch := first | omega | (simp only [vl]; omega)) only [vcd]
      refine call_by (sameInts_t (K := K) (a := binR t) (by omega)) rfl ?_
      simp (disch := first | omega | (simp only [vl]; omega)) only [vcd]
      refine call_by (sat_i (K := K) (a := w) (by omega)) rfl ?_
      simp (disch := first | omega | (simp only [vl]; omega)) only [vcd]
      refine call_by (sat_s (K := K) (a := w) (by omega)) rfl ?_
      simp (disch := first | omega | (simp only [vl]; omega)) only [vcd]
  · simp (disch := first | omega | (simp only [vl]; omega)) only [vcd]
    refine call_by (bigS_ok (K := K)) rfl ?_
    simp (disch := first | omega | (simp only [vl]; omega)) only [vcd]
end Go.Cat

