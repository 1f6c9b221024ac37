/-
  Drawn permutations.
-/
import Derived.Test.YthbpihoafdpicaaPfMWalk
namespace Go.Cat
variable {K : Nat → List D → List D → Prop}
set_option maxRecDepth 100000

theorem joinD {P G : Prop} (f : G → P) (g : G) : P := f g

/-- The permutation of a path: no more is told than its length. -/
theorem permOf_ok [Has K 64 ir_spec_IsDyck] [Has K 325 ir_spec_PermutationOf] {w : List Nat} (h : w.length ≤ 1000) : ∃ rs, (∃ x b, rs = [LI x, .b b] ∧ 2 * x.length ≤ w.length) ∧ K 325 [.s w] rs := by
  refine body_ex (f := ir_spec_PermutationOf) rfl ?_; simp only [ir_spec_PermutationOf]
  simp (disch := first | omega | (simp only [vl]; omega)) only [vcd, LI_nilM]
  refine call_by (dyck_s (K := K) (w := w) (by omega)) rfl ?_
  cases hd : dyck w
  · simp (disch := first | omega | (simp only [vl]; omega)) only [vcd, LI_nilM]
    exact ⟨_, _, rfl, by simp⟩
  · have hw := (dyck_walk hd).1
    have hn := dyck_len hd
    simp (disch := first | omega | (simp only [vl]; omega)) only [vcd, LI_nilM]
    refine loop_up (fun i (x : List Int × List Int × Nat × Int) => x.1.length = w.length / 2 ∧ (∀ y ∈ x.2.1, 0 ≤ y ∧ y < x.2.2.1) ∧ x.2.2.1 + cnt (w.drop i) 117 = w.length / 2 ∧ walkH (w.drop i) x.2.1.length = some 0 ∧ (0 ≤ x.2.2.2 ∧ x.2.2.2 ≤ i) ∧ x.2.1.length ≤ i) (fun i x => [.s w, .u, .u, LI x.1, LI x.2.1.reverse, .n x.2.2.1, .n x.2.2.2, .n i, .u, .u, .u]) w.length (rep ((w.length : Int) / 2) 0, [], 0, 0) ⟨by simp [rep]; omega, by simp, by simp; omega, by simpa using hw, by simp, by simp⟩ rfl (fun i x hi hP => ?_) (fun x hP => ?_)
    · obtain ⟨o, st, n, k⟩ := x
      obtain ⟨g1, g2, g3, g4, g5, g6⟩ := hP
      simp only at g1 g2 g3 g4 g5 g6
      rw [dropB hi] at g3 g4
      rw [cnt_cons] at g3
      simp only [walkH] at g4
      by_cases hc : atB w i = 117
      · rw [if_pos hc] at g3 g4
        simp (disch := first | omega | (simp only [vl]; omega)) only [vcd, hc]
        refine ⟨(o, n :: st, n + 1, k), ⟨g1, ?_, by simp only; omega, ?_, by simp only; omega, by simp; omega⟩, by simp⟩
        · intro y hy
          rcases List.mem_cons.1 hy with rfl | hy
          · simp only; omega
          · have := g2 y hy
            simp only; omega
        · simp only [List.length_cons]
          rw [← g4]; congr 1
      · rw [if_neg hc] at g3 g4
        by_cases hc1 : atB w i = 100
        · rw [if_pos hc1] at g4
          cases st with
          | nil => simp at g4
          | cons y t =>
            have hy := g2 y (List.mem_cons_self ..)
            have hl : t.reverse.length = t.length := by simp
            have e1 : atI (t.reverse ++ [y]) t.length = y := by rw [← hl]; exact at_last
            have e2 : sub (t.reverse ++ [y]) 0 t.length = t.reverse := by rw [← hl]; exact sub_init
            have e3 : (((t.reverse ++ [y]).length : Nat) : Int) = (t.length : Int) + 1 := by simp
            simp only [List.reverse_cons]
            simp only [List.length_cons] at g4 g6
            rw [if_neg (by omega)] at g4
            simp (disch := first | omega | (simp only [vl]; omega)) only [vcd, hc1, e3, e1, e2, Int.add_sub_cancel]
            refine ⟨(seI o y k, t, n, k + 1), ⟨by simp only [seI_len]; exact g1, fun z hz => g2 z (List.mem_cons_of_mem _ hz), by simp only; omega, ?_, by simp only; omega, by simp only; omega⟩, by simp⟩
            rw [← g4]; congr 1; simp only; omega
        · rw [if_neg hc1] at g4
          cases g4
    · obtain ⟨o, st, n, k⟩ := x
      obtain ⟨g1, _⟩ := hP
      simp (disch := first | omega | (simp only [vl]; omega)) only [vcd]
      exact ⟨_, _, rfl, by simp only at g1; omega⟩

theorem pickM_ok [Has K 289 ir_spec_l1Below] [Has K 313 ir_spec_l1PickInt] [Has K 316 ir_spec_l1Byte] {d : D} (hd : Cur d) {l : List Int} (h0 : 0 < l.length) (hl : l.length ≤ 1000000) : ∃ rs, (∃ x d', rs = [.n x, d'] ∧ Cur d') ∧ K 313 [d, LI l] rs := by
  refine body_ex (f := ir_spec_l1PickInt) rfl ?_; simp only [ir_spec_l1PickInt]
  obtain ⟨_, ⟨x1, d1, rfl, hx1, hd1⟩, k1⟩ := l1Below_ok (K := K) hd (n := l.length)
  have := hx1.2 (by omega)
  simp (disch := first | omega | (simp only [vl]; omega)) only [vcd]
  refine call_by (k1) rfl ?_
  simp (disch := first | omega | (simp only [vl]; omega)) only [vcd]
  exact ⟨_, _, rfl, hd1⟩

theorem LI_setM {zs : List Int} {x : Int} (h : 0 < zs.length) : setP [0] (LI zs) (.n x) = some (LI (seI zs 0 x)) := LI_set (i := 0) (by omega)

theorem l10Any_ok [Has K 64 ir_spec_IsDyck] [Has K 289 ir_spec_l1Below] [Has K 305 ir_spec_l10Any] [Has K 306 ir_spec_l2Draw] [Has K 307 ir_spec_l1Once] [Has K 313 ir_spec_l1PickInt] [Has K 316 ir_spec_l1Byte] [Has K 317 ir_spec_l2Path] [Has K 325 ir_spec_PermutationOf] {d : D} (hd : Cur d) : ∃ rs, (∃ x d', rs = [LI x, d'] ∧ x.length ≤ 6 ∧ Cur d') ∧ K 305 [d] rs := by
  refine body_ex (f := ir_spec_l10Any) rfl ?_; simp only [ir_spec_l10Any]
  obtain ⟨_, ⟨w, d1, rfl, hw, hd1⟩, k1⟩ := l2Path_ok (K := K) hd
  obtain ⟨_, ⟨p0, b0, rfl, hp0⟩, k2⟩ := permOf_ok (K := K) (w := w) (by omega)
  obtain ⟨_, ⟨b1, d2, rfl, hd2⟩, k3⟩ := l1Once_ok (K := K) hd1 (n := 3)
  simp (disch := first | omega | (simp only [vl]; omega)) only [vcd, LI_nilM]
  refine call_by (k1) rfl ?_
  simp (disch := first | omega | (simp only [vl]; omega)) only [vcd]
  refine call_by (k2) rfl ?_
  simp (disch := first | omega | (simp only [vl]; omega)) only [vcd]
  refine call_by (k3) rfl ?_
  have hfin : ∀ {d : D} {p : List Int}, Cur d → p.length ≤ 6 → ∃ (b : Bool) (d' : D) (y : Int) (d'' : D), Cur d' ∧ Cur d'' ∧ K 307 [d, .n 12] [.b b, d'] ∧ K 313 [d', LI [-1, 0, 1, 9223372036854775807]] [.n y, d''] := by
    intro d p hd hp
    obtain ⟨_, ⟨b, d', rfl, hd'⟩, k⟩ := l1Once_ok (K := K) hd (n := 12)
    obtain ⟨_, ⟨y, d'', rfl, hd''⟩, k'⟩ := pickM_ok (K := K) hd' (l := [-1, 0, 1, 9223372036854775807]) (by simp) (by simp)
    exact ⟨b, d', y, d'', hd', hd'', k, k'⟩
  have hp06 : p0.length ≤ 6 := by omega
  cases b1
  · simp (disch := first | omega | (simp only [vl]; omega)) only [vcd]
    obtain ⟨b, e1, y, e2, h1, h2, k5, k6⟩ := hfin (p := p0) hd2 hp06
    by_cases h0 : 0 < (p0).length
    · simp (disch := first | omega | (simp only [vl]; omega)) only [vcd]
      refine call_by (k5) rfl ?_
      cases b
      · simp (disch := first | omega | (simp only [vl]; omega)) only [vcd]
        exact ⟨_, _, rfl, hp06, h1⟩
      · simp (disch := first | omega | (simp only [vl]; omega)) only [vcd, liI_c, consS_LI]
        refine call_by (k6) rfl ?_
        simp (disch := first | omega | (simp only [vl]; omega)) only [vcd, LI_setM]
        exact ⟨_, _, rfl, by simp only [seI_len]; exact hp06, h2⟩
    · simp (disch := first | omega | (simp only [vl]; omega)) only [vcd]
      exact ⟨_, _, rfl, hp06, hd2⟩
  · obtain ⟨_, ⟨r0, d3, rfl, hr0, hd3⟩, k4⟩ := l1Below_ok (K := K) hd2 (n := 7)
    have hr0 := hr0.2 (by omega)
    simp (disch := first | omega | (simp only [vl]; omega)) only [vcd, LI_nilM]
    refine call_by (k4) rfl ?_
    simp (disch := first | omega | (simp only [vl]; omega)) only [vcd]
    refine loop_wh (fun (q : D × List Int × Int) => Cur q.1 ∧ 0 ≤ q.2.2 ∧ (q.2.1.length : Int) + q.2.2 ≤ 6) (fun q => [q.1, .u, LI q.2.1, .n q.2.2, .u, .u, .u, .u, .u]) (fun q => q.2.2.toNat) (d3, [], r0) ⟨hd3, by simp; omega, by simp; omega⟩ rfl ?_
    rintro ⟨d4, p, r⟩ ⟨hd4, hr, hx⟩
    simp only at hd4 hr hx ⊢
    have hp6 : p.length ≤ 6 := by omega
    by_cases hr0 : 0 < r
    · obtain ⟨_, ⟨k, d5, rfl, hk, hd5⟩, k7⟩ := l1Below_ok (K := K) hd4 (n := (p.length : Int) + 1)
      have hk := hk.2 (by omega)
      have l1 : (sub p 0 k).length ≤ k.toNat := by simp [sub]; omega
      have l2 : (sub p k p.length).length = p.length - k.toNat := by simp [sub]
      simp (disch := first | omega | (simp only [vl]; omega)) only [vcd, LI_nilM]
      refine call_by (k7) rfl ?_
      simp (disch := first | omega | (simp only [vl]; omega)) only [vcd, LI_nilM]
      refine ⟨(d5, sub p 0 k ++ [(p.length : Int)] ++ sub p k p.length, r - 1), by show (r - 1).toNat < r.toNat; omega, ⟨hd5, by simp only; omega, ?_⟩, by simp⟩
      simp only [List.length_append, List.length_singleton]
      omega
    · simp (disch := first | omega | (simp only [vl]; omega)) only [vcd]
      obtain ⟨b, e1, y, e2, h1, h2, k5, k6⟩ := hfin (p := p) hd4 hp6
      by_cases h0 : 0 < (p).length
      · simp (disch := first | omega | (simp only [vl]; omega)) only [vcd]
        refine call_by (k5) rfl ?_
        cases b
        · simp (disch := first | omega | (simp only [vl]; omega)) only [vcd]
          exact ⟨_, _, rfl, hp6, h1⟩
        · simp (disch := first | omega | (simp only [vl]; omega)) only [vcd, liI_c, consS_LI]
          refine call_by (k6) rfl ?_
          simp (disch := first | omega | (simp only [vl]; omega)) only [vcd, LI_setM]
          exact ⟨_, _, rfl, by simp only [seI_len]; exact hp6, h2⟩
      · simp (disch := first | omega | (simp only [vl]; omega)) only [vcd]
        exact ⟨_, _, rfl, hp6, hd4⟩

theorem DrawSortOnce_ok [Has K 64 ir_spec_IsDyck] [Has K 238 ir_spec_DrawSortOnce] [Has K 288 ir_spec_l1New] [Has K 289 ir_spec_l1Below] [Has K 305 ir_spec_l10Any] [Has K 306 ir_spec_l2Draw] [Has K 307 ir_spec_l1Once] [Has K 313 ir_spec_l1PickInt] [Has K 316 ir_spec_l1Byte] [Has K 317 ir_spec_l2Path] [Has K 325 ir_spec_PermutationOf] {code : List Nat} (h : code.length ≤ 1048576) : ∃ rs, (∃ x, rs = [LI x] ∧ x.length ≤ 6) ∧ K 238 [LB code] rs := by
  refine body_ex (f := ir_spec_DrawSortOnce) rfl ?_; simp only [ir_spec_DrawSortOnce]
  obtain ⟨_, ⟨d, rfl, hd⟩, k1⟩ := l1New_ok (K := K) h
  obtain ⟨_, ⟨x, d1, rfl, hx, hd1⟩, k2⟩ := l10Any_ok (K := K) hd
  simp (disch := first | omega | (simp only [vl]; omega)) only [vcd]
  refine call_by (k1) rfl ?_
  simp (disch := first | omega | (simp only [vl]; omega)) only [vcd]
  refine call_by (k2) rfl ?_
  simp (disch := first | omega | (simp only [vl]; omega)) only [vcd]
  exact ⟨_, rfl, hx⟩
theorem DrawPatternOf231_ok [Has K 64 ir_spec_IsDyck] [Has K 241 ir_spec_DrawPatternOf231] [Has K 288 ir_spec_l1New] [Has K 289 ir_spec_l1Below] [Has K 305 ir_spec_l10Any] [Has K 306 ir_spec_l2Draw] [Has K 307 ir_spec_l1Once] [Has K 313 ir_spec_l1PickInt] [Has K 316 ir_spec_l1Byte] [Has K 317 ir_spec_l2Path] [Has K 325 ir_spec_PermutationOf] {code : List Nat} (h : code.length ≤ 1048576) : ∃ rs, (∃ x, rs = [LI x] ∧ x.length ≤ 6) ∧ K 241 [LB code] rs := by
  refine body_ex (f := ir_spec_DrawPatternOf231) rfl ?_; simp only [ir_spec_DrawPatternOf231]
  obtain ⟨_, ⟨d, rfl, hd⟩, k1⟩ := l1New_ok (K := K) h
  obtain ⟨_, ⟨x, d1, rfl, hx, hd1⟩, k2⟩ := l10Any_ok (K := K) hd
  simp (disch := first | omega | (simp only [vl]; omega)) only [vcd]
  refine call_by (k1) rfl ?_
  simp (disch := first | omega | (simp only [vl]; omega)) only [vcd]
  refine call_by (k2) rfl ?_
  simp (disch := first | omega | (simp only [vl]; omega)) only [vcd]
  exact ⟨_, rfl, hx⟩
theorem DrawBubbleOnce_ok [Has K 64 ir_spec_IsDyck] [Has K 242 ir_spec_DrawBubbleOnce] [Has K 288 ir_spec_l1New] [Has K 289 ir_spec_l1Below] [Has K 305 ir_spec_l10Any] [Has K 306 ir_spec_l2Draw] [Has K 307 ir_spec_l1Once] [Has K 313 ir_spec_l1PickInt] [Has K 316 ir_spec_l1Byte] [Has K 317 ir_spec_l2Path] [Has K 325 ir_spec_PermutationOf] {code : List Nat} (h : code.length ≤ 1048576) : ∃ rs, (∃ x, rs = [LI x] ∧ x.length ≤ 6) ∧ K 242 [LB code] rs := by
  refine body_ex (f := ir_spec_DrawBubbleOnce) rfl ?_; simp only [ir_spec_DrawBubbleOnce]
  obtain ⟨_, ⟨d, rfl, hd⟩, k1⟩ := l1New_ok (K := K) h
  obtain ⟨_, ⟨x, d1, rfl, hx, hd1⟩, k2⟩ := l10Any_ok (K := K) hd
  simp (disch := first | omega | (simp only [vl]; omega)) only [vcd]
  refine call_by (k1) rfl ?_
  simp (disch := first | omega | (simp only [vl]; omega)) only [vcd]
  refine call_by (k2) rfl ?_
  simp (disch := first | omega | (simp only [vl]; omega)) only [vcd]
  exact ⟨_, rfl, hx⟩
theorem DrawCountSortable_ok [Has K 244 ir_spec_DrawCountSortable] [Has K 288 ir_spec_l1New] [Has K 289 ir_spec_l1Below] [Has K 316 ir_spec_l1Byte] {code : List Nat} (h : code.length ≤ 1048576) : ∃ rs, (∃ x y, rs = [.n x, .n y] ∧ (0 ≤ x ∧ x ≤ 6) ∧ -1 ≤ y ∧ y ≤ 5) ∧ K 244 [LB code] rs := by
  refine body_ex (f := ir_spec_DrawCountSortable) rfl ?_; simp only [ir_spec_DrawCountSortable]
  obtain ⟨_, ⟨d, rfl, hd⟩, k1⟩ := l1New_ok (K := K) h
  obtain ⟨_, ⟨x, d1, rfl, hx, hd1⟩, k2⟩ := l1Below_ok (K := K) hd (n := 7)
  have hx := hx.2 (by omega)
  obtain ⟨_, ⟨y, d2, rfl, hy, hd2⟩, k3⟩ := l1Below_ok (K := K) hd1 (n := 7)
  have hy := hy.2 (by omega)
  simp (disch := first | omega | (simp only [vl]; omega)) only [vcd]
  refine call_by (k1) rfl ?_
  simp (disch := first | omega | (simp only [vl]; omega)) only [vcd]
  refine call_by (k2) rfl ?_
  simp (disch := first | omega | (simp only [vl]; omega)) only [vcd]
  refine call_by (k3) rfl ?_
  simp (disch := first | omega | (simp only [vl]; omega)) only [vcd]
  exact ⟨_, _, rfl, by omega, by omega, by omega⟩
theorem pathT_len : ∀ {p st : List Int} {n : Int}, (pathT p st n).length ≤ 2 * p.length + st.length := by
  have pop : ∀ (st : List Int) (n : Int), (popN st n).1.length + (popN st n).2.1.length = st.length := by
    intro st
    induction st with
    | nil => intro n; rfl
    | cons y st ih =>
      intro n
      unfold popN
      split
      · have := ih (n + 1); simp only [List.length_cons]; omega
      · simp
  intro p
  induction p with
  | nil => intro st n; simp [pathT]
  | cons x p ih =>
    intro st n
    have h1 := pop (x :: st) n
    have h2 := ih (st := (popN (x :: st) n).2.1) (n := (popN (x :: st) n).2.2)
    simp only [pathT, List.length_cons, List.length_append] at h1 ⊢
    omega
theorem pathRR_len {p : List Int} : (pathRR p).length ≤ 2 * p.length := by
  unfold pathRR; split
  · simpa using pathT_len (p := p) (st := []) (n := 0)
  · simp
theorem DrawOutputOf_ok [Has K 22 ir_spec_l1In] [Has K 64 ir_spec_IsDyck] [Has K 73 ir_spec_IsPermutation] [Has K 156 ir_spec_PathOfPermutation] [Has K 186 ir_spec_Contains231] [Has K 240 ir_spec_DrawOutputOf] [Has K 288 ir_spec_l1New] [Has K 289 ir_spec_l1Below] [Has K 305 ir_spec_l10Any] [Has K 306 ir_spec_l2Draw] [Has K 307 ir_spec_l1Once] [Has K 313 ir_spec_l1PickInt] [Has K 316 ir_spec_l1Byte] [Has K 317 ir_spec_l2Path] [Has K 325 ir_spec_PermutationOf] {code : List Nat} (h : code.length ≤ 1048576) : ∃ rs, (∃ w x, rs = [.s w, LI x] ∧ w.length ≤ 12 ∧ x.length ≤ 6) ∧ K 240 [LB code] rs := by
  refine body_ex (f := ir_spec_DrawOutputOf) rfl ?_; simp only [ir_spec_DrawOutputOf]
  obtain ⟨_, ⟨d, rfl, hd⟩, k1⟩ := l1New_ok (K := K) h
  obtain ⟨_, ⟨x, d1, rfl, hx, hd1⟩, k2⟩ := l10Any_ok (K := K) hd
  obtain ⟨_, ⟨w, d2, rfl, hw, hd2⟩, k3⟩ := l2Draw_ok (K := K) hd1 (n := min (x.length : Int) 6) (by omega)
  obtain ⟨_, ⟨b, d3, rfl, hd3⟩, k4⟩ := l1Once_ok (K := K) hd2 (n := 2)
  have hl := pathRR_len (p := x)
  simp (disch := first | omega | (simp only [vl]; omega)) only [vcd]
  refine call_by (k1) rfl ?_
  simp (disch := first | omega | (simp only [vl]; omega)) only [vcd]
  refine call_by (k2) rfl ?_
  simp (disch := first | omega | (simp only [vl]; omega)) only [vcd]
  refine call_by (k3) rfl ?_
  simp (disch := first | omega | (simp only [vl]; omega)) only [vcd]
  refine call_by (path_s (K := K) (p := x) (by omega)) rfl ?_
  cases ho : pathO x
  · simp (disch := first | omega | (simp only [vl]; omega)) only [vcd]
    exact ⟨_, _, rfl, by omega, hx⟩
  · simp (disch := first | omega | (simp only [vl]; omega)) only [vcd]
    refine call_by (k4) rfl ?_
    cases b
    · simp (disch := first | omega | (simp only [vl]; omega)) only [vcd]
      exact ⟨_, _, rfl, by omega, hx⟩
    · simp (disch := first | omega | (simp only [vl]; omega)) only [vcd]
      exact ⟨_, _, rfl, by omega, hx⟩
end Go.Cat

