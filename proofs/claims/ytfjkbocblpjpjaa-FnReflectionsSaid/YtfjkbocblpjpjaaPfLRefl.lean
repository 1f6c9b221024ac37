/-
  Reflections: the law.
-/
import Derived.Test.YtfjkbocblpjpjaaPfRefB
import Derived.Test.YtfjkbocblpjpjaaPfDrawP
import Derived.Test.YtfjkbocblpjpjaaPfCount
import Derived.Test.YtfjkbocblpjpjaaPfAllP
import Derived.Test.YtfjkbocblpjpjaaPfLCi
import Derived.Test.YtfjkbocblpjpjaaIrAllA
namespace Go.Cat
variable {K : Nat → List D → List D → Prop}
set_option maxRecDepth 100000

/-- Two roads, one end. -/
theorem join {P G : Prop} (f : G → P) (g : G) : P := f g

theorem l29Any_ok [Has K 289 ir_spec_l1Below] [Has K 291 ir_spec_l29Any] [Has K 307 ir_spec_l1Once] [Has K 315 ir_spec_l1Spoil] [Has K 316 ir_spec_l1Byte] [Has K 327 ir_spec_l1Text] {d : D} (hd : Cur d) : ∃ rs, (∃ x d', rs = [.s x, d'] ∧ x.length ≤ 20 ∧ Cur d') ∧ K 291 [d] rs := by
  refine body_ex (f := ir_spec_l29Any) rfl ?_; simp only [ir_spec_l29Any]
  obtain ⟨_, ⟨n, d1, rfl, hn, hd1⟩, k1⟩ := l1Below_ok (K := K) hd (n := 7)
  have hn := hn.2 (by omega)
  simp (disch := first | omega | (simp only [vl]; omega)) only [vcd]
  refine call_by (k1) rfl ?_
  simp (disch := first | omega | (simp only [vl]; omega)) only [vcd]
  refine loop_wh (fun (q : D × List Nat × Int) => Cur q.1 ∧ (0 ≤ q.2.2 ∧ q.2.2 ≤ n) ∧ (q.2.1.length : Int) = 2 * q.2.2) (fun q => [q.1, .u, .s q.2.1, .n n, .n q.2.2, .u, .u, .u]) (fun q => (n - q.2.2).toNat) (d1, [], 0) ⟨hd1, by simp; omega, by simp⟩ rfl ?_
  rintro ⟨d2, x, i⟩ ⟨hd2, hi, hx⟩
  simp only at hd2 hi hx ⊢
  by_cases h0 : i < n
  · obtain ⟨_, ⟨k, d3, rfl, hk, hd3⟩, k2⟩ := l1Below_ok (K := K) hd2 (n := (x.length : Int) + 1)
    have hk := hk.2 (by omega)
    obtain ⟨y, hy⟩ : ∃ y, y = (sub x 0 k ++ [117]) ++ sub x k x.length := ⟨_, rfl⟩
    have hyl : y.length = x.length + 1 := by rw [hy]; simp only [List.length_append, vl, List.length_cons, List.length_nil]; omega
    obtain ⟨_, ⟨j, d4, rfl, hj, hd4⟩, k3⟩ := l1Below_ok (K := K) hd3 (n := (y.length : Int) + 1)
    have hj := hj.2 (by omega)
    simp (disch := first | omega | (simp only [vl]; omega)) only [vcd]
    refine call_by (k2) rfl ?_
    simp (disch := first | omega | (simp only [vl]; omega)) only [vcd, ← hy]
    refine call_by (k3) rfl ?_
    simp (disch := first | omega | (simp only [vl]; omega)) only [vcd]
    refine ⟨(d4, (sub y 0 j ++ [100]) ++ sub y j y.length, i + 1), by show (n - (i + 1)).toNat < (n - i).toNat; omega, ⟨hd4, by simp only []; omega, ?_⟩, rfl⟩
    simp only [List.length_append, vl, List.length_cons, List.length_nil]; omega
  · obtain ⟨_, ⟨b, d3, rfl, hd3⟩, k2⟩ := l1Once_ok (K := K) hd2 (n := 12)
    simp (disch := first | omega | (simp only [vl]; omega)) only [vcd]
    refine call_by (k2) rfl ?_
    cases b
    · simp (disch := first | omega | (simp only [vl]; omega)) only [vcd]
      exact ⟨_, _, rfl, by omega, hd3⟩
    · obtain ⟨_, ⟨y, d4, rfl, hy, hd4⟩, k3⟩ := l1Spoil_ok (K := K) hd3 (w := x) (by omega)
      simp (disch := first | omega | (simp only [vl]; omega)) only [vcd]
      refine call_by (k3) rfl ?_
      simp (disch := first | omega | (simp only [vl]; omega)) only [vcd]
      exact ⟨_, _, rfl, by omega, hd4⟩

theorem DrawReflectBad_ok [Has K 230 ir_spec_DrawReflectBad] [Has K 288 ir_spec_l1New] [Has K 289 ir_spec_l1Below] [Has K 291 ir_spec_l29Any] [Has K 307 ir_spec_l1Once] [Has K 315 ir_spec_l1Spoil] [Has K 316 ir_spec_l1Byte] [Has K 327 ir_spec_l1Text] {code : List Nat} (h : code.length ≤ 1048576) : ∃ rs, (∃ x, rs = [.s x] ∧ x.length ≤ 20) ∧ K 230 [LB code] rs := by
  refine body_ex (f := ir_spec_DrawReflectBad) rfl ?_; simp only [ir_spec_DrawReflectBad]
  obtain ⟨_, ⟨d, rfl, hd⟩, k1⟩ := l1New_ok (K := K) h
  obtain ⟨_, ⟨x, d1, rfl, hx, hd1⟩, k2⟩ := l29Any_ok (K := K) hd
  simp (disch := first | omega | (simp only [vl]; omega)) only [vcd]
  refine call_by (k1) rfl ?_
  simp (disch := first | omega | (simp only [vl]; omega)) only [vcd]
  refine call_by (k2) rfl ?_
  simp (disch := first | omega | (simp only [vl]; omega)) only [vcd]
  exact ⟨_, rfl, hx⟩

theorem DrawUnreflectWord_ok [Has K 39 ir_spec_IsBad] [Has K 63 ir_spec_l29Word] [Has K 64 ir_spec_IsDyck] [Has K 76 ir_spec_l29Flip] [Has K 107 ir_spec_ReflectBad] [Has K 231 ir_spec_DrawUnreflectWord] [Has K 288 ir_spec_l1New] [Has K 289 ir_spec_l1Below] [Has K 291 ir_spec_l29Any] [Has K 307 ir_spec_l1Once] [Has K 315 ir_spec_l1Spoil] [Has K 316 ir_spec_l1Byte] [Has K 327 ir_spec_l1Text] {code : List Nat} (h : code.length ≤ 1048576) : ∃ rs, (∃ x, rs = [.s x] ∧ x.length ≤ 20) ∧ K 231 [LB code] rs := by
  refine body_ex (f := ir_spec_DrawUnreflectWord) rfl ?_; simp only [ir_spec_DrawUnreflectWord]
  obtain ⟨_, ⟨d, rfl, hd⟩, k1⟩ := l1New_ok (K := K) h
  obtain ⟨_, ⟨x, d1, rfl, hx, hd1⟩, k2⟩ := l29Any_ok (K := K) hd
  simp (disch := first | omega | (simp only [vl]; omega)) only [vcd]
  refine call_by (k1) rfl ?_
  simp (disch := first | omega | (simp only [vl]; omega)) only [vcd]
  refine call_by (k2) rfl ?_
  simp (disch := first | omega | (simp only [vl]; omega)) only [vcd]
  refine call_by (rb_s (K := K) (w := x) (by omega)) rfl ?_
  cases hb : badF x
  · simp (disch := first | omega | (simp only [vl]; omega)) only [vcd, hb]
    exact ⟨_, rfl, hx⟩
  · simp (disch := first | omega | (simp only [vl]; omega)) only [vcd, hb]
    refine ⟨_, rfl, ?_⟩
    simp only [rbR, hb, if_true, refl_len]
    exact hx

theorem l29Numbers_ok [Has K 288 ir_spec_l1New] [Has K 289 ir_spec_l1Below] [Has K 304 ir_spec_l29Numbers] [Has K 316 ir_spec_l1Byte] {code : List Nat} (h : code.length ≤ 1048576) : ∃ rs, (∃ a b, rs = [.n a, .n b]) ∧ K 304 [LB code] rs := by
  refine body_ex (f := ir_spec_l29Numbers) rfl ?_; simp only [ir_spec_l29Numbers]
  obtain ⟨_, ⟨d, rfl, hd⟩, k1⟩ := l1New_ok (K := K) h
  obtain ⟨_, ⟨x, d1, rfl, hx, hd1⟩, k2⟩ := l1Below_ok (K := K) hd (n := 17)
  have hx := hx.2 (by omega)
  obtain ⟨_, ⟨y, d2, rfl, hy, hd2⟩, k3⟩ := l1Below_ok (K := K) hd1 (n := 17)
  simp (disch := first | omega | (simp only [vl]; omega)) only [vcd]
  refine call_by (k1) rfl ?_
  simp (disch := first | omega | (simp only [vl]; omega)) only [vcd]
  refine call_by (k2) rfl ?_
  simp (disch := first | omega | (simp only [vl]; omega)) only [vcd]
  refine call_by (k3) rfl ?_
  simp (disch := first | omega | (simp only [vl]; omega)) only [vcd]
  exact ⟨_, _, rfl⟩

theorem DrawCountWords_ok [Has K 236 ir_spec_DrawCountWords] [Has K 288 ir_spec_l1New] [Has K 289 ir_spec_l1Below] [Has K 304 ir_spec_l29Numbers] [Has K 316 ir_spec_l1Byte] {code : List Nat} (h : code.length ≤ 1048576) : ∃ rs, (∃ a b, rs = [.n a, .n b]) ∧ K 236 [LB code] rs := by
  refine body_ex (f := ir_spec_DrawCountWords) rfl ?_; simp only [ir_spec_DrawCountWords]
  obtain ⟨_, ⟨a, b, rfl⟩, k1⟩ := l29Numbers_ok (K := K) h
  simp (disch := first | omega | (simp only [vl]; omega)) only [vcd]
  refine call_by (k1) rfl ?_
  simp (disch := first | omega | (simp only [vl]; omega)) only [vcd]
  exact ⟨_, _, rfl⟩

theorem DrawBallotByReflection_ok [Has K 237 ir_spec_DrawBallotByReflection] [Has K 288 ir_spec_l1New] [Has K 289 ir_spec_l1Below] [Has K 304 ir_spec_l29Numbers] [Has K 316 ir_spec_l1Byte] {code : List Nat} (h : code.length ≤ 1048576) : ∃ rs, (∃ a b, rs = [.n a, .n b]) ∧ K 237 [LB code] rs := by
  refine body_ex (f := ir_spec_DrawBallotByReflection) rfl ?_; simp only [ir_spec_DrawBallotByReflection]
  obtain ⟨_, ⟨a, b, rfl⟩, k1⟩ := l29Numbers_ok (K := K) h
  simp (disch := first | omega | (simp only [vl]; omega)) only [vcd]
  refine call_by (k1) rfl ?_
  simp (disch := first | omega | (simp only [vl]; omega)) only [vcd]
  exact ⟨_, _, rfl⟩

theorem DrawCountBad_ok [Has K 232 ir_spec_DrawCountBad] [Has K 288 ir_spec_l1New] [Has K 289 ir_spec_l1Below] [Has K 316 ir_spec_l1Byte] {code : List Nat} (h : code.length ≤ 1048576) : ∃ rs, (∃ a, rs = [.n a] ∧ (-1 ≤ a ∧ a ≤ 15)) ∧ K 232 [LB code] rs := by
  refine body_ex (f := ir_spec_DrawCountBad) rfl ?_; simp only [ir_spec_DrawCountBad]
  obtain ⟨_, ⟨d, rfl, hd⟩, k1⟩ := l1New_ok (K := K) h
  obtain ⟨_, ⟨x, d1, rfl, hx, hd1⟩, k2⟩ := l1Below_ok (K := K) hd (n := 17)
  have hx := hx.2 (by omega)
  simp (disch := first | omega | (simp only [vl]; omega)) only [vcd]
  refine call_by (k1) rfl ?_
  simp (disch := first | omega | (simp only [vl]; omega)) only [vcd]
  refine call_by (k2) rfl ?_
  simp (disch := first | omega | (simp only [vl]; omega)) only [vcd]
  exact ⟨_, rfl, by omega⟩

theorem DrawCountWithin_ok [Has K 233 ir_spec_DrawCountWithin] [Has K 288 ir_spec_l1New] [Has K 289 ir_spec_l1Below] [Has K 316 ir_spec_l1Byte] {code : List Nat} (h : code.length ≤ 1048576) : ∃ rs, (∃ a b, rs = [.n a, .n b] ∧ (0 ≤ a ∧ a ≤ 15) ∧ (-1 ≤ b ∧ b ≤ 7)) ∧ K 233 [LB code] rs := by
  refine body_ex (f := ir_spec_DrawCountWithin) rfl ?_; simp only [ir_spec_DrawCountWithin]
  obtain ⟨_, ⟨d, rfl, hd⟩, k1⟩ := l1New_ok (K := K) h
  obtain ⟨_, ⟨x, d1, rfl, hx, hd1⟩, k2⟩ := l1Below_ok (K := K) hd (n := 16)
  have hx := hx.2 (by omega)
  obtain ⟨_, ⟨y, d2, rfl, hy, hd2⟩, k3⟩ := l1Below_ok (K := K) hd1 (n := 9)
  have hy := hy.2 (by omega)
  simp (disch := first | omega | (simp only [vl]; omega)) only [vcd]
  refine call_by (k1) rfl ?_
  simp (disch := first | omega | (simp only [vl]; omega)) only [vcd]
  refine call_by (k2) rfl ?_
  simp (disch := first | omega | (simp only [vl]; omega)) only [vcd]
  refine call_by (k3) rfl ?_
  simp (disch := first | omega | (simp only [vl]; omega)) only [vcd]
  exact ⟨_, _, rfl, by omega, by omega⟩

theorem bigR_ok [Has K 220 ir_laws_big] {code : List Nat} : K 220 [LB code] [.b (decide (1048576 < (code.length : Int)))] := by
  refine body_by (f := ir_laws_big) rfl ?_; simp only [ir_laws_big]
  simp (disch := first | omega | (simp only [vl]; omega)) only [vc]

/-! ### Reflecting leads back -/
def dlt (w : List Nat) : Int := (cnt w 117 : Int) - cnt w 100
theorem dlt_nil : dlt [] = 0 := by simp [dlt, cnt]
theorem dlt_cons {c : Nat} {w : List Nat} : dlt (c :: w) = (if c = 117 then 1 else 0) - (if c = 100 then 1 else 0) + dlt w := by
  simp only [dlt, cnt_cons]
  split <;> split <;> omega
theorem swp_swp {c : Nat} (h : c = 117 ∨ c = 100) : swp (swp c) = c := by rcases h with rfl | rfl <;> simp [swp]
theorem map_swp : ∀ {w : List Nat}, allud w = true → allud (w.map swp) = true ∧ (w.map swp).map swp = w ∧ dlt (w.map swp) = - dlt w
  | [], _ => ⟨rfl, rfl, by simp [dlt_nil]⟩
  | c :: w, h => by
    rw [allud_cons] at h
    simp only [Bool.and_eq_true, decide_eq_true_eq] at h
    obtain ⟨h1, h2, h3⟩ := map_swp h.2
    refine ⟨?_, ?_, ?_⟩
    · simp only [List.map_cons, allud_cons, h1]
      rcases h.1 with rfl | rfl <;> simp [swp]
    · simp only [List.map_cons, h2, swp_swp h.1]
    · simp only [List.map_cons, dlt_cons, h3]
      rcases h.1 with rfl | rfl <;> simp [swp] <;> omega
theorem walk_some : ∀ {w : List Nat} {h r : Int}, walkH w h = some r → r = h + dlt w
  | [], h, r, e => by simp only [walkH, Option.some.injEq] at e; rw [dlt_nil]; omega
  | c :: w, h, r, e => by
    simp only [walkH] at e
    rw [dlt_cons]
    by_cases h1 : c = 117
    · rw [if_pos h1] at e
      have := walk_some e
      simp [h1]; omega
    · by_cases h2 : c = 100
      · rw [if_neg h1, if_pos h2] at e
        split at e
        · cases e
        · have := walk_some e
          simp [h2]; omega
      · rw [if_neg h1, if_neg h2] at e; cases e
theorem walk_ge : ∀ {w : List Nat} {h r : Int}, 0 ≤ h → walkH w h = some r → 0 ≤ r
  | [], h, r, h0, e => by simp only [walkH, Option.some.injEq] at e; omega
  | c :: w, h, r, h0, e => by
    simp only [walkH] at e
    by_cases h1 : c = 117
    · rw [if_pos h1] at e
      exact walk_ge (by omega) e
    · by_cases h2 : c = 100
      · rw [if_neg h1, if_pos h2] at e
        split at e
        · cases e
        · exact walk_ge (by omega) e
      · rw [if_neg h1, if_neg h2] at e; cases e
theorem refl_none : ∀ {w : List Nat} {h : Int}, 0 ≤ h → allud w = true → walkH w h = none → refl (refl w h) h = w ∧ allud (refl w h) = true ∧ walkH (refl w h) h = none ∧ h + dlt (refl w h) = -2 - (h + dlt w)
  | [], h, _, _, e => by simp [walkH] at e
  | c :: w, h, h0, hu, e => by
    rw [allud_cons] at hu
    simp only [Bool.and_eq_true, decide_eq_true_eq] at hu
    rcases hu.1 with rfl | rfl
    · simp only [walkH, if_true] at e
      obtain ⟨h1, h2, h3, h4⟩ := refl_none (w := w) (by omega) hu.2 e
      have hm : ¬ h + 1 = -1 := by omega
      simp only [refl, if_true, if_neg hm, h1, walkH, h3, allud_cons, h2, dlt_cons]
      refine ⟨trivial, by simp, trivial, ?_⟩
      simp; omega
    · have q : ¬ ((100 : Nat) = 117) := by omega
      simp only [walkH, if_neg q, if_true] at e
      by_cases hm : h - 1 < 0
      · have e1 : h - 1 = -1 := by omega
        obtain ⟨h1, h2, h3⟩ := map_swp hu.2
        simp only [refl, if_neg q, e1, if_true, h2, walkH, allud_cons, h1, dlt_cons, h3]
        refine ⟨trivial, by simp, by simp, ?_⟩
        simp; omega
      · rw [if_neg hm] at e
        obtain ⟨h1, h2, h3, h4⟩ := refl_none (w := w) (by omega) hu.2 e
        have hm2 : ¬ h - 1 = -1 := by omega
        simp only [refl, if_neg q, if_neg hm2, h1, walkH, if_neg hm, h3, allud_cons, h2, dlt_cons, if_true]
        refine ⟨trivial, by simp, trivial, ?_⟩
        simp; omega

theorem bad_back {w : List Nat} (h : badF w = true) : unrO (rbR w) = true ∧ unrR (rbR w) = w := by
  have hb := h
  simp only [badF, Bool.and_eq_true, decide_eq_true_eq, Bool.not_eq_true'] at hb
  obtain ⟨⟨⟨h1, h2⟩, h3⟩, h4⟩ := hb
  have hn : walkH w 0 = none := by
    cases e : walkH w 0 with
    | none => rfl
    | some r =>
      have := walk_some e
      have hr : r = 0 := by simp only [dlt] at this; omega
      simp [dyck, e, hr] at h4
      omega
  obtain ⟨q1, q2, q3, q4⟩ := refl_none (Int.le_refl 0) h2 hn
  have hR : rbR w = refl w 0 := by simp [rbR, h]
  have hU : unrO (refl w 0) = true := by
    simp only [unrO, q2, refl_len, Bool.and_eq_true, decide_eq_true_eq]
    simp only [dlt] at q4
    refine ⟨⟨trivial, h1⟩, by omega⟩
  rw [hR]
  exact ⟨hU, by simp only [unrR, hU, if_true, q1]⟩

theorem unr_back {w : List Nat} (h : unrO w = true) : badF (unrR w) = true ∧ rbR (unrR w) = w := by
  have hb := h
  simp only [unrO, Bool.and_eq_true, decide_eq_true_eq] at hb
  obtain ⟨⟨h1, h2⟩, h3⟩ := hb
  have hn : walkH w 0 = none := by
    cases e : walkH w 0 with
    | none => rfl
    | some r =>
      have := walk_some e
      have := walk_ge (Int.le_refl 0) e
      simp only [dlt] at *
      omega
  obtain ⟨q1, q2, q3, q4⟩ := refl_none (Int.le_refl 0) h1 hn
  have hR : unrR w = refl w 0 := by simp [unrR, h]
  have hB : badF (refl w 0) = true := by
    simp only [badF, q2, refl_len, Bool.and_eq_true, decide_eq_true_eq, dyck, q3]
    simp only [dlt] at q4
    refine ⟨⟨⟨h2, trivial⟩, by omega⟩, by simp⟩
  rw [hR]
  exact ⟨hB, by simp only [rbR, hB, if_true, q1]⟩

theorem rbR_len {w : List Nat} : (rbR w).length ≤ w.length := by
  unfold rbR; split
  · simp [refl_len]
  · simp
theorem unrR_len {w : List Nat} : (unrR w).length ≤ w.length := by
  unfold unrR; split
  · simp [refl_len]
  · simp

/-! ### Paths within a height, counted -/
def cwi (m : Nat) (h : Int) (i : Nat) : Nat := ((pathsL m).take i).countP (fun w => decide (depF w ≤ h))
theorem atS_get {l : List (List Nat)} {i : Nat} (hi : i < l.length) : atS l i = l[i] := by
  simp only [atS, Int.toNat_natCast, List.getD_eq_getElem?_getD]
  rw [List.getElem?_eq_getElem hi]; rfl
theorem atS_mem {l : List (List Nat)} {i : Nat} (hi : i < l.length) : atS l i ∈ l := by
  rw [atS_get hi]; exact List.getElem_mem _
theorem cwi_s {m : Nat} {h : Int} {i : Nat} (hi : i < (pathsL m).length) : cwi m h (i + 1) = cwi m h i + (if depF (atS (pathsL m) i) ≤ h then 1 else 0) := by
  unfold cwi
  rw [List.take_succ_eq_append_getElem hi, List.countP_append, atS_get hi]
  simp
theorem cwi_le {m : Nat} {h : Int} {i : Nat} : cwi m h i ≤ i := by
  unfold cwi
  exact Nat.le_trans List.countP_le_length (by simp; omega)
theorem cwi_eq0 : allB 7 (fun m => decide ((pathsL m).length ≤ 1000) && allB 8 fun h => decide ((((pathsL m).countP (fun w => decide (depF w ≤ (h : Int))) : Nat) : Int) = iter (spS m h) (2 * m + 3) 0)) = true := by kernel_rfl
theorem cwi_eq {m h : Nat} (hm : m < 7) (hh : h < 8) : (pathsL m).length ≤ 1000 ∧ (cwi m h (pathsL m).length : Int) = ciV m h := by
  have e0 := allB_spec cwi_eq0 m hm
  simp only [Bool.and_eq_true, decide_eq_true_eq] at e0
  refine ⟨e0.1, ?_⟩
  have e := of_decide_eq_true (allB_spec e0.2 h hh)
  have r1 : inR 0 14 m = true := inR_iff.2 ⟨by omega, by omega⟩
  have r2 : inR 0 15 h = true := inR_iff.2 ⟨by omega, by omega⟩
  simp only [cwi, List.take_length, e, ciV, r1, r2, and_self, if_true, Int.toNat_natCast, spW, spS_eq]

theorem reflections_law [Has K 9 ir_spec_CountWords] [Has K 10 ir_impl_CountWords] [Has K 11 ir_spec_CountWithin] [Has K 12 ir_impl_CountWithin] [Has K 18 ir_spec_BallotByReflection] [Has K 19 ir_impl_BallotByReflection] [Has K 20 ir_spec_CountBad] [Has K 21 ir_impl_CountBad] [Has K 22 ir_spec_l1In] [Has K 23 ir_impl_within] [Has K 24 ir_spec_l3Binomial] [Has K 25 ir_impl_choose] [Has K 27 ir_impl_BallotNumber] [Has K 28 ir_impl_CatalanNumber] [Has K 39 ir_spec_IsBad] [Has K 40 ir_impl_IsBad] [Has K 53 ir_spec_UnreflectWord] [Has K 54 ir_impl_UnreflectWord] [Has K 63 ir_spec_l29Word] [Has K 64 ir_spec_IsDyck] [Has K 65 ir_impl_areSteps] [Has K 66 ir_impl_count] [Has K 67 ir_impl_IsDyck] [Has K 76 ir_spec_l29Flip] [Has K 77 ir_impl_reflected] [Has K 82 ir_impl_heights] [Has K 83 ir_impl_exchanged] [Has K 107 ir_spec_ReflectBad] [Has K 108 ir_impl_ReflectBad] [Has K 215 ir_laws_FnReflections] [Has K 220 ir_laws_big] [Has K 230 ir_spec_DrawReflectBad] [Has K 231 ir_spec_DrawUnreflectWord] [Has K 232 ir_spec_DrawCountBad] [Has K 233 ir_spec_DrawCountWithin] [Has K 234 ir_spec_PathsOf] [Has K 235 ir_spec_StatisticOf] [Has K 236 ir_spec_DrawCountWords] [Has K 237 ir_spec_DrawBallotByReflection] [Has K 288 ir_spec_l1New] [Has K 289 ir_spec_l1Below] [Has K 291 ir_spec_l29Any] [Has K 292 ir_spec_l3All] [Has K 297 ir_spec_BracketsOf] [Has K 298 ir_spec_DepthOf] [Has K 304 ir_spec_l29Numbers] [Has K 307 ir_spec_l1Once] [Has K 315 ir_spec_l1Spoil] [Has K 316 ir_spec_l1Byte] [Has K 319 ir_spec_HeightsOf] [Has K 320 ir_spec_PathOfBrackets] [Has K 327 ir_spec_l1Text] (code : List Nat) : K 215 [LB code] [.b true] := by
  refine body_by (f := ir_laws_FnReflections) rfl ?_; simp only [ir_laws_FnReflections]
  by_cases hl : code.length ≤ 1048576
  · obtain ⟨_, ⟨w, rfl, hw⟩, k1⟩ := DrawReflectBad_ok (K := K) hl
    obtain ⟨_, ⟨v, rfl, hv⟩, k2⟩ := DrawUnreflectWord_ok (K := K) hl
    obtain ⟨_, ⟨n, rfl, hn⟩, k3⟩ := DrawCountBad_ok (K := K) hl
    obtain ⟨_, ⟨m, h, rfl, hm, hh⟩, k4⟩ := DrawCountWithin_ok (K := K) hl
    obtain ⟨_, ⟨p, q, rfl⟩, k5⟩ := DrawCountWords_ok (K := K) hl
    obtain ⟨_, ⟨d, e, rfl⟩, k6⟩ := DrawBallotByReflection_ok (K := K) hl
    have l1 := rbR_len (w := w)
    have l2 := unrR_len (w := v)
    simp (disch := first | omega | (simp only [vl]; omega)) only [vcd]
    refine call_by (bigR_ok (K := K)) rfl ?_
    simp (disch := first | omega | (simp only [vl]; omega)) only [vcd]
    refine call_by (k1) rfl ?_
    simp (disch := first | omega | (simp only [vl]; omega)) only [vcd]
    refine call_by (rb_i (K := K) (w := w) (by omega)) rfl ?_
    simp (disch := first | omega | (simp only [vl]; omega)) only [vcd]
    refine call_by (rb_s (K := K) (w := w) (by omega)) rfl ?_
    simp (disch := first | omega | (simp only [vl]; omega)) only [vcd]
    refine call_by (bad_i (K := K) (w := w) (by omega)) rfl ?_
    simp (disch := first | omega | (simp only [vl]; omega)) only [vcd]
    refine call_by (bad_s (K := K) (w := w) (by omega)) rfl ?_
    apply join
    · intro hG
      cases hb : badF w
      · simp (disch := first | omega | (simp only [vl]; omega)) only [vcd, hb]
        refine call_by (k2) rfl ?_
        simp (disch := first | omega | (simp only [vl]; omega)) only [vcd]
        exact hG
      · obtain ⟨b1, b2⟩ := bad_back hb
        simp (disch := first | omega | (simp only [vl]; omega)) only [vcd, hb]
        refine call_by (unr_i (K := K) (w := rbR w) (by omega)) rfl ?_
        simp (disch := first | omega | (simp only [vl]; omega)) only [vcd, b1, b2]
        refine call_by (k2) rfl ?_
        simp (disch := first | omega | (simp only [vl]; omega)) only [vcd]
        exact hG
    refine call_by (unr_i (K := K) (w := v) (by omega)) rfl ?_
    simp (disch := first | omega | (simp only [vl]; omega)) only [vcd]
    refine call_by (unr_s (K := K) (w := v) (by omega)) rfl ?_
    apply join
    · intro hG
      cases hb : unrO v
      · simp (disch := first | omega | (simp only [vl]; omega)) only [vcd, hb]
        refine call_by (k3) rfl ?_
        simp (disch := first | omega | (simp only [vl]; omega)) only [vcd]
        exact hG
      · obtain ⟨b1, b2⟩ := unr_back hb
        simp (disch := first | omega | (simp only [vl]; omega)) only [vcd, hb]
        refine call_by (rb_i (K := K) (w := unrR v) (by omega)) rfl ?_
        simp (disch := first | omega | (simp only [vl]; omega)) only [vcd, b1, b2]
        refine call_by (bad_i (K := K) (w := unrR v) (by omega)) rfl ?_
        simp (disch := first | omega | (simp only [vl]; omega)) only [vcd, b1, b2]
        refine call_by (k3) rfl ?_
        simp (disch := first | omega | (simp only [vl]; omega)) only [vcd]
        exact hG
    obtain ⟨x, c1, c2⟩ := cb_same (K := K) n
    refine call_by (c1) rfl ?_
    simp (disch := first | omega | (simp only [vl]; omega)) only [vcd]
    refine call_by (c2) rfl ?_
    have hn3 : n = -1 ∨ n = 15 ∨ (0 ≤ n ∧ n ≤ 14) := by omega
    apply join
    · intro hG
      rcases hn3 with rfl | rfl | ⟨hr1, hr2⟩
      · simp (disch := first | omega | (simp only [vl]; omega)) only [vcd]
        refine call_by (k4) rfl ?_
        simp (disch := first | omega | (simp only [vl]; omega)) only [vcd]
        exact hG
      · simp (disch := first | omega | (simp only [vl]; omega)) only [vcd]
        refine call_by (k4) rfl ?_
        simp (disch := first | omega | (simp only [vl]; omega)) only [vcd]
        exact hG
      · obtain ⟨j, rfl⟩ := Int.eq_ofNat_of_zero_le hr1
        obtain ⟨x, y, z, g1, g2, g3, g4, g5, g6⟩ := cd_ok (K := K) (n := j) (by omega)
        simp (disch := first | omega | (simp only [vl]; omega)) only [vcd]
        refine call_by (g1) rfl ?_
        simp (disch := first | omega | (simp only [vl]; omega)) only [vcd]
        refine call_by (g2) rfl ?_
        simp (disch := first | omega | (simp only [vl]; omega)) only [vcd]
        refine call_by (g3) rfl ?_
        simp (disch := first | omega | (simp only [vl]; omega)) only [vcd, g4]
        refine call_by (k4) rfl ?_
        simp (disch := first | omega | (simp only [vl]; omega)) only [vcd]
        exact hG
    refine call_by (ci_i (K := K) (a := m) (b := h)) rfl ?_
    simp (disch := first | omega | (simp only [vl]; omega)) only [vcd]
    refine call_by (ci_s (K := K) (a := m) (b := h)) rfl ?_
    have hcs : ¬ 0 ≤ ciV m h ∨ (0 ≤ ciV m h ∧ ¬ m ≤ 6) ∨ (0 ≤ ciV m h ∧ m ≤ 6 ∧ ∃ j t : Nat, m = j ∧ h = t ∧ j < 7 ∧ (pathsL j).length ≤ 1000 ∧ (cwi j t (pathsL j).length : Int) = ciV j t) := by
      by_cases hc : 0 ≤ ciV m h
      · by_cases hm6 : m ≤ 6
        · have hh0 : 0 ≤ h := by
            by_cases q : 0 ≤ h
            · exact q
            · have r2 : inR 0 15 h = false := inR_f.2 (by omega)
              simp [ciV, r2] at hc
          obtain ⟨j, rfl⟩ := Int.eq_ofNat_of_zero_le hm.1
          obtain ⟨t, rfl⟩ := Int.eq_ofNat_of_zero_le hh0
          exact Or.inr (Or.inr ⟨hc, hm6, j, t, rfl, rfl, by omega, cwi_eq (by omega) (by omega)⟩)
        · exact Or.inr (Or.inl ⟨hc, hm6⟩)
      · exact Or.inl hc
    apply join
    · intro hG
      rcases hcs with hc | ⟨hc, hm6⟩ | ⟨hc, hm6, j, t, rfl, rfl, hj7, e1, e2⟩
      · simp (disch := first | omega | (simp only [vl]; omega)) only [vcd]
        refine call_by (k5) rfl ?_
        simp (disch := first | omega | (simp only [vl]; omega)) only [vcd]
        exact hG
      · simp (disch := first | omega | (simp only [vl]; omega)) only [vcd]
        refine call_by (k5) rfl ?_
        simp (disch := first | omega | (simp only [vl]; omega)) only [vcd]
        exact hG
      · simp (disch := first | omega | (simp only [vl]; omega)) only [vcd]
        refine call_by (ps_ok (K := K) (n := j) hj7) rfl ?_
        simp (disch := first | omega | (simp only [vl]; omega)) only [vcd]
        refine loop_ix (fun i => True) (fun i => [LB code, .u, .u, .u, .u, .u, .u, .u, .u, .u, .u, .u, .u, .u, .u, .u, .u, .u, .n t, .n (ciV j t), LS (pathsL j), .n (cwi j t i), .n i, .u, .u, .u, .u, .u, .u, .u, .u, .u, .u, .u, .u, .u, .u, .u, .u, .u]) (pathsL j).length trivial rfl (fun i hi hP => ?_) (fun hP => ?_)
        · have hs := cwi_s (m := j) (h := t) hi
          have := cwi_le (m := j) (h := t) (i := i)
          simp (disch := first | omega | (simp only [vl]; omega)) only [vcd]
          refine call_by (dep_ok (K := K) (n := j) (w := atS (pathsL j) i) hj7 (atS_mem hi)) rfl ?_
          by_cases hd : depF (atS (pathsL j) i) ≤ (t : Int)
          · rw [if_pos hd] at hs
            simp (disch := first | omega | (simp only [vl]; omega)) only [vcd, hs, Nat.add_zero]
          · rw [if_neg hd] at hs
            simp (disch := first | omega | (simp only [vl]; omega)) only [vcd, hs, Nat.add_zero]
        · simp (disch := first | omega | (simp only [vl]; omega)) only [vcd, e2]
          refine call_by (k5) rfl ?_
          simp (disch := first | omega | (simp only [vl]; omega)) only [vcd]
          exact hG
    refine call_by (k6) rfl ?_
    obtain ⟨x1, u1, u2⟩ := cw_same (K := K) p q
    obtain ⟨y1, v1, v2⟩ := br_same (K := K) d e
    simp (disch := first | omega | (simp only [vl]; omega)) only [vcd]
    refine call_by (u1) rfl ?_
    simp (disch := first | omega | (simp only [vl]; omega)) only [vcd]
    refine call_by (u2) rfl ?_
    simp (disch := first | omega | (simp only [vl]; omega)) only [vcd]
    refine call_by (v1) rfl ?_
    simp (disch := first | omega | (simp only [vl]; omega)) only [vcd]
    refine call_by (v2) rfl ?_
    simp (disch := first | omega | (simp only [vl]; omega)) only [vcd]
  · simp (disch := first | omega | (simp only [vl]; omega)) only [vcd]
    refine call_by (bigR_ok (K := K)) rfl ?_
    simp (disch := first | omega | (simp only [vl]; omega)) only [vcd]
end Go.Cat

