/-
  Words of Motzkin: doubled and read back.
-/
import Derived.Test.YtfjkbocblpjpjaaPfMotzD
namespace Go.Cat
variable {K : Nat → List D → List D → Prop}

theorem dbl_walk : ∀ {w : List Nat} {h k : Int}, 0 ≤ h → walkM w h = some k → walkH (w.flatMap dbl) (2 * h) = some (2 * k) ∧ moF (w.flatMap dbl) = some w ∧ (w.flatMap dbl).length = 2 * w.length
  | [], h, k, _, e => by simp only [walkM, Option.some.injEq] at e; subst e; exact ⟨rfl, rfl, rfl⟩
  | c :: w, h, k, h0, e => by
    simp only [walkM] at e
    by_cases c1 : c = 117
    · rw [if_pos c1] at e
      obtain ⟨q1, q2, q3⟩ := dbl_walk (by omega) e
      subst c1
      refine ⟨?_, ?_, ?_⟩
      · simp only [List.flatMap_cons, dbl, if_true, List.cons_append, List.nil_append, walkH]
        rw [← q1]; congr 1; omega
      · simp [List.flatMap_cons, dbl, moF, q2]
      · simp only [List.flatMap_cons, dbl, if_true, List.length_append, List.length_cons, List.length_nil]; omega
    · rw [if_neg c1] at e
      by_cases c2 : c = 100
      · rw [if_pos c2] at e
        split at e
        · cases e
        · obtain ⟨q1, q2, q3⟩ := dbl_walk (by omega) e
          subst c2
          have n1 : ¬ (2 * h - 1 < 0) := by omega
          have n2 : ¬ (2 * h - 1 - 1 < 0) := by omega
          refine ⟨?_, ?_, ?_⟩
          · simp only [List.flatMap_cons, dbl, if_true, List.cons_append, List.nil_append, walkH, if_neg c1, if_neg n1, if_neg n2]
            rw [← q1]; congr 1; omega
          · simp [List.flatMap_cons, dbl, moF, q2]
          · simp only [List.flatMap_cons, dbl, if_neg c1, if_true, List.length_append, List.length_cons, List.length_nil]; omega
      · rw [if_neg c2] at e
        split at e
        · rename_i c3
          obtain ⟨q1, q2, q3⟩ := dbl_walk h0 e
          subst c3
          have n1 : ¬ ((100 : Nat) = 117) := by omega
          have n2 : ¬ (2 * h + 1 - 1 < 0) := by omega
          refine ⟨?_, ?_, ?_⟩
          · simp only [List.flatMap_cons, dbl, if_neg c1, if_neg c2, List.cons_append, List.nil_append, walkH, if_true, if_neg n1, if_neg n2]
            rw [← q1]; congr 1; omega
          · simp [List.flatMap_cons, dbl, moF, q2]
          · simp only [List.flatMap_cons, dbl, if_neg c1, if_neg c2, List.length_append, List.length_cons, List.length_nil]; omega
        · cases e

theorem dm_back {w : List Nat} (h : dmO w = true) : moO (dmR w) = true ∧ moR (dmR w) = w ∧ dyck (dmR w) = true := by
  have h2 := h
  simp only [dmO, motz, Bool.and_eq_true, decide_eq_true_eq] at h2
  obtain ⟨q1, q2, q3⟩ := dbl_walk (Int.le_refl 0) h2.1.1
  have hR : dmR w = w.flatMap dbl := by simp [dmR, h]
  have hd : dyck (w.flatMap dbl) = true := by
    simp only [dyck, Bool.and_eq_true, decide_eq_true_eq]
    exact ⟨q1, by omega⟩
  rw [hR]
  exact ⟨by simp [moO, hd, q2], by simp [moR, hd, q2], hd⟩
theorem dmR_len {w : List Nat} : (dmR w).length ≤ 16 := by
  unfold dmR
  split
  · rename_i h
    simp only [dmO, motz, Bool.and_eq_true, decide_eq_true_eq] at h
    have := (dbl_walk (Int.le_refl 0) h.1.1).2.2
    omega
  · simp

theorem DrawIsMotzkin_ok [Has K 264 ir_spec_DrawIsMotzkin] [Has K 288 ir_spec_l1New] [Has K 289 ir_spec_l1Below] [Has K 307 ir_spec_l1Once] [Has K 312 ir_spec_l25Any] [Has K 316 ir_spec_l1Byte] {code : List Nat} (h : code.length ≤ 1048576) : ∃ rs, (∃ x, rs = [.s x] ∧ x.length ≤ 20) ∧ K 264 [LB code] rs := by
  refine body_ex (f := ir_spec_DrawIsMotzkin) rfl ?_; simp only [ir_spec_DrawIsMotzkin]
  obtain ⟨_, ⟨d, rfl, hd⟩, k1⟩ := l1New_ok (K := K) h
  obtain ⟨_, ⟨x, d1, rfl, hx, hd1⟩, k2⟩ := l25Any_ok (K := K) hd
  simp (disch := first | omega | (simp only [vl]; omega)) only [vcd]
  refine call_by (k1) rfl ?_
  simp (disch := first | omega | (simp only [vl]; omega)) only [vcd]
  refine call_by (k2) rfl ?_
  simp (disch := first | omega | (simp only [vl]; omega)) only [vcd]
  exact ⟨_, rfl, hx⟩
theorem DrawDyckOfMotzkin_ok [Has K 258 ir_spec_DrawDyckOfMotzkin] [Has K 288 ir_spec_l1New] [Has K 289 ir_spec_l1Below] [Has K 307 ir_spec_l1Once] [Has K 312 ir_spec_l25Any] [Has K 316 ir_spec_l1Byte] {code : List Nat} (h : code.length ≤ 1048576) : ∃ rs, (∃ x, rs = [.s x] ∧ x.length ≤ 20) ∧ K 258 [LB code] rs := by
  refine body_ex (f := ir_spec_DrawDyckOfMotzkin) rfl ?_; simp only [ir_spec_DrawDyckOfMotzkin]
  obtain ⟨_, ⟨d, rfl, hd⟩, k1⟩ := l1New_ok (K := K) h
  obtain ⟨_, ⟨x, d1, rfl, hx, hd1⟩, k2⟩ := l25Any_ok (K := K) hd
  simp (disch := first | omega | (simp only [vl]; omega)) only [vcd]
  refine call_by (k1) rfl ?_
  simp (disch := first | omega | (simp only [vl]; omega)) only [vcd]
  refine call_by (k2) rfl ?_
  simp (disch := first | omega | (simp only [vl]; omega)) only [vcd]
  exact ⟨_, rfl, hx⟩
theorem DrawMotzkinNumber_ok [Has K 265 ir_spec_DrawMotzkinNumber] [Has K 288 ir_spec_l1New] [Has K 289 ir_spec_l1Below] [Has K 316 ir_spec_l1Byte] {code : List Nat} (h : code.length ≤ 1048576) : ∃ rs, (∃ x, rs = [.n x]) ∧ K 265 [LB code] rs := by
  refine body_ex (f := ir_spec_DrawMotzkinNumber) rfl ?_; simp only [ir_spec_DrawMotzkinNumber]
  obtain ⟨_, ⟨d, rfl, hd⟩, k1⟩ := l1New_ok (K := K) h
  obtain ⟨_, ⟨x, d1, rfl, hx, hd1⟩, k2⟩ := l1Below_ok (K := K) hd (n := 23)
  have hx := hx.2 (by omega)
  simp (disch := first | omega | (simp only [vl]; omega)) only [vcd]
  refine call_by (k1) rfl ?_
  simp (disch := first | omega | (simp only [vl]; omega)) only [vcd]
  refine call_by (k2) rfl ?_
  simp (disch := first | omega | (simp only [vl]; omega)) only [vcd]
  exact ⟨_, rfl⟩
theorem DrawMotzkinPaths_ok [Has K 252 ir_spec_DrawMotzkinPaths] [Has K 288 ir_spec_l1New] [Has K 289 ir_spec_l1Below] [Has K 316 ir_spec_l1Byte] {code : List Nat} (h : code.length ≤ 1048576) : ∃ rs, (∃ x, rs = [.n x] ∧ (-1 ≤ x ∧ x ≤ 8)) ∧ K 252 [LB code] rs := by
  refine body_ex (f := ir_spec_DrawMotzkinPaths) rfl ?_; simp only [ir_spec_DrawMotzkinPaths]
  obtain ⟨_, ⟨d, rfl, hd⟩, k1⟩ := l1New_ok (K := K) h
  obtain ⟨_, ⟨x, d1, rfl, hx, hd1⟩, k2⟩ := l1Below_ok (K := K) hd (n := 10)
  have hx := hx.2 (by omega)
  simp (disch := first | omega | (simp only [vl]; omega)) only [vcd]
  refine call_by (k1) rfl ?_
  simp (disch := first | omega | (simp only [vl]; omega)) only [vcd]
  refine call_by (k2) rfl ?_
  simp (disch := first | omega | (simp only [vl]; omega)) only [vcd]
  exact ⟨_, rfl, by omega⟩
theorem DrawMotzkinOf_ok [Has K 260 ir_spec_DyckOfMotzkin] [Has K 262 ir_spec_DrawMotzkinOf] [Has K 266 ir_spec_IsMotzkin] [Has K 288 ir_spec_l1New] [Has K 289 ir_spec_l1Below] [Has K 290 ir_spec_l2Any] [Has K 306 ir_spec_l2Draw] [Has K 307 ir_spec_l1Once] [Has K 312 ir_spec_l25Any] [Has K 315 ir_spec_l1Spoil] [Has K 316 ir_spec_l1Byte] [Has K 317 ir_spec_l2Path] [Has K 318 ir_spec_l1Pick] [Has K 327 ir_spec_l1Text] {code : List Nat} (h : code.length ≤ 1048576) : ∃ rs, (∃ x, rs = [.s x] ∧ x.length ≤ 20) ∧ K 262 [LB code] rs := by
  refine body_ex (f := ir_spec_DrawMotzkinOf) rfl ?_; simp only [ir_spec_DrawMotzkinOf]
  obtain ⟨_, ⟨d, rfl, hd⟩, k1⟩ := l1New_ok (K := K) h
  obtain ⟨_, ⟨b, d1, rfl, hd1⟩, k2⟩ := l1Once_ok (K := K) hd (n := 2)
  simp (disch := first | omega | (simp only [vl]; omega)) only [vcd]
  refine call_by (k1) rfl ?_
  simp (disch := first | omega | (simp only [vl]; omega)) only [vcd]
  refine call_by (k2) rfl ?_
  cases b
  · obtain ⟨_, ⟨x, d2, rfl, hx, hd2⟩, k3⟩ := l2Any_ok (K := K) hd1
    simp (disch := first | omega | (simp only [vl]; omega)) only [vcd]
    refine call_by (k3) rfl ?_
    simp (disch := first | omega | (simp only [vl]; omega)) only [vcd]
    exact ⟨_, rfl, hx⟩
  · obtain ⟨_, ⟨x, d2, rfl, hx, hd2⟩, k3⟩ := l25Any_ok (K := K) hd1
    have := dmR_len (w := x)
    simp (disch := first | omega | (simp only [vl]; omega)) only [vcd]
    refine call_by (k3) rfl ?_
    simp (disch := first | omega | (simp only [vl]; omega)) only [vcd]
    refine call_by (dm_s (K := K) (w := x) (by omega)) rfl ?_
    simp (disch := first | omega | (simp only [vl]; omega)) only [vcd]
    exact ⟨_, rfl, by omega⟩
end Go.Cat

