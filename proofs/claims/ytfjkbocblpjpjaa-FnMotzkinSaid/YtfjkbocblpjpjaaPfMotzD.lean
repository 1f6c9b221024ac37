/-
  Words of Motzkin: drawn, counted, led back.
-/
import Derived.Test.YtfjkbocblpjpjaaPfMotz
import Derived.Test.YtfjkbocblpjpjaaPfIn
import Derived.Test.YtfjkbocblpjpjaaPfDrawP
namespace Go.Cat
variable {K : Nat → List D → List D → Prop}
set_option maxRecDepth 100000

/-- Both give one number, the same. -/
def sameM (a b : Option (List D)) : Bool := match a, b with
  | some [.i .i64 m], some [.i .i64 n] => decide (m = n)
  | _, _ => false
theorem sameM_spec {a b : Option (List D)} (h : sameM a b = true) : ∃ n, a = some [.n n] ∧ b = some [.n n] := by
  unfold sameM at h
  split at h
  · simp at h; subst h; exact ⟨_, rfl, rfl⟩
  · cases h
abbrev tmi : List (Nat × IF) := [(256, ir_impl_MotzkinNumber), (23, ir_impl_within)]
abbrev tms : List (Nat × IF) := [(267, ir_spec_MotzkinNumber), (22, ir_spec_l1In)]
theorem mn0 : allB 8 (fun n => sameM (evF (tableOf tmi) 60 8 256 [.n n]) (evF (tableOf tms) 60 8 267 [.n n])) = true := by kernel_rfl
theorem mn8 : sameM (evF (tableOf tmi) 60 8 256 [.n (8 : Nat)]) (evF (tableOf tms) 60 8 267 [.n (8 : Nat)]) = true := by kernel_rfl
theorem mn9 : sameM (evF (tableOf tmi) 60 8 256 [.n (9 : Nat)]) (evF (tableOf tms) 60 8 267 [.n (9 : Nat)]) = true := by kernel_rfl
theorem mn10 : sameM (evF (tableOf tmi) 60 8 256 [.n (10 : Nat)]) (evF (tableOf tms) 60 8 267 [.n (10 : Nat)]) = true := by kernel_rfl
theorem mn11 : sameM (evF (tableOf tmi) 60 8 256 [.n (11 : Nat)]) (evF (tableOf tms) 60 8 267 [.n (11 : Nat)]) = true := by kernel_rfl
theorem mn12 : sameM (evF (tableOf tmi) 60 8 256 [.n (12 : Nat)]) (evF (tableOf tms) 60 8 267 [.n (12 : Nat)]) = true := by kernel_rfl
theorem mn13 : sameM (evF (tableOf tmi) 60 8 256 [.n (13 : Nat)]) (evF (tableOf tms) 60 8 267 [.n (13 : Nat)]) = true := by kernel_rfl
theorem mn14 : sameM (evF (tableOf tmi) 60 8 256 [.n (14 : Nat)]) (evF (tableOf tms) 60 8 267 [.n (14 : Nat)]) = true := by kernel_rfl
theorem mn15 : sameM (evF (tableOf tmi) 60 8 256 [.n (15 : Nat)]) (evF (tableOf tms) 60 8 267 [.n (15 : Nat)]) = true := by kernel_rfl
theorem mn16 : sameM (evF (tableOf tmi) 60 8 256 [.n (16 : Nat)]) (evF (tableOf tms) 60 8 267 [.n (16 : Nat)]) = true := by kernel_rfl
theorem mn17 : sameM (evF (tableOf tmi) 60 8 256 [.n (17 : Nat)]) (evF (tableOf tms) 60 8 267 [.n (17 : Nat)]) = true := by kernel_rfl
theorem mn18 : sameM (evF (tableOf tmi) 60 8 256 [.n (18 : Nat)]) (evF (tableOf tms) 60 8 267 [.n (18 : Nat)]) = true := by kernel_rfl
theorem mn19 : sameM (evF (tableOf tmi) 60 8 256 [.n (19 : Nat)]) (evF (tableOf tms) 60 8 267 [.n (19 : Nat)]) = true := by kernel_rfl
theorem mn20 : sameM (evF (tableOf tmi) 60 8 256 [.n (20 : Nat)]) (evF (tableOf tms) 60 8 267 [.n (20 : Nat)]) = true := by kernel_rfl
theorem mnA {n : Nat} (h : n < 21) : sameM (evF (tableOf tmi) 60 8 256 [.n n]) (evF (tableOf tms) 60 8 267 [.n n]) = true := by
  have : n < 8 ∨ n = 8 ∨ n = 9 ∨ n = 10 ∨ n = 11 ∨ n = 12 ∨ n = 13 ∨ n = 14 ∨ n = 15 ∨ n = 16 ∨ n = 17 ∨ n = 18 ∨ n = 19 ∨ n = 20 := by omega
  rcases this with h | rfl | rfl | rfl | rfl | rfl | rfl | rfl | rfl | rfl | rfl | rfl | rfl | rfl
  · exact allB_spec mn0 n h
  · exact mn8
  · exact mn9
  · exact mn10
  · exact mn11
  · exact mn12
  · exact mn13
  · exact mn14
  · exact mn15
  · exact mn16
  · exact mn17
  · exact mn18
  · exact mn19
  · exact mn20
theorem mn_same [Has K 22 ir_spec_l1In] [Has K 23 ir_impl_within] [Has K 256 ir_impl_MotzkinNumber] [Has K 267 ir_spec_MotzkinNumber] (a : Int) : ∃ v, K 256 [.n a] [.n v] ∧ K 267 [.n a] [.n v] := by
  by_cases h : 0 ≤ a ∧ a ≤ 20
  · obtain ⟨m, rfl⟩ := Int.eq_ofNat_of_zero_le h.1
    obtain ⟨v, h1, h2⟩ := sameM_spec (mnA (n := m) (by omega))
    exact ⟨v, run tmi 60 8 256 h1, run tms 60 8 267 h2⟩
  · have e : inR 0 20 a = false := inR_f.2 h
    refine ⟨-1, ?_, ?_⟩
    · refine body_by (f := ir_impl_MotzkinNumber) rfl ?_; simp only [ir_impl_MotzkinNumber]
      simp (disch := first | omega | (simp only [vl]; omega)) only [vcd]
      repeat (first | (refine call_by (within_ok (K := K)) rfl ?_; try simp (disch := first | omega | (simp only [vl]; omega)) only [vcd, e]))
    · refine body_by (f := ir_spec_MotzkinNumber) rfl ?_; simp only [ir_spec_MotzkinNumber]
      simp (disch := first | omega | (simp only [vl]; omega)) only [vcd]
      repeat (first | (refine call_by (l1In_ok (K := K)) rfl ?_; try simp (disch := first | omega | (simp only [vl]; omega)) only [vcd, e]))

theorem joinM {P G : Prop} (f : G → P) (g : G) : P := f g

theorem l25Any_ok [Has K 289 ir_spec_l1Below] [Has K 307 ir_spec_l1Once] [Has K 312 ir_spec_l25Any] [Has K 316 ir_spec_l1Byte] {d : D} (hd : Cur d) : ∃ rs, (∃ x d', rs = [.s x, d'] ∧ x.length ≤ 20 ∧ Cur d') ∧ K 312 [d] rs := by
  refine body_ex (f := ir_spec_l25Any) rfl ?_; simp only [ir_spec_l25Any]
  obtain ⟨_, ⟨n, d1, rfl, hn, hd1⟩, k1⟩ := l1Below_ok (K := K) hd (n := 8)
  have hn := hn.2 (by omega)
  simp (disch := first | omega | (simp only [vl]; omega)) only [vcd]
  refine call_by (k1) rfl ?_
  simp (disch := first | omega | (simp only [vl]; omega)) only [vcd]
  refine loop_wh (fun (q : D × List Nat × Int × Int) => Cur q.1 ∧ (0 ≤ q.2.2.2 ∧ q.2.2.2 ≤ n) ∧ ((q.2.1.length : Int) + q.2.2.2 ≤ 7 ∧ 0 ≤ q.2.2.1 ∧ q.2.2.1 + q.2.2.2 ≤ 7)) (fun q => [q.1, .u, .s q.2.1, .n q.2.2.1, .n q.2.2.2, .u, .u, .u, .u, .u, .u, .u]) (fun q => q.2.2.2.toNat) (d1, [], 0, n) ⟨hd1, by simp only []; omega, by simp; omega⟩ rfl ?_
  rintro ⟨d2, x, h, r⟩ ⟨hd2, hr, hx⟩
  simp only at hd2 hr hx ⊢
  by_cases hr0 : 0 < r
  · obtain ⟨_, ⟨y, d3, rfl, hy, hd3⟩, k2⟩ := l1Below_ok (K := K) hd2 (n := 3)
    have hy := hy.2 (by omega)
    simp (disch := first | omega | (simp only [vl]; omega)) only [vcd]
    refine call_by (k2) rfl ?_
    by_cases y0 : y = 0
    · simp (disch := first | omega | (simp only [vl]; omega)) only [vcd, y0]
      exact ⟨(d3, x ++ [117], h + 1, r - 1), by show (r - 1).toNat < r.toNat; omega, ⟨hd3, by simp only []; omega, by simp; omega⟩, rfl⟩
    · by_cases y1 : y = 1
      · simp (disch := first | omega | (simp only [vl]; omega)) only [vcd, y1]
        exact ⟨(d3, x ++ [108], h, r - 1), by show (r - 1).toNat < r.toNat; omega, ⟨hd3, by simp only []; omega, by simp; omega⟩, rfl⟩
      · by_cases h0 : 0 < h
        · simp (disch := first | omega | (simp only [vl]; omega)) only [vcd]
          exact ⟨(d3, x ++ [100], h - 1, r - 1), by show (r - 1).toNat < r.toNat; omega, ⟨hd3, by simp only []; omega, by simp; omega⟩, rfl⟩
        · simp (disch := first | omega | (simp only [vl]; omega)) only [vcd]
          exact ⟨(d3, x, h, r - 1), by show (r - 1).toNat < r.toNat; omega, ⟨hd3, by simp only []; omega, by simp only []; omega⟩, rfl⟩
  · simp (disch := first | omega | (simp only [vl]; omega)) only [vcd]
    refine loop_wh (fun (q : D × List Nat × Int × D) => Cur q.1 ∧ (0 ≤ q.2.2.1 ∧ q.2.2.1 ≤ 7 ∧ (q.2.1.length : Int) + q.2.2.1 ≤ 14)) (fun q => [q.1, .u, .s q.2.1, .n q.2.2.1, q.2.2.2, .u, .u, .u, .u, .u, .u, .u]) (fun q => q.2.2.1.toNat) (d2, x, h, .n r) ⟨hd2, by simp only []; omega⟩ rfl ?_
    rintro ⟨d3, w, g, z1⟩ ⟨hd3, hg⟩
    simp only at hd3 hg ⊢
    have fin : ∀ (d4 : D), Cur d4 → ∃ (b : Bool) (d5 : D), Cur d5 ∧ K 307 [d4, .n 14] [.b b, d5] := by
      intro d4 hd4
      obtain ⟨_, ⟨b, d5, rfl, hd5⟩, k⟩ := l1Once_ok (K := K) hd4 (n := 14)
      exact ⟨b, d5, hd5, k⟩
    by_cases g0 : 0 < g
    · obtain ⟨_, ⟨b, d4, rfl, hd4⟩, k3⟩ := l1Once_ok (K := K) hd3 (n := 12)
      simp (disch := first | omega | (simp only [vl]; omega)) only [vcd]
      refine call_by (k3) rfl ?_
      cases b
      · simp (disch := first | omega | (simp only [vl]; omega)) only [vcd]
        exact ⟨(d4, w ++ [100], g - 1, .u), by show (g - 1).toNat < g.toNat; omega, ⟨hd4, by simp; omega⟩, rfl⟩
      · obtain ⟨b, d5, hd5, k4⟩ := fin d4 hd4
        simp (disch := first | omega | (simp only [vl]; omega)) only [vcd]
        refine call_by (k4) rfl ?_
        cases b
        · simp (disch := first | omega | (simp only [vl]; omega)) only [vcd]
          exact ⟨_, _, rfl, by omega, hd5⟩
        · simp (disch := first | omega | (simp only [vl]; omega)) only [vcd]
          exact ⟨_, _, rfl, by simp; omega, hd5⟩
    · obtain ⟨b, d5, hd5, k4⟩ := fin d3 hd3
      simp (disch := first | omega | (simp only [vl]; omega)) only [vcd]
      refine call_by (k4) rfl ?_
      cases b
      · simp (disch := first | omega | (simp only [vl]; omega)) only [vcd]
        exact ⟨_, _, rfl, by omega, hd5⟩
      · simp (disch := first | omega | (simp only [vl]; omega)) only [vcd]
        exact ⟨_, _, rfl, by simp; omega, hd5⟩
end Go.Cat

