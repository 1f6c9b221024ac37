/-
  Determinants.
-/
import Derived.Test.YtfjkbocblpjpjaaPfSerB
import Derived.Test.YtfjkbocblpjpjaaPfPerm
import Derived.Test.YtfjkbocblpjpjaaPfSerD
import Derived.Test.YtfjkbocblpjpjaaIrAllB
namespace Go.Cat
variable {K : Nat → List D → List D → Prop}

theorem LL_app0 {rs qs : List (List Int)} (h : rs.length + qs.length ≤ 1099511627776) : appD false (LL rs) (LL qs) = some (LL (rs ++ qs)) := LL_app ⟨h, rfl⟩

def rowDel (c : Nat) (r : List Int) : List Int := r.take c ++ r.drop (c + 1)
def minor (m : List (List Int)) (c : Nat) : List (List Int) := (m.drop 1).map (rowDel c)
def sgnX (c : Nat) (x : Int) : Int := if c % 2 = 1 then -x else x
def detF : Nat → List (List Int) → Int
  | 0, _ => 1
  | n + 1, m => iter (fun c d => IntKind.i64.wrap (d + IntKind.i64.wrap (sgnX c (atI (atL m 0) c) * detF n (minor m c)))) (n + 1) 0

/-- A square of small numbers. -/
def sqr (n : Nat) (m : List (List Int)) : Prop := m.length = n ∧ ∀ r ∈ m, r.length = n ∧ ∀ x ∈ r, -1000000 ≤ x ∧ x ≤ 1000000

theorem rowDel_len {c n : Nat} {r : List Int} (h : r.length = n + 1) (hc : c < n + 1) : (rowDel c r).length = n := by simp [rowDel]; omega
theorem sqr_minor {n c : Nat} {m : List (List Int)} (h : sqr (n + 1) m) (hc : c < n + 1) : sqr n (minor m c) := by
  refine ⟨by simp [minor, h.1], fun r hr => ?_⟩
  simp only [minor, List.mem_map] at hr
  obtain ⟨r', hr', rfl⟩ := hr
  have := h.2 r' (List.mem_of_mem_drop hr')
  refine ⟨rowDel_len this.1 hc, fun x hx => ?_⟩
  simp only [rowDel, List.mem_append] at hx
  rcases hx with q | q
  · exact this.2 x (List.mem_of_mem_take q)
  · exact this.2 x (List.mem_of_mem_drop q)

theorem atL_mem {m : List (List Int)} {i : Nat} (h : i < m.length) : atL m i ∈ m := by simp [atL, h]
theorem atI_mem {m : List Int} {i : Nat} (h : i < m.length) : atI m i ∈ m := by simp [atI, h]
theorem dropL {w : List (List Int)} {i : Nat} (h : i < w.length) : w.take (i + 1) = w.take i ++ [atL w i] := by
  rw [List.take_succ_eq_append_getElem h]; simp [atL, h]

theorem sub_toI {α : Type} {w : List α} {k : Nat} : sub w 0 k = w.take k := by simp [sub]
theorem sub_fromI {α : Type} {w : List α} {k : Nat} : sub w ((k : Int) + 1) w.length = w.drop (k + 1) := by
  have : ((k : Int) + 1).toNat = k + 1 := by omega
  simp [sub, this]

theorem det_i [Has K 75 ir_impl_copyInts] [Has K 127 ir_impl_determinant] : ∀ (n : Nat) (m : List (List Int)), n ≤ 100 → sqr n m → K 127 [LL m] [.n (detF n m)]
  | 0, m, _, h => by
    have h0 : m.length = 0 := h.1
    refine body_by (f := ir_impl_determinant) rfl ?_; simp only [ir_impl_determinant]
    simp (disch := first | omega | (simp only [vl]; omega)) only [vcd]
    simp [detF]
  | n + 1, m, hn, h => by
    have h0 : m.length = n + 1 := h.1
    have hr0 := h.2 (atL m 0) (by have := atL_mem (m := m) (i := 0) (by omega); exact_mod_cast this)
    have hl0 := hr0.1
    refine body_by (f := ir_impl_determinant) rfl ?_; simp only [ir_impl_determinant]
    simp (disch := first | omega | (simp only [vl]; omega)) only [vcd]
    refine loop_fold (fun c d => IntKind.i64.wrap (d + IntKind.i64.wrap (sgnX c (atI (atL m 0) c) * detF n (minor m c)))) (fun _ _ => True) (fun c d => [LL m, .u, .n d, .u, .u, .u, .u, .u, LI (atL m 0), .n (atL m 0).length, .n c, .u, .u, .u, .u, .u, .u]) (n + 1) 0 trivial (by rfl) (fun _ _ _ _ => trivial) (fun c d hc _ _ => ?_) (fun d hd _ => ?_)
    · have hx := hr0.2 _ (atI_mem (m := atL m 0) (i := c) (by omega))
      simp (disch := first | omega | (simp only [vl]; omega)) only [vcd]
      have e1 : sub m 1 m.length = m.drop 1 := by simp [sub]
      have hd1 : (m.drop 1).length = n := by simp [h0]
      refine loop_up (fun k (r : List (List Int)) => r = ((m.drop 1).take k).map (rowDel c)) (fun k r => [LL m, .u, .n d, .n c, .n (atI (atL m 0) c), LL r, .u, .u, LI (atL m 0), .n (atL m 0).length, .n c, .u, LL (m.drop 1), .n (m.drop 1).length, .n k, .u, .u]) n [] rfl (by rw [e1, show (min ((m.length : Int)).toNat m.length - Int.toNat 1) = (m.drop 1).length by simp]; rfl) (fun k r hk hP => ?_) (fun r hP => ?_)
      · have hmem : atL (m.drop 1) k ∈ m := List.mem_of_mem_drop (atL_mem (m := m.drop 1) (i := k) (by omega))
        have hrow := (h.2 _ hmem).1
        have hrl : r.length = k := by rw [hP]; simp; omega
        have ht : ((atL (m.drop 1) k).take c).length ≤ 1000000000 := by simp; omega
        simp (disch := first | omega | (simp only [vl]; omega)) only [vcd, sub_toI, sub_fromI]
        repeat (first | (refine call_by (copyInts_ok (K := K) ht) rfl ?_; try simp (disch := first | omega | (simp only [vl]; omega)) only [vcd, sub_fromI, ll_1, LL_app0]))
        refine ⟨_, ?_, rfl⟩
        rw [hP, dropL (by omega), List.map_append]; rfl
      · have hm : r = minor m c := by rw [hP, minor, List.take_of_length_le (by omega)]
        have ih := det_i n (minor m c) (by omega) (sqr_minor h hc)
        rw [← hm] at ih
        have hcm : (c : Int) % 2 = 1 ∨ (c : Int) % 2 = 0 := by omega
        rcases hcm with hcm | hcm
        · have hs : sgnX c (atI (atL m 0) c) = 0 - atI (atL m 0) c := by rw [sgnX, if_pos (by omega)]; omega
          simp (disch := first | omega | (simp only [vl]; omega)) only [vcd]
          repeat (first | (refine call_by (ih) rfl ?_; try simp (disch := first | omega | (simp only [vl]; omega)) only [vcd, hs, hm]))
        · have hs : sgnX c (atI (atL m 0) c) = atI (atL m 0) c := by rw [sgnX, if_neg (by omega)]
          simp (disch := first | omega | (simp only [vl]; omega)) only [vcd]
          repeat (first | (refine call_by (ih) rfl ?_; try simp (disch := first | omega | (simp only [vl]; omega)) only [vcd, hs, hm]))
    · simp (disch := first | omega | (simp only [vl]; omega)) only [vcd]
      rw [hd]; rfl

theorem det_s [Has K 126 ir_spec_l30Det] : ∀ (n : Nat) (m : List (List Int)), n ≤ 100 → sqr n m → K 126 [LL m] [.n (detF n m)]
  | 0, m, _, h => by
    have h0 : m.length = 0 := h.1
    refine body_by (f := ir_spec_l30Det) rfl ?_; simp only [ir_spec_l30Det]
    simp (disch := first | omega | (simp only [vl]; omega)) only [vcd]
    simp [detF]
  | n + 1, m, hn, h => by
    have h0 : m.length = n + 1 := h.1
    have hr0 := h.2 (atL m 0) (by have := atL_mem (m := m) (i := 0) (by omega); exact_mod_cast this)
    have hl0 := hr0.1
    refine body_by (f := ir_spec_l30Det) rfl ?_; simp only [ir_spec_l30Det]
    simp (disch := first | omega | (simp only [vl]; omega)) only [vcd]
    refine loop_fold (fun c d => IntKind.i64.wrap (d + IntKind.i64.wrap (sgnX c (atI (atL m 0) c) * detF n (minor m c)))) (fun _ _ => True) (fun c d => [LL m, .u, .n d, .n (sgnX c 1), .n c, .u, .u, .u, .u, .u]) (n + 1) 0 trivial (by rfl) (fun _ _ _ _ => trivial) (fun c d hc _ _ => ?_) (fun d hd _ => ?_)
    · have hx := hr0.2 _ (atI_mem (m := atL m 0) (i := c) (by omega))
      simp (disch := first | omega | (simp only [vl]; omega)) only [vcd]
      refine loop_up (fun k (r : List (List Int)) => r = ((m.drop 1).take k).map (rowDel c)) (fun k r => [LL m, .u, .n d, .n (sgnX c 1), .n c, LL r, .n ((k : Int) + 1), .u, .u, .u]) n [] rfl rfl (fun k r hk hP => ?_) (fun r hP => ?_)
      · have hd1 : (m.drop 1).length = n := by simp [h0]
        have hek : atL m ((k : Int) + 1) = atL (m.drop 1) k := by
          have : ((k : Int) + 1).toNat = k + 1 := by omega
          simp [atL, this, List.getD_eq_getElem?_getD, Nat.add_comm]
        have hmem : atL (m.drop 1) k ∈ m := List.mem_of_mem_drop (atL_mem (m := m.drop 1) (i := k) (by omega))
        have hrow := (h.2 _ hmem).1
        have hrl : r.length = k := by rw [hP]; simp; omega
        simp (disch := first | omega | (simp only [vl]; omega)) only [vcd, hek]
        simp (disch := first | omega | (simp only [vl]; omega)) only [vcd, hek, sub_toI, sub_fromI, LI_nil, ll_1, LL_app0]
        refine ⟨_, ?_, rfl⟩
        rw [hP, dropL (by omega), List.map_append]; rfl
      · have hm : r = minor m c := by rw [hP, minor, List.take_of_length_le (by simp; omega)]
        have ih := det_s n (minor m c) (by omega) (sqr_minor h hc)
        rw [← hm] at ih
        have hcm : c % 2 = 1 ∨ c % 2 = 0 := by omega
        rcases hcm with hcm | hcm
        · have hs : sgnX c (atI (atL m 0) c) = -1 * atI (atL m 0) c := by rw [sgnX, if_pos hcm]; omega
          have hs1 : sgnX c 1 = -1 := by rw [sgnX, if_pos hcm]
          have hs2 : sgnX (c + 1) 1 = 0 - -1 := by rw [sgnX, if_neg (by omega)]; rfl
          simp (disch := first | omega | (simp only [vl]; omega)) only [vcd, hs1]
          repeat (first | (refine call_by (ih) rfl ?_; try simp (disch := first | omega | (simp only [vl]; omega)) only [vcd, hs, hm, hs2]))
        · have hs : sgnX c (atI (atL m 0) c) = 1 * atI (atL m 0) c := by rw [sgnX, if_neg (by omega)]; omega
          have hs1 : sgnX c 1 = 1 := by rw [sgnX, if_neg (by omega)]
          have hs2 : sgnX (c + 1) 1 = 0 - 1 := by rw [sgnX, if_pos (by omega)]; rfl
          simp (disch := first | omega | (simp only [vl]; omega)) only [vcd, hs1]
          repeat (first | (refine call_by (ih) rfl ?_; try simp (disch := first | omega | (simp only [vl]; omega)) only [vcd, hs, hm, hs2]))
    · simp (disch := first | omega | (simp only [vl]; omega)) only [vcd]
      rw [hd]; rfl
end Go.Cat

