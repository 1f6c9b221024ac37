/-
  Runs at the ends, depth of brackets.
-/
import Derived.Test.YtdifmcppfcbgdaaPfStat
namespace Go.Cat
set_option linter.unusedSimpArgs false
variable {K : Nat → List D → List D → Prop}

/-- How often a letter stands at the beginning. -/
def runL (c : Nat) : List Nat → Nat
  | [] => 0
  | x :: l => if x = c then runL c l + 1 else 0
theorem runL_le {c : Nat} : ∀ l : List Nat, runL c l ≤ l.length
  | [] => Nat.le_refl _
  | x :: l => by
    have := runL_le (c := c) l
    unfold runL
    split <;> simp only [List.length_cons] <;> omega
/-- As far as it stands. -/
theorem runL_at {c : Nat} : ∀ {l : List Nat} {i : Nat}, i < l.length → (i < runL c l → atB l i = c) ∧ (i = runL c l → atB l i ≠ c)
  | [], i, h => by simp at h
  | x :: l, 0, _ => by
    have e : atB (x :: l) ((0 : Nat) : Int) = x := by simp [atB]
    rw [e]
    unfold runL
    split
    · rename_i hx; exact ⟨fun _ => hx, fun q => by omega⟩
    · rename_i hx; exact ⟨fun q => by omega, fun _ => hx⟩
  | x :: l, i + 1, h => by
    have e : atB (x :: l) ((i + 1 : Nat) : Int) = atB l i := by simp [atB]
    rw [e]
    have ih := runL_at (c := c) (l := l) (i := i) (by simpa using h)
    unfold runL
    split
    · exact ⟨fun q => ih.1 (by omega), fun q => ih.2 (by omega)⟩
    · exact ⟨fun q => by omega, fun q => by omega⟩
theorem at_rev {w : List Nat} {i : Nat} (h : i < w.length) : atB w.reverse i = atB w ((w.length : Int) - 1 - i) := by
  have e : ((w.length : Int) - 1 - i).toNat = w.length - 1 - i := by omega
  simp only [atB, Int.toNat_natCast, e, List.getD_eq_getElem?_getD, List.getElem?_reverse h]

theorem rise_s [Has K 295 ir_spec_l13Run] {w : List Nat} (h : w.length ≤ 16) : K 295 [.s w, .b false] [.n (runL 117 w)] := by
  have hr := runL_le (c := 117) w
  refine body_by (f := ir_spec_l13Run) rfl ?_; simp only [ir_spec_l13Run]
  simp (disch := first | omega | (simp only [vl]; omega)) only [vcd]
  refine loop_wh (fun (x : Nat) => x ≤ runL 117 w) (fun x => [.s w, .b false, .u, .n x, .u]) (fun x => runL 117 w - x) 0 (by omega) rfl ?_
  intro x hx
  by_cases hxl : x < w.length
  · have ha := runL_at (c := 117) hxl
    by_cases hxr : x < runL 117 w
    · simp (disch := first | omega | (simp only [vl]; omega)) only [vcd, ha.1 hxr]
      exact ⟨x + 1, by omega, by omega, by simp⟩
    · have := ha.2 (by omega)
      simp (disch := first | omega | (simp only [vl]; omega)) only [vcd]
      exact Dn (by omega)
  · simp (disch := first | omega | (simp only [vl]; omega)) only [vcd]
    exact Dn (by omega)
theorem fall_s [Has K 295 ir_spec_l13Run] {w : List Nat} (h : w.length ≤ 16) : K 295 [.s w, .b true] [.n (runL 100 w.reverse)] := by
  have hr := runL_le (c := 100) w.reverse
  rw [List.length_reverse] at hr
  refine body_by (f := ir_spec_l13Run) rfl ?_; simp only [ir_spec_l13Run]
  simp (disch := first | omega | (simp only [vl]; omega)) only [vcd]
  refine loop_wh (fun (x : Nat) => x ≤ runL 100 w.reverse) (fun x => [.s w, .b true, .u, .n x, .u]) (fun x => runL 100 w.reverse - x) 0 (by omega) rfl ?_
  intro x hx
  by_cases hxl : x < w.length
  · have ha := runL_at (c := 100) (l := w.reverse) (i := x) (by simpa using hxl)
    rw [at_rev hxl] at ha
    by_cases hxr : x < runL 100 w.reverse
    · simp (disch := first | omega | (simp only [vl]; omega)) only [vcd, ha.1 hxr]
      exact ⟨x + 1, by omega, by omega, by simp⟩
    · have := ha.2 (by omega)
      simp (disch := first | omega | (simp only [vl]; omega)) only [vcd]
      exact Dn (by omega)
  · simp (disch := first | omega | (simp only [vl]; omega)) only [vcd]
    exact Dn (by omega)

/-! ### Brackets -/
def brF (w : List Nat) : List Nat := w.map (exl 117 40 41)
theorem brF_len {w : List Nat} : (brF w).length = w.length := by simp [brF]
theorem brF_at {w : List Nat} {i : Nat} (h : i < w.length) : atB (brF w) i = exl 117 40 41 (atB w i) := by simp [atB, brF, h]
theorem take_snocB {w : List Nat} {i : Nat} (h : i < w.length) : w.take (i + 1) = w.take i ++ [atB w i] := by
  rw [List.take_succ_eq_append_getElem h]; simp [atB, h]
theorem br_s [Has K 64 ir_spec_IsDyck] [Has K 297 ir_spec_BracketsOf] {w : List Nat} (hd : dyck w = true) : K 297 [.s w] [.s (brF w), .b true] := by
  have hD := DY_of hd
  have hl := hD.l
  have hb := brF_len (w := w)
  refine body_by (f := ir_spec_BracketsOf) rfl ?_; simp only [ir_spec_BracketsOf]
  simp (disch := first | omega | (simp only [vl]; omega)) only [vcd]
  refine loop_ix (fun _ => True) (fun i => [.s w, .u, .u, .s ((brF w).take i), .n i, .u, .u]) w.length trivial (by simp) (fun i hi _ => ?_) (fun _ => ?_)
  · have ht : ((brF w).take i).length = i := by simp; omega
    have e := take_snocB (w := brF w) (i := i) (by omega)
    rw [brF_at hi] at e
    rw [e]
    rcases hD.ud i hi with hu | hu
    · simp (disch := first | omega | (simp only [vl]; omega)) only [vcd]
      repeat (first | (refine call_by (dyck_s (K := K) (w := w) (by omega)) rfl ?_; try simp (disch := first | omega | (simp only [vl]; omega)) only [vcd, hd, hu]))
      rfl
    · simp (disch := first | omega | (simp only [vl]; omega)) only [vcd]
      repeat (first | (refine call_by (dyck_s (K := K) (w := w) (by omega)) rfl ?_; try simp (disch := first | omega | (simp only [vl]; omega)) only [vcd, hd, hu]))
      rfl
  · have ht : (brF w).take w.length = brF w := List.take_of_length_le (by omega)
    rw [ht]
    simp (disch := first | omega | (simp only [vl]; omega)) only [vcd]
    repeat (first | (refine call_by (dyck_s (K := K) (w := w) (by omega)) rfl ?_; try simp (disch := first | omega | (simp only [vl]; omega)) only [vcd, hd]))
theorem pb_s [Has K 64 ir_spec_IsDyck] [Has K 320 ir_spec_PathOfBrackets] {w : List Nat} (hd : dyck w = true) : K 320 [.s (brF w)] [.s w, .b true] := by
  have hD := DY_of hd
  have hl := hD.l
  have hb := brF_len (w := w)
  refine body_by (f := ir_spec_PathOfBrackets) rfl ?_; simp only [ir_spec_PathOfBrackets]
  simp (disch := first | omega | (simp only [vl]; omega)) only [vcd]
  refine loop_ix (fun _ => True) (fun i => [.s (brF w), .u, .u, .s (w.take i), .n i, .u, .u, .u, .u, .u]) w.length trivial (by simp) (fun i hi _ => ?_) (fun _ => ?_)
  · have ht : (w.take i).length = i := by simp; omega
    have e := brF_at hi
    rw [take_snocB hi]
    rcases hD.ud i hi with hu | hu
    · rw [hu] at e ⊢
      have e : atB (brF w) i = 40 := e
      simp (disch := first | omega | (simp only [vl]; omega)) only [vcd, e]
    · rw [hu] at e ⊢
      have e : atB (brF w) i = 41 := e
      simp (disch := first | omega | (simp only [vl]; omega)) only [vcd, e]
  · rw [List.take_length]
    simp (disch := first | omega | (simp only [vl]; omega)) only [vcd]
    repeat (first | (refine call_by (dyck_s (K := K) (w := w) (by omega)) rfl ?_; try simp (disch := first | omega | (simp only [vl]; omega)) only [vcd, hd]))

/-! ### Depth -/
def dpF (w : List Nat) : Nat → Int
  | 0 => 0
  | i + 1 => max (dpF w i) (Hh w i)
theorem dp_s [Has K 64 ir_spec_IsDyck] [Has K 298 ir_spec_DepthOf] [Has K 319 ir_spec_HeightsOf] [Has K 320 ir_spec_PathOfBrackets] {w : List Nat} (hd : dyck w = true) : K 298 [.s (brF w)] [.n (dpF w (w.length + 1))] := by
  have hl := (DY_of hd).l
  have hlen := hL_len (w := w)
  refine body_by (f := ir_spec_DepthOf) rfl ?_; simp only [ir_spec_DepthOf]
  simp (disch := first | omega | (simp only [vl]; omega)) only [vcd]
  refine call_by (pb_s (K := K) hd) rfl ?_
  simp (disch := first | omega | (simp only [vl]; omega)) only [vcd]
  refine call_by (ho_s (K := K) hd) rfl ?_
  simp (disch := first | omega | (simp only [vl]; omega)) only [vcd]
  refine loop_ix (fun _ => True) (fun i => [.u, .u, .u, .u, LI (hL w), .n (dpF w i), .n i, .u, .u]) (w.length + 1) trivial (by simp [dpF]) (fun i hi _ => ?_) (fun _ => ?_)
  · have e := hL_at (w := w) (i := i) (by omega)
    simp (disch := first | omega | (simp only [vl]; omega)) only [vcd, hlen, e]
    simp only [dpF]
  · simp (disch := first | omega | (simp only [vl]; omega)) only [vcd, hlen]
end Go.Cat

