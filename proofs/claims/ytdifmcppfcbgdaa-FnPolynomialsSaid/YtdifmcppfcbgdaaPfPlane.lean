/-
  Plane trees: parents in preorder.
-/
import Derived.Test.YtdifmcppfcbgdaaPfStat
import Derived.Test.YtdifmcppfcbgdaaIrAllA
import Derived.Test.YtdifmcppfcbgdaaPfSort
namespace Go.Cat
set_option linter.unusedSimpArgs false
variable {K : Nat → List D → List D → Prop}

/-- The parents, letter by letter: the open vertices, the nearest first. -/
def plT : List Nat → List Int → List Int → List Int
  | [], out, _ => out
  | c :: w, out, st => if c = 100 then plT w out st.tail else plT w (out ++ [st.headD 0]) ((out.length : Int) :: st)
def plF (w : List Nat) : List Int := plT w [-1] [0]
theorem plT_len : ∀ {w : List Nat} {out st : List Int}, out.length ≤ (plT w out st).length ∧ (plT w out st).length ≤ out.length + w.length
  | [], _, _ => by simp [plT]
  | c :: w, out, st => by
    unfold plT
    split
    · have := plT_len (w := w) (out := out) (st := st.tail)
      simp only [List.length_cons]; omega
    · have := plT_len (w := w) (out := out ++ [st.headD 0]) (st := (out.length : Int) :: st)
      simp only [List.length_cons, List.length_append, List.length_nil] at this ⊢; omega

/-- Each open vertex's parent is the next one. -/
def CH (out : List Int) : List Int → Prop
  | [] => True
  | [x] => 0 ≤ x ∧ x < out.length
  | x :: y :: t => (0 ≤ x ∧ x < out.length ∧ atI out x = y) ∧ CH out (y :: t)
theorem atI_app {out : List Int} {x z : Int} (h : 0 ≤ x ∧ x < out.length) : atI (out ++ [z]) x = atI out x := by
  simp only [atI, List.getD_eq_getElem?_getD]
  rw [List.getElem?_append_left (by omega)]
theorem CH_app {out : List Int} {q : Int} : ∀ {st : List Int}, CH out st → CH (out ++ [q]) st
  | [], _ => trivial
  | [x], h => by
    simp only [CH, List.length_append, List.length_cons, List.length_nil] at h ⊢; omega
  | x :: y :: t, h => by
    obtain ⟨⟨h1, h2, h3⟩, h4⟩ := h
    refine ⟨⟨h1, by simp; omega, ?_⟩, CH_app h4⟩
    rw [atI_app ⟨h1, h2⟩, h3]
theorem CH_head {out : List Int} {x : Int} {t : List Int} (h : CH out (x :: t)) : 0 ≤ x ∧ x < out.length := by
  cases t with
  | nil => exact h
  | cons y t => exact ⟨h.1.1, h.1.2.1⟩

theorem plo_s [Has K 64 ir_spec_IsDyck] [Has K 299 ir_spec_PlaneOf] {w : List Nat} (hd : dyck w = true) : K 299 [.s w] [LI (plF w), .b true] := by
  have hD := DY_of hd
  have hl := hD.l
  refine body_by (f := ir_spec_PlaneOf) rfl ?_; simp only [ir_spec_PlaneOf]
  simp (disch := first | omega | (simp only [vl]; omega)) only [vcd]
  refine loop_up (fun i (x : List Int × Int × List Int) => plT (w.drop i) x.1 (x.2.1 :: x.2.2) = plF w ∧ (x.2.2.length : Int) = Hh w i ∧ x.1.length ≤ i + 1 ∧ CH x.1 (x.2.1 :: x.2.2)) (fun i x => [.s w, .u, .u, LI x.1, .n x.2.1, .n i, .u, .u, .u]) w.length ([-1], 0, []) ⟨by simp [plF], by simp [Hh_0], by simp, by simp [CH]⟩ rfl (fun i x hi hP => ?_) (fun x hP => ?_)
  · obtain ⟨out, x, t⟩ := x
    obtain ⟨g1, g2, g3, g4⟩ := hP
    simp only at g1 g2 g3 g4
    rw [dropB hi] at g1
    have hx := CH_head g4
    have hb := Hh_bd (w := w) (i := i)
    have h1 := hD.h0 (i + 1) (by omega)
    rcases hD.ud i hi with hu | hu
    · have eh := Hh_up hi hu
      rw [hu] at g1
      simp only [plT, List.headD_cons] at g1
      rw [if_neg (by omega)] at g1
      simp (disch := first | omega | (simp only [vl]; omega)) only [vcd]
      repeat (first | (refine call_by (dyck_s (K := K) (w := w) (by omega)) rfl ?_; try simp (disch := first | omega | (simp only [vl]; omega)) only [vcd, hd, hu]))
      refine ⟨(out ++ [x], (out.length : Int), x :: t), ⟨g1, by simp; omega, by simp; omega, ?_⟩, ?_⟩
      · refine ⟨⟨by show (0 : Int) ≤ (out.length : Int); omega, by show ((out.length : Nat) : Int) < (((out ++ [x]).length : Nat) : Int); simp; omega, ?_⟩, CH_app g4⟩
        simp [atI]
      · simp
    · have eh := Hh_dn hi hu
      rw [hu] at g1
      simp only [plT, if_true, List.tail_cons] at g1
      cases t with
      | nil => simp at g2; omega
      | cons y t =>
        obtain ⟨⟨_, _, hy⟩, g5⟩ := g4
        simp only [List.length_cons] at g2
        simp (disch := first | omega | (simp only [vl]; omega)) only [vcd]
        repeat (first | (refine call_by (dyck_s (K := K) (w := w) (by omega)) rfl ?_; try simp (disch := first | omega | (simp only [vl]; omega)) only [vcd, hd, hu]))
        exact ⟨(out, y, t), ⟨g1, by simp only; omega, by simp only; omega, g5⟩, by rw [hy]⟩
  · obtain ⟨out, x, t⟩ := x
    obtain ⟨g1, _⟩ := hP
    rw [List.drop_length] at g1
    simp only [plT] at g1
    simp (disch := first | omega | (simp only [vl]; omega)) only [vcd]
    repeat (first | (refine call_by (dyck_s (K := K) (w := w) (by omega)) rfl ?_; try simp (disch := first | omega | (simp only [vl]; omega)) only [vcd, hd]))
    rw [← g1]

/-! ### Is it one? -/
def ancB (p : List Int) : Nat → Int → Int → Bool
  | 0, _, _ => false
  | f + 1, v, t => if v < 0 then false else if v = t then true else ancB p f (atI p v) t
def plV (p : List Int) (i : Nat) : Prop := ∀ j : Nat, j < i → (j = 0 ∧ atI p 0 = -1) ∨ (0 < j ∧ ancB p (j + 1) ((j : Int) - 1) (atI p j) = true)
instance {p : List Int} {i : Nat} : Decidable (plV p i) := by unfold plV; infer_instance
def isPl (p : List Int) : Bool := inR 1 9 p.length && decide (plV p p.length)
theorem anc_rg {p : List Int} {i : Nat} (hp : ∀ j : Nat, j < i → -1 ≤ atI p j ∧ atI p j < j) : ∀ (f : Nat) (v t : Int), v < i → ancB p f v t = true → 0 ≤ t ∧ t ≤ v
  | 0, _, _, _, h => by simp [ancB] at h
  | f + 1, v, t, hv, h => by
    unfold ancB at h
    split at h
    · cases h
    · rename_i h0
      split at h
      · omega
      · obtain ⟨n, rfl⟩ := Int.eq_ofNat_of_zero_le (show 0 ≤ v by omega)
        have h1 := hp n (by omega)
        have h1 : -1 ≤ atI p (n : Nat) ∧ atI p (n : Nat) < n := h1
        have := anc_rg hp f (atI p (n : Nat)) t (by omega) h
        have e : (Int.ofNat n) = (n : Int) := rfl
        omega
theorem plV_rg {p : List Int} : ∀ {i : Nat}, plV p i → ∀ j : Nat, j < i → -1 ≤ atI p j ∧ atI p j < j
  | 0, _, j, h => by omega
  | i + 1, hp, j, h => by
    have ih := plV_rg (p := p) (i := i) (fun j hj => hp j (by omega))
    rcases Nat.lt_or_ge j i with q | q
    · exact ih j q
    · obtain rfl : j = i := by omega
      rcases hp j (by omega) with ⟨rfl, h0⟩ | ⟨h0, h1⟩
      · have h0' : atI p ((0 : Nat) : Int) = -1 := h0
        omega
      · have := anc_rg ih (j + 1) _ _ (by omega) h1
        omega

theorem ispl_s [Has K 22 ir_spec_l1In] [Has K 321 ir_spec_IsPlane] {p : List Int} (h : p.length ≤ 1099511627776) : K 321 [LI p] [.b (isPl p)] := by
  have no : ∀ {i : Nat}, i < p.length → ¬ ((i = 0 ∧ atI p 0 = -1) ∨ (0 < i ∧ ancB p (i + 1) ((i : Int) - 1) (atI p i) = true)) → isPl p = false := by
    intro i hi q
    refine Bool.eq_false_iff.2 fun q2 => ?_
    simp only [isPl, Bool.and_eq_true, decide_eq_true_eq] at q2
    exact q (q2.2 i hi)
  refine body_by (f := ir_spec_IsPlane) rfl ?_; simp only [ir_spec_IsPlane]
  simp (disch := first | omega | (simp only [vl]; omega)) only [vcd]
  refine loop_ix (fun i => plV p i) (fun i => [LI p, .u, .n i, .u, .u, .u, .u, .u, .u]) p.length (by simp [plV]) rfl (fun i hi hP => ?_) (fun hP => ?_)
  · have hrg := plV_rg hP
    by_cases hi0 : i = 0
    · subst hi0
      by_cases h0 : atI p 0 = -1
      · simp (disch := first | omega | (simp only [vl]; omega)) only [vcd, h0]
        refine loop_wh (fun (_ : Unit) => True) (fun _ => [LI p, .u, .n 0, .b true, .n (-1), .u, .u, .u, .u]) (fun _ => 0) () trivial rfl (fun _ _ => ?_)
        simp (disch := first | omega | (simp only [vl]; omega)) only [vcd]
        exact all_s hP (.inl ⟨rfl, h0⟩)
      · rw [no hi fun q => by rcases q with q | q; exact h0 q.2; omega]
        simp (disch := first | omega | (simp only [vl]; omega)) only [vcd]
    · simp (disch := first | omega | (simp only [vl]; omega)) only [vcd]
      refine call_by (l1In_ok (K := K)) rfl ?_
      cases hr : inR 0 ((i : Int) - 1) (atI p i)
      · rw [no hi fun q => by
          rcases q with q | q
          · exact hi0 q.1
          · have := anc_rg hrg (i + 1) _ _ (by omega) q.2
            rw [inR_f] at hr; omega]
        simp (disch := first | omega | (simp only [vl]; omega)) only [vcd]
      · have hb := inR_iff.1 hr
        obtain ⟨R, hR⟩ : ∃ R, R = ancB p (i + 1) ((i : Int) - 1) (atI p i) := ⟨_, rfl⟩
        simp (disch := first | omega | (simp only [vl]; omega)) only [vcd]
        refine loop_wh (fun (x : Nat × Int × Bool) => (-1 ≤ x.2.1 ∧ x.2.1 < i) ∧ x.2.1 + 2 ≤ x.1 ∧ (x.2.2 || ancB p x.1 x.2.1 (atI p i)) = R) (fun x => [LI p, .u, .n i, .b x.2.2, .n x.2.1, .u, .u, .u, .u]) (fun x => x.1) (i + 1, (i : Int) - 1, false) ⟨by show -1 ≤ (i : Int) - 1 ∧ (i : Int) - 1 < i; omega, by show (i : Int) - 1 + 2 ≤ ((i + 1 : Nat) : Int); omega, by rw [hR]; rfl⟩ rfl ?_
        rintro ⟨f, v, fine⟩ ⟨g1, g2, g3⟩
        simp only at g1 g2 g3 ⊢
        cases f with
        | zero => omega
        | succ f =>
          unfold ancB at g3
          by_cases hv : v < 0
          · rw [if_pos hv, Bool.or_false] at g3
            subst g3
            cases fine
            · simp (disch := first | omega | (simp only [vl]; omega)) only [vcd]
              rw [no hi fun q => by
                rcases q with q | q
                · exact hi0 q.1
                · rw [q.2] at hR; cases hR]
            · simp (disch := first | omega | (simp only [vl]; omega)) only [vcd]
              exact all_s hP (.inr ⟨by omega, hR.symm⟩)
          · rw [if_neg hv] at g3
            obtain ⟨n, rfl⟩ := Int.eq_ofNat_of_zero_le (show 0 ≤ v by omega)
            have h1 := hrg n (by omega)
            have h1 : -1 ≤ atI p (n : Nat) ∧ atI p (n : Nat) < n := h1
            have key : ((fine || decide (((n : Nat) : Int) = atI p i)) || ancB p f (atI p (n : Nat)) (atI p i)) = R := by
              rw [← g3]
              by_cases hvt : ((n : Nat) : Int) = atI p i
              · rw [if_pos hvt]; simp [hvt]
              · rw [if_neg hvt]; simp [hvt]
            cases fine
            · by_cases hvt : ((n : Nat) : Int) = atI p i
              · simp (disch := first | omega | (simp only [vl]; omega)) only [vcd]
                exact ⟨(f, atI p (n : Nat), true), by show f < f + 1; omega, ⟨by simp only; omega, by simp only; omega, by rw [← key]; simp [hvt]⟩, rfl⟩
              · simp (disch := first | omega | (simp only [vl]; omega)) only [vcd]
                exact ⟨(f, atI p (n : Nat), false), by show f < f + 1; omega, ⟨by simp only; omega, by simp only; omega, by rw [← key]; simp [hvt]⟩, rfl⟩
            · simp (disch := first | omega | (simp only [vl]; omega)) only [vcd]
              exact ⟨(f, atI p (n : Nat), true), by show f < f + 1; omega, ⟨by simp only; omega, by simp only; omega, by rw [← key]; simp⟩, rfl⟩
  · simp (disch := first | omega | (simp only [vl]; omega)) only [vcd]
    refine call_by (l1In_ok (K := K)) rfl ?_
    simp (disch := first | omega | (simp only [vl]; omega)) only [vcd]
    simp [isPl, hP]

/-! ### Children, leaves -/
def chT (p : List Int) (v : Int) : Nat → List Int
  | 0 => []
  | i + 1 => if atI p i = v then chT p v i ++ [(i : Int)] else chT p v i
theorem chT_len {p : List Int} {v : Int} : ∀ i, (chT p v i).length ≤ i
  | 0 => by simp [chT]
  | i + 1 => by
    have := chT_len (p := p) (v := v) i
    unfold chT
    split <;> simp <;> omega
theorem LI_nilL : D.l [] = LI [] := rfl
theorem chs [Has K 22 ir_spec_l1In] [Has K 321 ir_spec_IsPlane] [Has K 322 ir_spec_ChildrenOf] {p : List Int} {v : Int} (h : p.length ≤ 1048576) (hp : isPl p = true) (hv : 0 ≤ v) : K 322 [LI p, .n v] [LI (chT p v p.length)] := by
  simp only [isPl, Bool.and_eq_true, decide_eq_true_eq] at hp
  have hb := inR_iff.1 hp.1
  have h0 : atI p 0 = -1 := by
    rcases hp.2 0 (by omega) with q | q
    · exact q.2
    · omega
  have hp : isPl p = true := by simp [isPl, hp]
  have h1 : chT p v 1 = [] := by
    have e : atI p ((0 : Nat) : Int) = -1 := h0
    simp only [chT]
    rw [if_neg (by omega)]
  refine body_by (f := ir_spec_ChildrenOf) rfl ?_; simp only [ir_spec_ChildrenOf]
  simp (disch := first | omega | (simp only [vl]; omega)) only [vcd]
  rw [LI_nilL]
  refine loop_ix (fun _ => True) (fun i => [LI p, .n v, .u, LI (chT p v (i + 1)), .n ((i : Int) + 1), .u, .u]) (p.length - 1) trivial (by rw [h1]; rfl) (fun i hi _ => ?_) (fun _ => ?_)
  · have hl := chT_len (p := p) (v := v) (i + 1)
    have ec : ((i + 1 : Nat) : Int) = (i : Int) + 1 := by omega
    by_cases he : atI p ((i : Int) + 1) = v
    · have e2 : chT p v (i + 1 + 1) = chT p v (i + 1) ++ [(i : Int) + 1] := by
        rw [chT, ec, if_pos he]
      rw [e2]
      simp (disch := first | omega | (simp only [vl]; omega)) only [vcd]
      repeat (first | (refine call_by (ispl_s (K := K) (p := p) (by omega)) rfl ?_; try simp (disch := first | omega | (simp only [vl]; omega)) only [vcd, hp, he]))
    · have e2 : chT p v (i + 1 + 1) = chT p v (i + 1) := by
        rw [chT, ec, if_neg he]
      rw [e2]
      simp (disch := first | omega | (simp only [vl]; omega)) only [vcd]
      repeat (first | (refine call_by (ispl_s (K := K) (p := p) (by omega)) rfl ?_; try simp (disch := first | omega | (simp only [vl]; omega)) only [vcd, hp]))
  · have e : p.length - 1 + 1 = p.length := by omega
    rw [e]
    simp (disch := first | omega | (simp only [vl]; omega)) only [vcd]
/-- Vertices without children. -/
def lvF (p : List Int) (i : Nat) : Nat := sumU (fun v => if isPl p = true ∧ (chT p v p.length).length = 0 then 1 else 0) i
theorem lvF_le {p : List Int} {i : Nat} : lvF p i ≤ i := by
  have := sumU_le (g := fun v : Nat => if isPl p = true ∧ (chT p v p.length).length = 0 then 1 else 0) (b := 1) (fun j => by split <;> omega) i
  unfold lvF; omega
theorem leaves_s [Has K 22 ir_spec_l1In] [Has K 300 ir_spec_LeavesOf] [Has K 321 ir_spec_IsPlane] [Has K 322 ir_spec_ChildrenOf] {p : List Int} (h : p.length ≤ 1048576) : K 300 [LI p] [.n (lvF p p.length)] := by
  refine body_by (f := ir_spec_LeavesOf) rfl ?_; simp only [ir_spec_LeavesOf]
  simp (disch := first | omega | (simp only [vl]; omega)) only [vcd]
  cases hp : isPl p
  · have e : lvF p p.length = 0 := sumU_0 fun i hi => if_neg (by rw [hp]; simp)
    rw [e]
    refine loop_wh (fun (_ : Unit) => True) (fun _ => [LI p, .u, .n 0, .n 0, .u, .u]) (fun _ => 0) () trivial rfl (fun _ _ => ?_)
    by_cases h0 : 0 < p.length
    · simp (disch := first | omega | (simp only [vl]; omega)) only [vcd]
      repeat (first | (refine call_by (ispl_s (K := K) (p := p) (by omega)) rfl ?_; try simp (disch := first | omega | (simp only [vl]; omega)) only [vcd, hp]))
    · simp (disch := first | omega | (simp only [vl]; omega)) only [vcd]
  · refine loop_ix (fun _ => True) (fun i => [LI p, .u, .n (lvF p i), .n i, .u, .u]) p.length trivial rfl (fun i hi _ => ?_) (fun _ => ?_)
    · have hb := lvF_le (p := p) (i := i)
      have e2 : lvF p (i + 1) = lvF p i + (if isPl p = true ∧ (chT p i p.length).length = 0 then 1 else 0) := rfl
      simp (disch := first | omega | (simp only [vl]; omega)) only [vcd]
      repeat (first | (refine call_by (ispl_s (K := K) (p := p) (by omega)) rfl ?_; try simp (disch := first | omega | (simp only [vl]; omega)) only [vcd, hp]))
      refine call_by (chs (K := K) (p := p) (v := i) h hp (by omega)) rfl ?_
      by_cases h0 : (chT p i p.length).length = 0
      · rw [e2, hp, if_pos ⟨rfl, h0⟩]
        simp (disch := first | omega | (simp only [vl]; omega)) only [vcd, h0]
        all_goals simp
      · rw [e2, hp, if_neg fun q => h0 q.2]
        simp (disch := first | omega | (simp only [vl]; omega)) only [vcd]
        all_goals simp
    · simp (disch := first | omega | (simp only [vl]; omega)) only [vcd]
end Go.Cat

