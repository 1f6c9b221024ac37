/-
  Claims written into and looked at again; the path of a permutation, by places.
-/
import Derived.Test.YthbpihoafdpicaaPfClaim
import Derived.Test.YthbpihoafdpicaaPfMDraw
import Derived.Test.YthbpihoafdpicaaIrAllA
namespace Go.Cat
set_option linter.unusedSimpArgs false
variable {K : Nat → List D → List D → Prop}
set_option maxRecDepth 100000

theorem pathT_lt : ∀ {p st : List Int} {n : Int}, ∀ c ∈ pathT p st n, c < 256 := by
  have pop : ∀ (st : List Int) (n : Int), ∀ c ∈ (popN st n).1, c < 256 := by
    intro st
    induction st with
    | nil => intro n c hc; simp [popN] at hc
    | cons y st ih =>
      intro n c hc
      unfold popN at hc
      split at hc
      · rcases List.mem_cons.1 hc with rfl | hc
        · omega
        · exact ih _ c hc
      · simp at hc
  intro p
  induction p with
  | nil => intro st n c hc; simp [pathT] at hc
  | cons x p ih =>
    intro st n c hc
    simp only [pathT, List.mem_cons, List.mem_append] at hc
    rcases hc with rfl | hc | hc
    · omega
    · exact pop _ _ c hc
    · exact ih c hc

theorem LB_nilM : D.l [] = LB [] := rfl

theorem path_i [Has K 23 ir_impl_within] [Has K 74 ir_impl_IsPermutation] [Has K 157 ir_impl_PathOfPermutation] [Has K 187 ir_impl_Contains231] [Has K 205 ir_impl_hasTriple] [Has K 206 ir_impl_Contains231_f1] {p : List Int} (h : p.length ≤ 1048576) : K 157 [LI p] [.s (pathRR p), .b (pathO p)] := by
  refine body_by (f := ir_impl_PathOfPermutation) rfl ?_; simp only [ir_impl_PathOfPermutation]
  simp (disch := first | omega | (simp only [vl]; omega)) only [vcd]
  refine call_by (perm_i (K := K) (p := p) (by omega)) rfl ?_
  cases hp : permF p
  · have e : pathO p = false := by simp [pathO, hp]
    simp only [pathRR, e]
    simp (disch := first | omega | (simp only [vl]; omega)) only [vcd]
    rfl
  · have h8 := (permF_t hp).1
    simp (disch := first | omega | (simp only [vl]; omega)) only [vcd]
    refine call_by (con231_i (K := K) (p := p) (by omega)) rfl ?_
    have e0 : c231P p = c231 p := by simp [c231P, hp]
    rw [e0]
    cases hc : c231 p
    · have e : pathO p = true := by simp [pathO, hp, hc]
      simp only [pathRR, e, if_true]
      simp (disch := first | omega | (simp only [vl]; omega)) only [vcd]
      rw [show D.l [] = LB [] from rfl]
      have key : ∀ (q : List D), q = q := fun _ => rfl
      refine loop_up (fun i (x : List Nat × List Int × Int) => x.1 ++ pathT (p.drop i) (x.2.1.map fun j => atI p j) x.2.2 = pathT p [] 0 ∧ x.1.length + x.2.1.length = 2 * i ∧ x.2.2 + x.2.1.length = i ∧ ∀ j ∈ x.2.1, 0 ≤ j ∧ j < p.length) (fun i x => [LI p, .u, .u, LB x.1, LI x.2.1.reverse, .n x.2.2, .u, .u, .n p.length, .n i, .u, .u]) p.length ([], [], 0) ⟨by simp, by simp, by simp, by simp⟩ rfl (fun i x hi hP => ?_) (fun x hP => ?_)
      · obtain ⟨w, st, n⟩ := x
        obtain ⟨g1, g2, g3, g4⟩ := hP
        simp only at g1 g2 g3 g4
        rw [dropI hi] at g1
        simp only [pathT] at g1
        obtain ⟨R, hR⟩ : ∃ R, R = popN (atI p i :: st.map fun j => atI p j) n := ⟨_, rfl⟩
        rw [← hR] at g1
        simp (disch := first | omega | (simp only [vl]; omega)) only [vcd]
        refine loop_wh (fun (x : List Nat × List Int × Int) => x.1 ++ (popN (x.2.1.map fun j => atI p j) x.2.2).1 = w ++ [117] ++ R.1 ∧ (popN (x.2.1.map fun j => atI p j) x.2.2).2 = R.2 ∧ x.1.length + x.2.1.length = 2 * i + 2 ∧ x.2.2 + x.2.1.length = i + 1 ∧ ∀ j ∈ x.2.1, 0 ≤ j ∧ j < p.length) (fun x => [LI p, .u, .u, LB x.1, LI x.2.1.reverse, .n x.2.2, .u, .u, .n p.length, .n i, .u, .u]) (fun x => x.2.1.length) (w ++ [117], (i : Int) :: st, n) ⟨by rw [hR]; rfl, by rw [hR]; rfl, by simp; omega, by simp; omega, fun j hj => by
          rcases List.mem_cons.1 hj with rfl | hj
          · omega
          · exact g4 j hj⟩ (by simp) ?_
        rintro ⟨w1, s1, n1⟩ ⟨q1, q2, q3, q4, q5⟩
        simp only at q1 q2 q3 q4 q5 ⊢
        cases s1 with
        | nil =>
          simp only [List.map_nil, popN, List.append_nil] at q1 q2
          simp only [List.reverse_nil]
          simp only [List.length_nil] at q3 q4
          simp (disch := first | omega | (simp only [vl]; omega)) only [vcd]
          refine ⟨(w1, [], n1), ⟨?_, by simp; omega, by simp; omega, by simp⟩, rfl⟩
          show w1 ++ pathT (p.drop (i + 1)) [] n1 = _
          rw [← g1, ← q2, q1]; simp
        | cons y t =>
          have hy := q5 y (List.mem_cons_self ..)
          have hl : t.reverse.length = t.length := by simp
          have e1 : atI (t.reverse ++ [y]) t.length = y := by rw [← hl]; exact at_last
          have e2 : sub (t.reverse ++ [y]) 0 t.length = t.reverse := by rw [← hl]; exact sub_init
          have e3 : (((t.reverse ++ [y]).length : Nat) : Int) = (t.length : Int) + 1 := by simp
          simp only [List.reverse_cons]
          simp only [List.length_cons] at q3 q4
          by_cases hyn : atI p y = n1
          · simp only [List.map_cons, popN, if_pos hyn] at q1 q2
            simp (disch := first | omega | (simp only [vl]; omega)) only [vcd, e3, e1, e2, Int.add_sub_cancel]
            refine ⟨(w1 ++ [100], t, n1 + 1), by simp, ⟨by rw [← q1]; simp, q2, by simp; omega, by simp only; omega, fun j hj => q5 j (List.mem_cons_of_mem _ hj)⟩, rfl⟩
          · simp only [List.map_cons, popN, if_neg hyn, List.append_nil] at q1 q2
            simp (disch := first | omega | (simp only [vl]; omega)) only [vcd, e3, e1, e2, Int.add_sub_cancel]
            refine ⟨(w1, y :: t, n1), ⟨?_, by simp; omega, by simp; omega, q5⟩, by simp⟩
            show w1 ++ pathT (p.drop (i + 1)) (atI p y :: t.map fun j => atI p j) n1 = _
            rw [← g1, ← q2, q1]; simp
      · obtain ⟨w, st, n⟩ := x
        obtain ⟨g1, g2, g3, _⟩ := hP
        rw [List.drop_length] at g1
        simp only [pathT, List.append_nil] at g1
        have hb : ∀ c ∈ w, c < 256 := by rw [g1]; exact fun c hc => pathT_lt c hc
        rw [← g1]
        simp (disch := first | omega | (simp only [vl]; omega)) only [vcd, LB_bs hb]
    · have e : pathO p = false := by simp [pathO, hp, hc]
      simp only [pathRR, e]
      simp (disch := first | omega | (simp only [vl]; omega)) only [vcd]
      rfl

/-- Rows marked, one behind the other. -/
def mkS (a : List (List Int)) (k : Int) : Nat → List (List Int) × Int
  | 0 => (a, k)
  | n + 1 => (seL (mkS a k n).1 n (markF (mkS a k n).2 (atL a n).length (atL a n)), (mkS a k n).2 + (atL a n).length)
theorem mkS_len {a : List (List Int)} {k : Int} : ∀ n, (mkS a k n).1.length = a.length
  | 0 => rfl
  | n + 1 => by simp only [mkS, seL_len, mkS_len n]
theorem mkS_at {a : List (List Int)} {k : Int} : ∀ {n : Nat}, n ≤ a.length → ∀ j : Nat, atL (mkS a k n).1 j = if j < n then markF (mkS a k j).2 (atL a j).length (atL a j) else atL a j
  | 0, _, j => by simp [mkS]
  | n + 1, h, j => by
    simp only [mkS]
    rw [atL_set (by rw [mkS_len]; omega), mkS_at (by omega) j]
    by_cases hj : n = j
    · subst hj; simp
    · rw [if_neg hj]
      by_cases h2 : j < n
      · rw [if_pos h2, if_pos (by omega)]
      · rw [if_neg h2, if_neg (by omega)]
theorem mkS_k {a : List (List Int)} {k : Int} (hr : ∀ r ∈ a, r.length ≤ 1000) : ∀ n, n ≤ a.length → k ≤ (mkS a k n).2 ∧ (mkS a k n).2 ≤ k + 1000 * n
  | 0, _ => by simp [mkS]
  | n + 1, h => by
    have h1 := mkS_k (k := k) hr n (by omega)
    have h2 := hr _ (atL_in (i := n) (m := a) (by omega))
    simp only [mkS]
    omega

theorem markIntSS_ok [Has K 45 ir_laws_markIntS] [Has K 158 ir_laws_markIntSS] {a : List (List Int)} {k : Int} (h : a.length ≤ 1000) (hr : ∀ r ∈ a, r.length ≤ 1000) (hk : 0 ≤ k ∧ k ≤ 1000000) : K 158 [LL a, .n k] [.n (mkS a k a.length).2, LL (mkS a k a.length).1] := by
  refine body_by (f := ir_laws_markIntSS) rfl ?_; simp only [ir_laws_markIntSS]
  simp (disch := first | omega | (simp only [vl]; omega)) only [vcd]
  refine loop_ix (fun i => True) (fun i => [LL (mkS a k i).1, .n (mkS a k i).2, .u, .n i, .u]) a.length trivial rfl (fun i hi hP => ?_) (fun hP => ?_)
  · have h1 := mkS_k (k := k) hr i (by omega)
    have h2 := mkS_len (a := a) (k := k) i
    have h3 := mkS_at (a := a) (k := k) (n := i) (by omega) i
    rw [if_neg (by omega)] at h3
    have h4 := hr _ (atL_in (i := i) (m := a) hi)
    simp (disch := first | omega | (simp only [vl]; omega)) only [vcd, h2, h3]
    refine call_by (markIntS_ok (K := K) (a := atL a i) (k := (mkS a k i).2) (by omega) (by omega)) rfl ?_
    simp (disch := first | omega | (simp only [vl]; omega)) only [vcd]
    rfl
  · have h2 := mkS_len (a := a) (k := k) a.length
    simp (disch := first | omega | (simp only [vl]; omega)) only [vcd, h2]
theorem heldIntSS_ok [Has K 46 ir_laws_heldIntS] [Has K 159 ir_laws_heldIntSS] {a : List (List Int)} {k : Int} (h : a.length ≤ 1000) (hr : ∀ r ∈ a, r.length ≤ 1000) (hk : 0 ≤ k ∧ k ≤ 1000000) : K 159 [LL (mkS a k a.length).1, .n k] [.n (mkS a k a.length).2] := by
  refine body_by (f := ir_laws_heldIntSS) rfl ?_; simp only [ir_laws_heldIntSS]
  have h2 := mkS_len (a := a) (k := k) a.length
  simp (disch := first | omega | (simp only [vl]; omega)) only [vcd]
  refine loop_ix (fun i => True) (fun i => [LL (mkS a k a.length).1, .n (mkS a k i).2, .u, .n i, .u, .u]) a.length trivial rfl (fun i hi hP => ?_) (fun hP => ?_)
  · have h1 := mkS_k (k := k) hr i (by omega)
    have h3 := mkS_at (a := a) (k := k) (n := a.length) (by omega) i
    rw [if_pos hi] at h3
    have h4 := hr _ (atL_in (i := i) (m := a) hi)
    simp (disch := first | omega | (simp only [vl]; omega)) only [vcd, h2, h3]
    refine call_by (held_mark (K := K) (a := atL a i) (k := (mkS a k i).2) (by omega) (by omega)) rfl ?_
    simp (disch := first | omega | (simp only [vl]; omega)) only [vcd]
    rfl
  · simp (disch := first | omega | (simp only [vl]; omega)) only [vcd, h2]

/-- A claim's lists are short. -/
structure CLs (t : List (List Nat)) (n o : List Int) (r : List (List Int)) : Prop where
  lt : t.length ≤ 1000
  ln : n.length ≤ 1000
  lo : o.length ≤ 1000
  lr : r.length ≤ 1000
  lrs : ∀ x ∈ r, x.length ≤ 1000
theorem CLs.sm {t : List (List Nat)} {n o : List Int} {r : List (List Int)} (h : CLs t n o r) : CLsm t n o r := ⟨by have := h.lt; omega, by have := h.ln; omega, by have := h.lo; omega, by have := h.lr; omega, fun x hx => by have := h.lrs x hx; omega⟩
/-- Where the numbers of a claim end. -/
def mkE (t : List (List Nat)) (n o : List Int) (r : List (List Int)) (m : Int) : Int := (mkS r (m + t.length + n.length + o.length) r.length).2
/-- The claim, marked. -/
def mkC (k : Int) (f s : List Nat) (t : List (List Nat)) (n o : List Int) (r : List (List Int)) (m : Int) : D :=
  CL k f s (markFS m t.length t) (markF (m + t.length) n.length n) (markF (m + t.length + n.length) o.length o) (mkS r (m + t.length + n.length + o.length) r.length).1

theorem markClaim_ok [Has K 16 ir_laws_markStringS] [Has K 26 ir_laws_markText] [Has K 45 ir_laws_markIntS] [Has K 122 ir_laws_markClaim] [Has K 158 ir_laws_markIntSS] {k : Int} {f s : List Nat} {t : List (List Nat)} {n o : List Int} {r : List (List Int)} {m : Int} (h : CLs t n o r) (hm : 0 ≤ m ∧ m ≤ 1000) :
    K 122 [CL k f s t n o r, .n m] [.n (mkE t n o r m), mkC k f s t n o r m] := by
  obtain ⟨h1, h2, h3, h4, h5⟩ := h
  refine body_by (f := ir_laws_markClaim) rfl ?_; simp only [ir_laws_markClaim]
  simp (disch := first | omega | (simp only [vl]; omega)) only [vcd, LS_known, LI_known, LL_known, LS_one, LI_one, LL_one]
  refine call_by (markStringS_ok (K := K) (a := t) (k := m) (by omega) (by omega)) rfl ?_
  simp (disch := first | omega | (simp only [vl]; omega)) only [vcd, LS_known, LI_known, LL_known, LS_one, LI_one, LL_one]
  refine call_by (markIntS_ok (K := K) (a := n) (k := m + t.length) (by omega) (by omega)) rfl ?_
  simp (disch := first | omega | (simp only [vl]; omega)) only [vcd, LS_known, LI_known, LL_known, LS_one, LI_one, LL_one]
  refine call_by (markIntS_ok (K := K) (a := o) (k := m + t.length + n.length) (by omega) (by omega)) rfl ?_
  simp (disch := first | omega | (simp only [vl]; omega)) only [vcd, LS_known, LI_known, LL_known, LS_one, LI_one, LL_one]
  refine call_by (markIntSS_ok (K := K) (a := r) (k := m + t.length + n.length + o.length) h4 h5 (by omega)) rfl ?_
  simp (disch := first | omega | (simp only [vl]; omega)) only [vcd, LS_known, LI_known, LL_known, LS_one, LI_one, LL_one]
  rfl
theorem heldClaim_ok [Has K 17 ir_laws_heldStringS] [Has K 26 ir_laws_markText] [Has K 46 ir_laws_heldIntS] [Has K 123 ir_laws_heldClaim] [Has K 159 ir_laws_heldIntSS] {k : Int} {f s : List Nat} {t : List (List Nat)} {n o : List Int} {r : List (List Int)} {m : Int} (h : CLs t n o r) (hm : 0 ≤ m ∧ m ≤ 1000) :
    K 123 [mkC k f s t n o r m, .n m] [.n (mkE t n o r m)] ∧ 0 ≤ mkE t n o r m := by
  obtain ⟨h1, h2, h3, h4, h5⟩ := h
  have hE := mkS_k (k := m + t.length + n.length + o.length) h5 r.length (Nat.le_refl _)
  have hE0 : 0 ≤ mkE t n o r m := by unfold mkE; omega
  refine ⟨?_, hE0⟩
  unfold mkC
  refine body_by (f := ir_laws_heldClaim) rfl ?_; simp only [ir_laws_heldClaim]
  have a1 := heldStringS_ok (K := K) (a := markFS m t.length t) (k := m) (by rw [markFS_len]; omega) (by omega) (fun j hj => by rw [markFS_len] at hj; exact markFS_at (Nat.le_refl _) j hj)
  rw [markFS_len] at a1
  simp (disch := first | omega | (simp only [vl]; omega)) only [vcd, LS_known, LI_known, LL_known]
  refine call_by (a1) rfl ?_
  simp (disch := first | omega | (simp only [vl]; omega)) only [vcd, LS_known, LI_known, LL_known]
  refine call_by (held_mark (K := K) (a := n) (k := m + t.length) (by omega) (by omega)) rfl ?_
  simp (disch := first | omega | (simp only [vl]; omega)) only [vcd, LS_known, LI_known, LL_known]
  refine call_by (held_mark (K := K) (a := o) (k := m + t.length + n.length) (by omega) (by omega)) rfl ?_
  simp (disch := first | omega | (simp only [vl]; omega)) only [vcd, LS_known, LI_known, LL_known]
  refine call_by (heldIntSS_ok (K := K) (a := r) (k := m + t.length + n.length + o.length) h4 h5 (by omega)) rfl ?_
  have e : (mkS r (m + t.length + n.length + o.length) r.length).2 = mkE t n o r m := rfl
  rw [e]
  simp (disch := first | omega | (simp only [vl]; omega)) only [vcd]
end Go.Cat

