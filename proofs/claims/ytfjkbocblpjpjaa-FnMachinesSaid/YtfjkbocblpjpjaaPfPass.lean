/-
  Stack sorting again and again: sortable permutations, the number of passes.
-/
import Derived.Test.YtfjkbocblpjpjaaPfSort
import Derived.Test.YtfjkbocblpjpjaaIrAllA
namespace Go.Cat
variable {K : Nat → List D → List D → Prop}

def ascF (p : List Int) : Bool := decide (∀ j : Nat, j < p.length - 1 → atI p j ≤ atI p (j + 1 : Nat))
def idF (p : List Int) : Bool := decide (∀ j : Nat, j < p.length → atI p j = j)

theorem nan_ok [Has K 211 ir_cmp_isNaN_int_] {x : Int} : K 211 [.n x] [.b false] := by
  refine body_by (f := ir_cmp_isNaN_int_) rfl ?_; simp only [ir_cmp_isNaN_int_]
  simp (disch := first | omega | (simp only [vl]; omega)) only [vcd]

theorem less_ok [Has K 203 ir_cmp_Less_int_] [Has K 211 ir_cmp_isNaN_int_] {x y : Int} : K 203 [.n x, .n y] [.b (decide (x < y))] := by
  refine body_by (f := ir_cmp_Less_int_) rfl ?_; simp only [ir_cmp_Less_int_]
  simp (disch := first | omega | (simp only [vl]; omega)) only [vcd]
  repeat (first | (refine call_by (nan_ok (K := K)) rfl ?_; try simp (disch := first | omega | (simp only [vl]; omega)) only [vcd]))

theorem isSorted_ok [Has K 178 ir_slices_IsSorted___int_int_] [Has K 203 ir_cmp_Less_int_] [Has K 211 ir_cmp_isNaN_int_] {p : List Int} (h : p.length ≤ 1000000000) : K 178 [LI p] [.b (ascF p)] := by
  refine body_by (f := ir_slices_IsSorted___int_int_) rfl ?_; simp only [ir_slices_IsSorted___int_int_]
  simp (disch := first | omega | (simp only [vl]; omega)) only [vcd]
  by_cases h0 : p.length = 0
  · refine loop_wh (fun (_ : Unit) => True) (fun _ => [LI p, .u, .n (-1), .u, .u]) (fun _ => 0) () trivial (by simp [h0]) ?_
    intro _ _
    simp (disch := first | omega | (simp only [vl]; omega)) only [vcd]
    simp [ascF, h0]
  refine loop_wh (fun (i : Nat) => i < p.length ∧ ∀ j : Nat, i ≤ j → j < p.length - 1 → atI p j ≤ atI p (j + 1 : Nat)) (fun i => [LI p, .u, .n i, .u, .u]) (fun i => i) (p.length - 1) ⟨by omega, fun j h1 h2 => by omega⟩ (by rw [show ((p.length - 1 : Nat) : Int) = (p.length : Int) - 1 by omega]) ?_
  rintro i ⟨h1, h2⟩
  cases i with
  | zero =>
    simp (disch := first | omega | (simp only [vl]; omega)) only [vcd]
    simp [ascF]
    exact fun j hj => by have := h2 j (by omega) hj; exact_mod_cast this
  | succ i =>
    simp (disch := first | omega | (simp only [vl]; omega)) only [vcd]
    refine call_by (less_ok (K := K)) rfl ?_
    by_cases hc : atI p (i + 1) < atI p i
    · simp (disch := first | omega | (simp only [vl]; omega)) only [vcd, Int.add_sub_cancel, hc]
      simp only [ascF]
      refine Db (decide_eq_false fun q => ?_)
      have := q i (by omega)
      have e : ((i + 1 : Nat) : Int) = (i : Int) + 1 := rfl
      rw [e] at this; omega
    · simp (disch := first | omega | (simp only [vl]; omega)) only [vcd, Int.add_sub_cancel, hc]
      refine ⟨i, by omega, ⟨by omega, fun j hj hj2 => ?_⟩, rfl⟩
      rcases Nat.lt_or_ge i j with q | q
      · exact h2 j (by omega) hj2
      · obtain rfl : j = i := by omega
        show atI p j ≤ atI p ((j : Int) + 1)
        omega

theorem ascends_ok [Has K 131 ir_impl_ascends] [Has K 178 ir_slices_IsSorted___int_int_] [Has K 203 ir_cmp_Less_int_] [Has K 211 ir_cmp_isNaN_int_] {p : List Int} (h : p.length ≤ 1000000000) : K 131 [LI p] [.b (ascF p)] := by
  refine body_by (f := ir_impl_ascends) rfl ?_; simp only [ir_impl_ascends]
  simp (disch := first | omega | (simp only [vl]; omega)) only [vcd]
  repeat (first | (refine call_by (isSorted_ok (K := K) h) rfl ?_; try simp (disch := first | omega | (simp only [vl]; omega)) only [vcd]))

theorem sorted_ok [Has K 130 ir_spec_l31Sorted] {p : List Int} (h : p.length ≤ 1000000000) : K 130 [LI p] [.b (idF p)] := by
  refine body_by (f := ir_spec_l31Sorted) rfl ?_; simp only [ir_spec_l31Sorted]
  simp (disch := first | omega | (simp only [vl]; omega)) only [vcd]
  refine loop_ix (fun i => ∀ j : Nat, j < i → atI p j = j) (fun i => [LI p, .u, .n i, .u, .u]) p.length (by simp) rfl (fun i hi hP => ?_) (fun hP => ?_)
  · by_cases hc : atI p i = i
    · simp (disch := first | omega | (simp only [vl]; omega)) only [vcd, hc]
      exact all_s hP hc
    · simp (disch := first | omega | (simp only [vl]; omega)) only [vcd, hc]
      exact Db (decide_eq_false fun q => hc (q i hi))
  · simp (disch := first | omega | (simp only [vl]; omega)) only [vcd]
    exact Db (decide_eq_true hP)

/-! ### Plain facts -/

theorem sortT_perm : ∀ (p st : List Int), (sortT p st).Perm (p ++ st)
  | [], st => List.Perm.refl _
  | x :: p, st => by
    simp only [sortT]
    have h1 := sortT_perm p (x :: st.dropWhile fun y => decide (y < x))
    have h2 := List.takeWhile_append_dropWhile (p := fun y => decide (y < x)) (l := st)
    refine (List.Perm.append_left _ h1).trans ?_
    refine (List.perm_append_comm.trans ?_)
    refine (List.Perm.append_right _ (List.perm_middle)).trans ?_
    have h3 : ((p ++ st.dropWhile fun y => decide (y < x)) ++ st.takeWhile fun y => decide (y < x)).Perm (p ++ st) := by
      rw [List.append_assoc]
      refine List.Perm.append_left _ (List.perm_append_comm.trans ?_)
      rw [h2]
    exact List.Perm.cons x h3

theorem permP_iff {p : List Int} : permP p p.length ↔ (∀ x ∈ p, 0 ≤ x ∧ x ≤ (p.length : Int) - 1) ∧ p.Nodup := by
  constructor
  · intro h
    refine ⟨fun x hx => ?_, ?_⟩
    · obtain ⟨j, hj, rfl⟩ := List.mem_iff_getElem.1 hx
      have := inR_iff.1 (h j hj).1
      simpa [atI, hj] using this
    · rw [List.Nodup, List.pairwise_iff_getElem]
      intro i j hi hj hij
      have := (h j hj).2 i hij
      simpa [atI, hi, hj] using this
  · rintro ⟨h1, h2⟩ j hj
    refine ⟨inR_iff.2 ?_, fun k hk => ?_⟩
    · have := h1 p[j] (List.getElem_mem hj)
      simpa [atI, hj] using this
    · rw [List.Nodup, List.pairwise_iff_getElem] at h2
      have := h2 k j (by omega) hj hk
      simpa [atI, hj, show k < p.length by omega] using this

theorem permF_perm {p q : List Int} (h : q.Perm p) : permF q = permF p := by
  have hl := h.length_eq
  simp only [permF]
  congr 1
  · rw [hl]
  · congr 1
    rw [permP_iff, permP_iff, hl, h.nodup_iff]
    apply propext
    exact ⟨fun ⟨a, b⟩ => ⟨fun x hx => a x (h.mem_iff.2 hx), b⟩, fun ⟨a, b⟩ => ⟨fun x hx => a x (h.mem_iff.1 hx), b⟩⟩

theorem permF_sort {p : List Int} : permF (sortT p []) = permF p := permF_perm (by simpa using sortT_perm p [])

/-- An ascending permutation is the identity. -/
theorem asc_id {p : List Int} (hp : permF p = true) : ascF p = idF p := by
  obtain ⟨hl, hP⟩ := permF_t hp
  rw [Bool.eq_iff_iff]
  simp only [ascF, idF, decide_eq_true_eq]
  constructor
  · intro ha
    have hs : ∀ j : Nat, j < p.length - 1 → atI p j + 1 ≤ atI p (j + 1 : Nat) := by
      intro j hj
      have h1 := ha j hj
      have h2 := (hP (j + 1) (by omega)).2 j (by omega)
      omega
    have lo : ∀ j : Nat, j < p.length → (j : Int) ≤ atI p j := by
      intro j
      induction j with
      | zero => intro h0; exact (inR_iff.1 (hP 0 h0).1).1
      | succ j ih =>
        intro h1
        have := ih (by omega)
        have := hs j (by omega)
        omega
    have up : ∀ d j : Nat, j + d + 1 = p.length → atI p j ≤ j := by
      intro d
      induction d with
      | zero => intro j hj; have := (inR_iff.1 (hP j (by omega)).1).2; omega
      | succ d ih =>
        intro j hj
        have h1 := ih (j + 1) (by omega)
        have := hs j (by omega)
        omega
    intro j hj
    have := lo j hj
    have := up (p.length - 1 - j) j (by omega)
    omega
  · intro hi j hj
    rw [hi j (by omega), hi (j + 1) (by omega)]
    omega

theorem takeWhile_all {s : List Int} {x : Int} (h : ∀ y ∈ s, y < x) : s.takeWhile (fun y => decide (y < x)) = s ∧ s.dropWhile (fun y => decide (y < x)) = [] := by
  induction s with
  | nil => simp
  | cons a s ih =>
    have h1 := h a (by simp)
    have := ih fun y hy => h y (by simp [hy])
    simp [h1, this]

/-- What lies under a great number stays there. -/
theorem sortT_under {M : Int} : ∀ {b s : List Int}, (∀ x ∈ b, x < M) → sortT b (s ++ [M]) = sortT b s ++ [M]
  | [], s, _ => rfl
  | x :: b, s, h => by
    have hx := h x (by simp)
    have hb : ∀ y ∈ b, y < M := fun y hy => h y (by simp [hy])
    simp only [sortT]
    have h1 : ¬ M < x := by omega
    have e : ∀ t : List Int, (t ++ [M]).takeWhile (fun y => decide (y < x)) = t.takeWhile (fun y => decide (y < x)) ∧ (t ++ [M]).dropWhile (fun y => decide (y < x)) = t.dropWhile (fun y => decide (y < x)) ++ [M] := by
      intro t
      induction t with
      | nil => simp [h1]
      | cons a t ih =>
        by_cases ha : a < x
        · simp [ha, ih]
        · simp [ha]
    rw [(e s).1, (e s).2, ← List.cons_append, sortT_under hb, List.append_assoc]

/-- A start of the numbers, sorted: some come out, some lie on the stack. -/
theorem sortT_start : ∀ (a st : List Int), ∃ o s, (∀ r, sortT (a ++ r) st = o ++ sortT r s) ∧ ∀ x ∈ s, x ∈ a ++ st
  | [], st => ⟨[], st, fun r => rfl, fun x hx => by simpa using hx⟩
  | y :: a, st => by
    obtain ⟨o, s, h1, h2⟩ := sortT_start a (y :: st.dropWhile fun z => decide (z < y))
    refine ⟨st.takeWhile (fun z => decide (z < y)) ++ o, s, fun r => ?_, fun x hx => ?_⟩
    · simp only [List.cons_append, sortT, h1, List.append_assoc]
    · have := h2 x hx
      simp only [List.mem_append, List.mem_cons] at this ⊢
      rcases this with q | q | q
      · exact .inl (.inr q)
      · exact .inl (.inl q)
      · exact .inr ((List.dropWhile_sublist _).subset q)

theorem sortT_max {a b : List Int} {M : Int} (ha : ∀ x ∈ a, x < M) (hb : ∀ x ∈ b, x < M) : ∃ q, sortT (a ++ M :: b) [] = q ++ [M] := by
  obtain ⟨o, s, h1, h2⟩ := sortT_start a []
  have hs : ∀ y ∈ s, y < M := fun y hy => ha y (by simpa using h2 y hy)
  refine ⟨o ++ (s ++ sortT b []), ?_⟩
  rw [h1]
  simp only [sortT]
  rw [(takeWhile_all hs).1, (takeWhile_all hs).2]
  rw [show [M] = ([] : List Int) ++ [M] from rfl, sortT_under hb]
  simp

/-- Greater numbers, ascending, behind the others: they stay. -/
theorem sortT_tail : ∀ {t p : List Int}, (∀ x ∈ p, ∀ y ∈ t, x < y) → t.Pairwise (· < ·) → sortT (p ++ t) [] = sortT p [] ++ t
  | [], p, _, _ => by simp
  | y :: t, p, h, ht => by
    have hy : ∀ x ∈ p, x < y := fun x hx => h x hx y (by simp)
    obtain ⟨h1, h2⟩ := List.pairwise_cons.1 ht
    have e : sortT (p ++ [y]) [] = sortT p [] ++ [y] := by
      obtain ⟨o, s, g1, g2⟩ := sortT_start p []
      have hs : ∀ z ∈ s, z < y := fun z hz => hy z (by simpa using g2 z hz)
      have g0 := g1 []
      simp only [List.append_nil, sortT] at g0
      rw [g1, g0]
      simp only [sortT]
      rw [(takeWhile_all hs).1, (takeWhile_all hs).2]
      simp
    have := sortT_tail (t := t) (p := p ++ [y]) (fun x hx z hz => by
      rcases List.mem_append.1 hx with q | q
      · exact h x q z (by simp [hz])
      · simp at q; subst q; exact h1 z hz) h2
    rw [List.append_assoc] at this
    rw [show p ++ y :: t = p ++ ([y] ++ t) from rfl, this, e, List.append_assoc]
    rfl

theorem max_split : ∀ {q : List Int}, q ≠ [] → q.Nodup → ∃ a M b, q = a ++ M :: b ∧ (∀ x ∈ a, x < M) ∧ ∀ x ∈ b, x < M
  | [], h, _ => (h rfl).elim
  | x :: q, _, hn => by
    obtain ⟨n1, n2⟩ := List.nodup_cons.1 hn
    by_cases hq : q = []
    · subst hq
      exact ⟨[], x, [], rfl, by simp, by simp⟩
    · obtain ⟨a, M, b, rfl, h1, h2⟩ := max_split hq n2
      by_cases hx : x < M
      · exact ⟨x :: a, M, b, rfl, fun y hy => by rcases List.mem_cons.1 hy with rfl | q; exact hx; exact h1 y q, h2⟩
      · have hne : x ≠ M := by rintro rfl; exact n1 (by simp)
        refine ⟨[], x, a ++ M :: b, rfl, by simp, fun y hy => ?_⟩
        rcases List.mem_append.1 hy with q | q
        · have := h1 y q; omega
        · rcases List.mem_cons.1 q with rfl | q
          · omega
          · have := h2 y q; omega

/-- k passes sort p. -/
inductive Pass : List Int → Nat → Prop
  | done {p : List Int} (h : idF p = true) : Pass p 0
  | more {p : List Int} {k : Nat} (h : idF p = false) (n : Pass (sortT p []) k) : Pass p (k + 1)

theorem pass_ex : ∀ (m : Nat) (q t : List Int), q.length = m → permF (q ++ t) = true → (∀ x ∈ q, ∀ y ∈ t, x < y) → t.Pairwise (· < ·) → ∃ k, k ≤ m ∧ Pass (q ++ t) k
  | 0, q, t, hq, hp, _, ht => by
    obtain rfl := List.eq_nil_of_length_eq_zero hq
    refine ⟨0, Nat.le_refl _, Pass.done ?_⟩
    rw [← asc_id hp]
    simp only [ascF, decide_eq_true_eq, List.nil_append]
    intro j hj
    rw [List.pairwise_iff_getElem] at ht
    have := ht j (j + 1) (by omega) (by omega) (by omega)
    simp [atI, show j < t.length by omega, show j + 1 < t.length by omega]
    omega
  | m + 1, q, t, hq, hp, hlt, ht => by
    cases hi : idF (q ++ t)
    · have hnd := (permP_iff.1 (permF_t hp).2).2
      have hqn : q.Nodup := (List.nodup_append.1 hnd).1
      obtain ⟨a, M, b, rfl, h1, h2⟩ := max_split (q := q) (by rintro rfl; simp at hq) hqn
      obtain ⟨q', hq'⟩ := sortT_max h1 h2
      have e : sortT ((a ++ M :: b) ++ t) [] = q' ++ (M :: t) := by
        rw [sortT_tail hlt ht, hq', List.append_assoc]; rfl
      have hperm : (q' ++ [M]).Perm (a ++ M :: b) := by
        have := sortT_perm (a ++ M :: b) []
        rw [hq'] at this
        simpa using this
      have hl : q'.length = m := by
        have := hperm.length_eq
        simp only [List.length_append, List.length_cons, List.length_nil] at this hq
        omega
      have hM : ∀ y ∈ t, M < y := fun y hy => hlt M (by simp) y hy
      obtain ⟨k, hk, hP⟩ := pass_ex m q' (M :: t) hl (by rw [← e, permF_sort, hp]) (by
        intro x hx y hy
        have hxq : x ∈ a ++ M :: b := hperm.mem_iff.1 (by simp [hx])
        rcases List.mem_cons.1 hy with rfl | hy
        · have hnd2 : (q' ++ [y]).Nodup := hperm.nodup_iff.2 hqn
          have hne : x ≠ y := by
            rintro rfl
            exact (List.nodup_append.1 hnd2).2.2 x hx x (by simp) rfl
          rcases List.mem_append.1 hxq with q | q
          · exact h1 x q
          · rcases List.mem_cons.1 q with q | q
            · exact (hne q).elim
            · exact h2 x q
        · exact hlt x hxq y hy) (List.pairwise_cons.2 ⟨hM, ht⟩)
      exact ⟨k + 1, by omega, Pass.more hi (by rw [e]; exact hP)⟩
    · exact ⟨0, by omega, Pass.done hi⟩

theorem pass_of {p : List Int} (hp : permF p = true) : ∃ k, k ≤ p.length ∧ Pass p k := by
  have := pass_ex p.length p [] rfl (by simpa using hp) (by simp) (by simp)
  simpa using this

theorem pass_i [Has K 23 ir_impl_within] [Has K 62 ir_impl_SortOnce] [Has K 74 ir_impl_IsPermutation] [Has K 81 ir_slices_Reverse___int_int_] [Has K 106 ir_impl_PassesOf] [Has K 131 ir_impl_ascends] [Has K 178 ir_slices_IsSorted___int_int_] [Has K 203 ir_cmp_Less_int_] [Has K 211 ir_cmp_isNaN_int_] {p : List Int} {k : Nat} (h : p.length ≤ 1000) (hp : permF p = true) (hk : Pass p k) (hkl : k ≤ 1000) : K 106 [LI p] [.n k] := by
  refine body_by (f := ir_impl_PassesOf) rfl ?_; simp only [ir_impl_PassesOf]
  simp (disch := first | omega | (simp only [vl]; omega)) only [vcd]
  repeat (first | (refine call_by (perm_i (K := K) (by omega)) rfl ?_; try simp (disch := first | omega | (simp only [vl]; omega)) only [vcd, hp]))
  refine loop_wh (fun (x : List Int × Nat × Nat) => x.1.length ≤ 1000 ∧ permF x.1 = true ∧ Pass x.1 x.2.2 ∧ x.2.1 + x.2.2 = k) (fun x => [LI x.1, .u, .n x.2.1, .u, .u]) (fun x => x.2.2) (p, 0, k) ⟨h, hp, hk, by simp⟩ rfl ?_
  rintro ⟨q, n, r⟩ ⟨h1, h2, h3, h4⟩
  simp only at h1 h2 h3 h4
  have ha := asc_id h2
  have hs : sortR q = sortT q [] := by simp [sortR, h2]
  have hl : (sortT q []).length = q.length := by rw [sortT_len]; simp
  cases h3 with
  | done hd =>
    rw [hd] at ha
    simp (disch := first | omega | (simp only [vl]; omega)) only [vcd]
    repeat (first | (refine call_by (ascends_ok (K := K) (by omega)) rfl ?_; try simp (disch := first | omega | (simp only [vl]; omega)) only [vcd, ha]))
    exact Dn (by omega)
  | @more _ k' hd hn =>
    rw [hd] at ha
    simp (disch := first | omega | (simp only [vl]; omega)) only [vcd]
    repeat (first | (refine call_by (ascends_ok (K := K) (by omega)) rfl ?_; try simp (disch := first | omega | (simp only [vl]; omega)) only [vcd, ha, hs]) | (refine call_by (sortO_i (K := K) (by omega)) rfl ?_; try simp (disch := first | omega | (simp only [vl]; omega)) only [vcd, ha, hs]))
    exact ⟨(sortT q [], n + 1, k'), by show k' < k' + 1; omega, ⟨by show (sortT q []).length ≤ 1000; omega, by rw [permF_sort, h2], hn, by show n + 1 + k' = k; omega⟩, rfl⟩

theorem pass_s [Has K 22 ir_spec_l1In] [Has K 73 ir_spec_IsPermutation] [Has K 80 ir_spec_l31Sort] [Has K 105 ir_spec_PassesOf] [Has K 130 ir_spec_l31Sorted] {p : List Int} {k : Nat} (h : p.length ≤ 1000) (hp : permF p = true) (hk : Pass p k) (hkl : k ≤ 1000) : K 105 [LI p] [.n k] := by
  refine body_by (f := ir_spec_PassesOf) rfl ?_; simp only [ir_spec_PassesOf]
  simp (disch := first | omega | (simp only [vl]; omega)) only [vcd]
  repeat (first | (refine call_by (perm_s (K := K) (by omega)) rfl ?_; try simp (disch := first | omega | (simp only [vl]; omega)) only [vcd, hp, LI_nil]))
  refine loop_wh (fun (x : List Int × Nat × Nat) => x.1.length ≤ 1000 ∧ permF x.1 = true ∧ Pass x.1 x.2.2 ∧ x.2.1 + x.2.2 = k) (fun x => [.u, .u, LI x.1, .n x.2.1, .u, .u]) (fun x => x.2.2) (p, 0, k) ⟨h, hp, hk, by simp⟩ rfl ?_
  rintro ⟨q, n, r⟩ ⟨h1, h2, h3, h4⟩
  simp only at h1 h2 h3 h4
  have hl : (sortT q []).length = q.length := by rw [sortT_len]; simp
  cases h3 with
  | done hd =>
    simp (disch := first | omega | (simp only [vl]; omega)) only [vcd]
    repeat (first | (refine call_by (sorted_ok (K := K) (by omega)) rfl ?_; try simp (disch := first | omega | (simp only [vl]; omega)) only [vcd, hd]))
    exact Dn (by omega)
  | @more _ k' hd hn =>
    simp (disch := first | omega | (simp only [vl]; omega)) only [vcd]
    repeat (first | (refine call_by (sorted_ok (K := K) (by omega)) rfl ?_; try simp (disch := first | omega | (simp only [vl]; omega)) only [vcd, hd]) | (refine call_by (sort_s (K := K) (by omega)) rfl ?_; try simp (disch := first | omega | (simp only [vl]; omega)) only [vcd, hd]))
    exact ⟨(sortT q [], n + 1, k'), by show k' < k' + 1; omega, ⟨by show (sortT q []).length ≤ 1000; omega, by rw [permF_sort, h2], hn, by show n + 1 + k' = k; omega⟩, rfl⟩

theorem pass_no_i [Has K 23 ir_impl_within] [Has K 74 ir_impl_IsPermutation] [Has K 106 ir_impl_PassesOf] {p : List Int} (h : p.length ≤ 1000000000) (hp : permF p = false) : K 106 [LI p] [.n (-1)] := by
  refine body_by (f := ir_impl_PassesOf) rfl ?_; simp only [ir_impl_PassesOf]
  simp (disch := first | omega | (simp only [vl]; omega)) only [vcd]
  repeat (first | (refine call_by (perm_i (K := K) (by omega)) rfl ?_; try simp (disch := first | omega | (simp only [vl]; omega)) only [vcd, hp]))
theorem pass_no_s [Has K 22 ir_spec_l1In] [Has K 73 ir_spec_IsPermutation] [Has K 105 ir_spec_PassesOf] {p : List Int} (h : p.length ≤ 1000000000) (hp : permF p = false) : K 105 [LI p] [.n (-1)] := by
  refine body_by (f := ir_spec_PassesOf) rfl ?_; simp only [ir_spec_PassesOf]
  simp (disch := first | omega | (simp only [vl]; omega)) only [vcd]
  repeat (first | (refine call_by (perm_s (K := K) (by omega)) rfl ?_; try simp (disch := first | omega | (simp only [vl]; omega)) only [vcd, hp]))

theorem pass_law [Has K 22 ir_spec_l1In] [Has K 23 ir_impl_within] [Has K 42 ir_laws_toIntS] [Has K 44 ir_laws_eqIntS] [Has K 62 ir_impl_SortOnce] [Has K 73 ir_spec_IsPermutation] [Has K 74 ir_impl_IsPermutation] [Has K 80 ir_spec_l31Sort] [Has K 81 ir_slices_Reverse___int_int_] [Has K 89 ir_laws_FnExactPassesOf] [Has K 105 ir_spec_PassesOf] [Has K 106 ir_impl_PassesOf] [Has K 130 ir_spec_l31Sorted] [Has K 131 ir_impl_ascends] [Has K 178 ir_slices_IsSorted___int_int_] [Has K 203 ir_cmp_Less_int_] [Has K 211 ir_cmp_isNaN_int_] (p : List Int) : K 89 [LI p] [.b true] := by
  refine body_by (f := ir_laws_FnExactPassesOf) rfl ?_; simp only [ir_laws_FnExactPassesOf]
  by_cases h : p.length ≤ 1048576 <;> simp (disch := first | omega | (simp only [vl]; omega)) only [vcd]
  cases hp : permF p
  · repeat (first | (refine call_by (toIntS_ok (K := K) (by omega)) rfl ?_; try simp (disch := first | omega | (simp only [vl]; omega)) only [vcd]) | (refine call_by (pass_no_s (K := K) (by omega) hp) rfl ?_; try simp (disch := first | omega | (simp only [vl]; omega)) only [vcd]) | (refine call_by (pass_no_i (K := K) (by omega) hp) rfl ?_; try simp (disch := first | omega | (simp only [vl]; omega)) only [vcd]) | (refine call_by (eqIntS_t (K := K) (by omega)) rfl ?_; try simp (disch := first | omega | (simp only [vl]; omega)) only [vcd]))
  · obtain ⟨k, h1, h2⟩ := pass_of hp
    have hl := (permF_t hp).1
    repeat (first | (refine call_by (toIntS_ok (K := K) (by omega)) rfl ?_; try simp (disch := first | omega | (simp only [vl]; omega)) only [vcd]) | (refine call_by (pass_s (K := K) (by omega) hp h2 (by omega)) rfl ?_; try simp (disch := first | omega | (simp only [vl]; omega)) only [vcd]) | (refine call_by (pass_i (K := K) (by omega) hp h2 (by omega)) rfl ?_; try simp (disch := first | omega | (simp only [vl]; omega)) only [vcd]) | (refine call_by (eqIntS_t (K := K) (by omega)) rfl ?_; try simp (disch := first | omega | (simp only [vl]; omega)) only [vcd]))

def srtF (p : List Int) : Bool := permF p && idF (sortT p [])
theorem srt_i [Has K 23 ir_impl_within] [Has K 62 ir_impl_SortOnce] [Has K 74 ir_impl_IsPermutation] [Has K 81 ir_slices_Reverse___int_int_] [Has K 102 ir_impl_IsSortable] [Has K 131 ir_impl_ascends] [Has K 178 ir_slices_IsSorted___int_int_] [Has K 203 ir_cmp_Less_int_] [Has K 211 ir_cmp_isNaN_int_] {p : List Int} (h : p.length ≤ 1000000000) : K 102 [LI p] [.b (srtF p)] := by
  refine body_by (f := ir_impl_IsSortable) rfl ?_; simp only [ir_impl_IsSortable]
  have hl : (sortT p []).length = p.length := by rw [sortT_len]; simp
  simp (disch := first | omega | (simp only [vl]; omega)) only [vcd]
  cases hp : permF p
  · repeat (first | (refine call_by (sortO_i (K := K) h) rfl ?_; try simp (disch := first | omega | (simp only [vl]; omega)) only [vcd, hp]))
    simp [srtF, hp]
  · have hs : sortR p = sortT p [] := by simp [sortR, hp]
    have ha := asc_id (p := sortT p []) (by rw [permF_sort, hp])
    repeat (first | (refine call_by (sortO_i (K := K) h) rfl ?_; try simp (disch := first | omega | (simp only [vl]; omega)) only [vcd, hp, hs, ha]) | (refine call_by (ascends_ok (K := K) (by omega)) rfl ?_; try simp (disch := first | omega | (simp only [vl]; omega)) only [vcd, hp, hs, ha]))
    simp [srtF, hp]
theorem srt_s [Has K 22 ir_spec_l1In] [Has K 73 ir_spec_IsPermutation] [Has K 80 ir_spec_l31Sort] [Has K 101 ir_spec_IsSortable] [Has K 130 ir_spec_l31Sorted] {p : List Int} (h : p.length ≤ 1000000000) : K 101 [LI p] [.b (srtF p)] := by
  refine body_by (f := ir_spec_IsSortable) rfl ?_; simp only [ir_spec_IsSortable]
  have hl : (sortT p []).length = p.length := by rw [sortT_len]; simp
  simp (disch := first | omega | (simp only [vl]; omega)) only [vcd]
  cases hp : permF p
  all_goals repeat (first | (refine call_by (perm_s (K := K) (by omega)) rfl ?_; try simp (disch := first | omega | (simp only [vl]; omega)) only [vcd, hp]) | (refine call_by (sort_s (K := K) h) rfl ?_; try simp (disch := first | omega | (simp only [vl]; omega)) only [vcd, hp]) | (refine call_by (sorted_ok (K := K) (by omega)) rfl ?_; try simp (disch := first | omega | (simp only [vl]; omega)) only [vcd, hp]))
  all_goals simp [srtF, hp]
theorem srt_law [Has K 22 ir_spec_l1In] [Has K 23 ir_impl_within] [Has K 42 ir_laws_toIntS] [Has K 44 ir_laws_eqIntS] [Has K 62 ir_impl_SortOnce] [Has K 73 ir_spec_IsPermutation] [Has K 74 ir_impl_IsPermutation] [Has K 80 ir_spec_l31Sort] [Has K 81 ir_slices_Reverse___int_int_] [Has K 87 ir_laws_FnExactIsSortable] [Has K 101 ir_spec_IsSortable] [Has K 102 ir_impl_IsSortable] [Has K 130 ir_spec_l31Sorted] [Has K 131 ir_impl_ascends] [Has K 178 ir_slices_IsSorted___int_int_] [Has K 203 ir_cmp_Less_int_] [Has K 211 ir_cmp_isNaN_int_] (p : List Int) : K 87 [LI p] [.b true] := by
  refine body_by (f := ir_laws_FnExactIsSortable) rfl ?_; simp only [ir_laws_FnExactIsSortable]
  by_cases h : p.length ≤ 1048576 <;> simp (disch := first | omega | (simp only [vl]; omega)) only [vcd]
  repeat (first | (refine call_by (toIntS_ok (K := K) (by omega)) rfl ?_; try simp (disch := first | omega | (simp only [vl]; omega)) only [vcd]) | (refine call_by (srt_s (K := K) (by omega)) rfl ?_; try simp (disch := first | omega | (simp only [vl]; omega)) only [vcd]) | (refine call_by (srt_i (K := K) (by omega)) rfl ?_; try simp (disch := first | omega | (simp only [vl]; omega)) only [vcd]) | (refine call_by (eqIntS_t (K := K) (by omega)) rfl ?_; try simp (disch := first | omega | (simp only [vl]; omega)) only [vcd]))
end Go.Cat

