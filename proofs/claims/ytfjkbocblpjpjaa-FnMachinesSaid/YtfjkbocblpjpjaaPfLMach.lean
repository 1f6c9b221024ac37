/-
  Machines: the law.
-/
import Derived.Test.YtfjkbocblpjpjaaPfMBrute
import Derived.Test.YtfjkbocblpjpjaaPfMDraw
import Derived.Test.YtfjkbocblpjpjaaIrAllA
namespace Go.Cat
variable {K : Nat → List D → List D → Prop}
set_option maxRecDepth 100000

theorem bigQ_ok [Has K 220 ir_laws_big] {code : List Nat} : K 220 [LB code] [.b (decide (1048576 < (code.length : Int)))] := by
  refine body_by (f := ir_laws_big) rfl ?_; simp only [ir_laws_big]
  simp (disch := first | omega | (simp only [vl]; omega)) only [vc]

theorem sameIntsQ [Has K 239 ir_laws_sameInts] {a : List Int} (h : a.length ≤ 1099511627776) : K 239 [LI a, LI a] [.b true] := by
  refine body_by (f := ir_laws_sameInts) rfl ?_; simp only [ir_laws_sameInts]
  simp (disch := first | omega | (simp only [vl]; omega)) only [vcd]
  refine loop_ix (fun i => True) (fun i => [LI a, LI a, .u, .n i, .u, .u, .u]) a.length trivial rfl (fun i hi hP => ?_) (fun hP => ?_) <;> simp (disch := first | omega | (simp only [vl]; omega)) only [vcd]

/-- Every permutation is in the list. -/
theorem mem_lA {n : Nat} : ∀ (r q : List Int), (∀ x ∈ r, 0 ≤ x ∧ x < n) → (q ++ r).Nodup → q ++ r ∈ lA n r.length q
  | [], q, _, _ => by simp [lA]
  | x :: r, q, h1, h2 => by
    have hx := h1 x (List.mem_cons_self ..)
    have hq : hasI q x = false := by
      rw [← Bool.not_eq_true]
      simp only [hasI, List.any_eq_true, decide_eq_true_eq]
      rintro ⟨y, hy, rfl⟩
      exact (List.nodup_append.1 h2).2.2 y hy y (List.mem_cons_self ..) rfl
    obtain ⟨m, rfl⟩ := Int.eq_ofNat_of_zero_le hx.1
    simp only [List.length_cons, lA, List.mem_flatMap, List.mem_range]
    refine ⟨m, by omega, ?_⟩
    rw [if_neg (by simp [hq])]
    have := mem_lA r (q ++ [(m : Int)]) (fun y hy => h1 y (List.mem_cons_of_mem _ hy)) (by simpa using h2)
    simpa using this
theorem perm_mem {p : List Int} (h : permF p = true) : p ∈ lA p.length p.length [] := by
  obtain ⟨_, hP⟩ := permF_t h
  have := mem_lA (n := p.length) p [] (fun x hx => by
    obtain ⟨j, hj, rfl⟩ := List.mem_iff_getElem.1 hx
    have := inR_iff.1 (hP j hj).1
    have e : atI p j = p[j] := by simp [atI, hj]
    omega) (by
    rw [List.nil_append, List.nodup_iff_pairwise_ne, List.pairwise_iff_getElem]
    intro i j hi hj hij
    have := (hP j hj).2 i hij
    simpa [atI, hi, hj] using this)
  simpa using this
theorem lA_succ {n f : Nat} {p q : List Int} (h : q ∈ lA n (f + 1) p) : ∃ x : Nat, x < n ∧ q ∈ lA n f (p ++ [(x : Int)]) := by
  simp only [lA, List.mem_flatMap, List.mem_range] at h
  obtain ⟨x, hx, h⟩ := h
  refine ⟨x, hx, ?_⟩
  split at h
  · simp at h
  · exact h
theorem chk_all {p : List Int} (h : permF p = true) (hl : p.length ≤ 6) : chkP p = true := by
  have hm := perm_mem h
  have hc : p.length < 4 ∨ p.length = 4 ∨ p.length = 5 ∨ p.length = 6 := by omega
  rcases hc with q | q | q | q
  · exact List.all_eq_true.1 (allB_spec chk03 p.length q) p hm
  · rw [q] at hm; exact List.all_eq_true.1 chk4 p hm
  · rw [q] at hm; exact List.all_eq_true.1 chk5 p hm
  · rw [q] at hm
    obtain ⟨x, hx, hm⟩ := lA_succ hm
    have ha := chk6a
    have hb := chk6b
    have hcc := chk6c
    simp only [Bool.and_eq_true] at ha hb hcc
    have hx6 : x = 0 ∨ x = 1 ∨ x = 2 ∨ x = 3 ∨ x = 4 ∨ x = 5 := by omega
    rcases hx6 with rfl | rfl | rfl | rfl | rfl | rfl
    · exact List.all_eq_true.1 ha.1 p hm
    · exact List.all_eq_true.1 ha.2 p hm
    · exact List.all_eq_true.1 hb.1 p hm
    · exact List.all_eq_true.1 hb.2 p hm
    · exact List.all_eq_true.1 hcc.1 p hm
    · exact List.all_eq_true.1 hcc.2 p hm

theorem perm_of {b : List Int} {n : Nat} (h1 : ndL b = true) (h2 : rngL n b = true) (h3 : b.length = n) (h8 : n ≤ 8) : permF b = true := by
  have nd : ∀ {l : List Int}, ndL l = true → l.Nodup := by
    intro l
    induction l with
    | nil => intro _; exact List.nodup_nil
    | cons x l ih =>
      intro h
      simp only [ndL, Bool.and_eq_true, Bool.not_eq_true'] at h
      refine List.nodup_cons.2 ⟨fun hx => ?_, ih h.2⟩
      have : hasI l x = true := by simp only [hasI, List.any_eq_true, decide_eq_true_eq]; exact ⟨x, hx, rfl⟩
      rw [this] at h
      simp at h
  have hn := nd h1
  have hr := List.all_eq_true.1 h2
  simp only [permF, Bool.and_eq_true, decide_eq_true_eq]
  refine ⟨by omega, fun j hj => ⟨?_, fun k hk => ?_⟩⟩
  · have := hr b[j] (List.getElem_mem hj)
    simp only [Bool.and_eq_true, decide_eq_true_eq] at this
    have e : atI b j = b[j] := by simp [atI, hj]
    exact inR_iff.2 (by omega)
  · rw [List.nodup_iff_pairwise_ne, List.pairwise_iff_getElem] at hn
    have := hn k j (by omega) hj hk
    simpa [atI, hj, show k < b.length by omega] using this

/-- What the checks say. -/
structure Chk (p : List Int) : Prop where
  srt : srtF p = !c231P p
  pas : decide (psv p ≤ 1) = srtF p
  le : psv p ≤ p.length ∧ 0 ≤ psv p
  last : 0 < p.length → atI (sortR p) ((p.length : Int) - 1) = (p.length : Int) - 1
  path : pathO p = true → outO (pathRR p) p = true ∧ (∀ j : Nat, j < (outR (pathRR p) p).length → atI (outR (pathRR p) p) j = j)
  bub : permF (bubR p) = true ∧ invF (bubR p) ≤ invF p
theorem psv_one {p : List Int} (h : permF p = true) : decide (psv p ≤ 1) = (idF p || idF (sortT p [])) := by
  rcases psv_spec p with ⟨h1, _⟩ | ⟨k, _, _, h3, h4⟩
  · rw [h] at h1; cases h1
  · rw [h4]
    cases h3 with
    | done hid => simp [hid]
    | more hid n =>
      rename_i k'
      rw [hid, Bool.false_or]
      cases n with
      | done h5 => simp [h5]
      | more h5 n2 =>
        rename_i k2
        rw [h5]
        simp only [decide_eq_false_iff_not]
        omega
theorem chk_of {p : List Int} (h : permF p = true) (hl : p.length ≤ 6) : Chk p := by
  have hc := chk_all h hl
  simp only [chkP, Bool.and_eq_true, beq_iff_eq, Bool.or_eq_true, Bool.not_eq_true', decide_eq_true_eq] at hc
  obtain ⟨⟨⟨⟨c1, c2⟩, c3⟩, c4⟩, ⟨⟨c5, c6⟩, c7⟩, c8⟩ := hc
  have hs : srtF p = idL (sortT p []) 0 := by simp [srtF, h, idF_L]
  have hcc : c231P p = c231 p := by simp [c231P, h]
  refine ⟨by rw [hs, hcc, c1], ?_, ?_, fun h0 => ?_, fun ho => ?_, ?_, ?_⟩
  · rw [psv_one h, hs, idF_L, idF_L]
    rcases c2 with c2 | c2
    · rw [c2, Bool.false_or]
    · rw [c2, Bool.or_true]
  · rcases psv_spec p with ⟨h1, _⟩ | ⟨k, _, h2, _, h4⟩
    · rw [h] at h1; cases h1
    · rw [h4]; omega
  · have e : sortR p = sortT p [] := by simp [sortR, h]
    rw [e]
    rcases c3 with c3 | c3
    · omega
    · rw [show (p.length : Int) - 1 = ((p.length - 1 : Nat) : Int) by omega]; exact c3
  · have hcf : c231 p = false := by simpa [pathO, h] using ho
    rcases c4 with c4 | c4
    · rw [hcf] at c4; cases c4
    · obtain ⟨⟨d1, d2⟩, d3, d4⟩ := c4
      have e : pathRR p = pathT p [] 0 := by simp [pathRR, ho]
      rw [e]
      have hd : dyck (pathT p [] 0) = true := by
        unfold dykL at d1
        split at d1
        · rename_i hh hw
          simp only [decide_eq_true_eq] at d1
          subst d1
          simp only [dyck, hw, Bool.and_eq_true, decide_eq_true_eq]
          exact ⟨trivial, by omega⟩
        · cases d1
      have ho2 : outO (pathT p [] 0) p = true := by simp [outO, hd, h, d2]
      refine ⟨ho2, ?_⟩
      have e2 : outR (pathT p [] 0) p = outT (pathT p [] 0) p [] := by simp [outR, ho2]
      rw [e2]
      intro j hj
      have := idL_spec d3 j hj
      omega
  · have e : bubR p = iter bub (p.length - 1) p := by simp [bubR, h]
    rw [e]
    exact perm_of c5 c6 c7 (by omega)
  · have e : bubR p = iter bub (p.length - 1) p := by simp [bubR, h]
    rw [e]
    exact c8

/-- Sorted in one pass: a Catalan number of them. -/
theorem cF_cat {n : Nat} (hn : n ≤ 5) : (cF n 1 n [] : Int) = catL.getD n 0 := by
  have h1 := allB_spec cnt1 n (by omega)
  simp only [decide_eq_true_eq] at h1
  rw [← h1, cF_lA]
  congr 1
  refine List.countP_congr fun q hq => ?_
  have hlen := lA_len hq
  simp only [List.length_nil, Nat.zero_add] at hlen
  have hp : permF q = true := by
    have gen : ∀ (f : Nat) (p q : List Int), q ∈ lA n f p → p.Nodup → (∀ x ∈ p, 0 ≤ x ∧ x < (n : Int)) → q.Nodup ∧ ∀ x ∈ q, 0 ≤ x ∧ x < (n : Int) := by
      intro f
      induction f with
      | zero => intro p q h h1 h2; simp only [lA, List.mem_singleton] at h; subst h; exact ⟨h1, h2⟩
      | succ f ih =>
        intro p q h h1 h2
        simp only [lA, List.mem_flatMap, List.mem_range] at h
        obtain ⟨x, hx, h⟩ := h
        split at h
        · simp at h
        · rename_i hh
          refine ih _ _ h ?_ ?_
          · refine List.nodup_append.2 ⟨h1, by simp, fun a ha b hb e => ?_⟩
            simp only [List.mem_singleton] at hb
            subst hb
            subst e
            exact hh (by simp only [hasI, List.any_eq_true, decide_eq_true_eq]; exact ⟨_, ha, rfl⟩)
          · intro y hy
            rcases List.mem_append.1 hy with hy | hy
            · exact h2 y hy
            · simp only [List.mem_singleton] at hy; subst hy; omega
    obtain ⟨g1, g2⟩ := gen n [] q hq List.nodup_nil (by simp)
    simp only [permF, Bool.and_eq_true, decide_eq_true_eq]
    refine ⟨by omega, fun j hj => ⟨?_, fun k hk => ?_⟩⟩
    · have := g2 q[j] (List.getElem_mem hj)
      have e : atI q j = q[j] := by simp [atI, hj]
      exact inR_iff.2 (by omega)
    · rw [List.nodup_iff_pairwise_ne, List.pairwise_iff_getElem] at g1
      have := g1 k j (by omega) hj hk
      simpa [atI, hj, show k < q.length by omega] using this
  have hc := (chk_of hp (by omega)).pas
  have hs : srtF q = idL (sortT q []) 0 := by simp [srtF, hp, idF_L]
  rw [hs] at hc
  rw [hc]

/-- Two roads, one end (the end told as a function, so that no arithmetic looks at it). -/
theorem joinF {P G : Prop} (f : (Unit → G) → P) (g : G) : P := f fun _ => g

set_option maxHeartbeats 4000000 in
theorem machines_law [Has K 22 ir_spec_l1In] [Has K 23 ir_impl_within] [Has K 27 ir_impl_BallotNumber] [Has K 28 ir_impl_CatalanNumber] [Has K 49 ir_spec_PatternOf231] [Has K 50 ir_impl_PatternOf231] [Has K 51 ir_spec_BubbleOnce] [Has K 52 ir_impl_BubbleOnce] [Has K 61 ir_spec_SortOnce] [Has K 62 ir_impl_SortOnce] [Has K 64 ir_spec_IsDyck] [Has K 67 ir_impl_IsDyck] [Has K 73 ir_spec_IsPermutation] [Has K 74 ir_impl_IsPermutation] [Has K 75 ir_impl_copyInts] [Has K 80 ir_spec_l31Sort] [Has K 81 ir_slices_Reverse___int_int_] [Has K 82 ir_impl_heights] [Has K 101 ir_spec_IsSortable] [Has K 102 ir_impl_IsSortable] [Has K 105 ir_spec_PassesOf] [Has K 106 ir_impl_PassesOf] [Has K 109 ir_spec_OutputOf] [Has K 110 ir_impl_OutputOf] [Has K 111 ir_spec_CountSortable] [Has K 112 ir_impl_CountSortable] [Has K 130 ir_spec_l31Sorted] [Has K 131 ir_impl_ascends] [Has K 132 ir_impl_SizeOf] [Has K 133 ir_spec_l10All] [Has K 134 ir_impl_CountSortable_f1] [Has K 135 ir_slices_Contains___int_int_] [Has K 156 ir_spec_PathOfPermutation] [Has K 178 ir_slices_IsSorted___int_int_] [Has K 179 ir_slices_Index___int_int_] [Has K 186 ir_spec_Contains231] [Has K 187 ir_impl_Contains231] [Has K 203 ir_cmp_Less_int_] [Has K 205 ir_impl_hasTriple] [Has K 206 ir_impl_Contains231_f1] [Has K 211 ir_cmp_isNaN_int_] [Has K 216 ir_laws_FnMachines] [Has K 220 ir_laws_big] [Has K 238 ir_spec_DrawSortOnce] [Has K 239 ir_laws_sameInts] [Has K 240 ir_spec_DrawOutputOf] [Has K 241 ir_spec_DrawPatternOf231] [Has K 242 ir_spec_DrawBubbleOnce] [Has K 243 ir_impl_InversionsOf] [Has K 244 ir_spec_DrawCountSortable] [Has K 288 ir_spec_l1New] [Has K 289 ir_spec_l1Below] [Has K 305 ir_spec_l10Any] [Has K 306 ir_spec_l2Draw] [Has K 307 ir_spec_l1Once] [Has K 313 ir_spec_l1PickInt] [Has K 316 ir_spec_l1Byte] [Has K 317 ir_spec_l2Path] [Has K 325 ir_spec_PermutationOf] (code : List Nat) : K 216 [LB code] [.b true] := by
  refine body_by (f := ir_laws_FnMachines) rfl ?_; simp only [ir_laws_FnMachines]
  by_cases hl : code.length ≤ 1048576
  · obtain ⟨_, ⟨p, rfl, hp6⟩, k1⟩ := DrawSortOnce_ok (K := K) hl
    obtain ⟨_, ⟨w, q, rfl, hw, hq6⟩, k2⟩ := DrawOutputOf_ok (K := K) hl
    obtain ⟨_, ⟨a, rfl, ha6⟩, k3⟩ := DrawPatternOf231_ok (K := K) hl
    obtain ⟨_, ⟨d, rfl, hd6⟩, k4⟩ := DrawBubbleOnce_ok (K := K) hl
    obtain ⟨_, ⟨g, h, rfl, hg, hh⟩, k5⟩ := DrawCountSortable_ok (K := K) hl
    have ls := sortR_len (p := p)
    have lo := outR_len (w := w) (p := q)
    have lpa := patR_len (p := a)
    have lb := bubR_len (p := d)
    have lpq := pathRR_len (p := q)
    simp (disch := first | omega | (simp only [vl]; omega)) only [vcd]
    refine call_by (bigQ_ok (K := K)) rfl ?_
    simp (disch := first | omega | (simp only [vl]; omega)) only [vcd]
    refine call_by (k1) rfl ?_
    simp (disch := first | omega | (simp only [vl]; omega)) only [vcd]
    refine call_by (sortO_i (K := K) (p := p) (by omega)) rfl ?_
    simp (disch := first | omega | (simp only [vl]; omega)) only [vcd]
    refine call_by (sortO_s (K := K) (p := p) (by omega)) rfl ?_
    simp (disch := first | omega | (simp only [vl]; omega)) only [vcd]
    refine call_by (sameIntsQ (K := K) (a := sortR p) (by omega)) rfl ?_
    simp (disch := first | omega | (simp only [vl]; omega)) only [vcd]
    refine call_by (srt_i (K := K) (p := p) (by omega)) rfl ?_
    simp (disch := first | omega | (simp only [vl]; omega)) only [vcd]
    refine call_by (srt_s (K := K) (p := p) (by omega)) rfl ?_
    simp (disch := first | omega | (simp only [vl]; omega)) only [vcd]
    apply joinF
    · intro hG
      cases hp : permF p
      · simp (disch := first | omega | (simp only [vl]; omega)) only [vcd]
        refine call_by (psv_i (K := K) (p := p) (by omega)) rfl ?_
        simp (disch := first | omega | (simp only [vl]; omega)) only [vcd]
        refine call_by (psv_s (K := K) (p := p) (by omega)) rfl ?_
        simp (disch := first | omega | (simp only [vl]; omega)) only [vcd]
        refine call_by (k2) rfl ?_
        simp (disch := first | omega | (simp only [vl]; omega)) only [vcd]
        exact hG ()
      · have hc := chk_of hp hp6
        have h1 := hc.srt
        have h2 := hc.pas
        have h3 := hc.le
        have hsl : (sortR p).length = p.length := by simp [sortR, hp, sortT_len]
        simp (disch := first | omega | (simp only [vl]; omega)) only [vcd]
        refine call_by (srt_i (K := K) (p := p) (by omega)) rfl ?_
        simp (disch := first | omega | (simp only [vl]; omega)) only [vcd]
        refine call_by (con231_i (K := K) (p := p) (by omega)) rfl ?_
        simp (disch := first | omega | (simp only [vl]; omega)) only [vcd, h1]
        refine call_by (psv_i (K := K) (p := p) (by omega)) rfl ?_
        simp (disch := first | omega | (simp only [vl]; omega)) only [vcd]
        refine call_by (psv_s (K := K) (p := p) (by omega)) rfl ?_
        simp (disch := first | omega | (simp only [vl]; omega)) only [vcd]
        refine call_by (srt_i (K := K) (p := p) (by omega)) rfl ?_
        simp (disch := first | omega | (simp only [vl]; omega)) only [vcd, h2, h1]
        by_cases h0 : 0 < p.length
        · have h4 := hc.last h0
          simp (disch := first | omega | (simp only [vl]; omega)) only [vcd, h4]
          refine call_by (k2) rfl ?_
          simp (disch := first | omega | (simp only [vl]; omega)) only [vcd]
          exact hG ()
        · simp (disch := first | omega | (simp only [vl]; omega)) only [vcd]
          refine call_by (k2) rfl ?_
          simp (disch := first | omega | (simp only [vl]; omega)) only [vcd]
          exact hG ()
    refine call_by (out_i (K := K) (w := w) (p := q) (by omega) (by omega)) rfl ?_
    simp (disch := first | omega | (simp only [vl]; omega)) only [vcd]
    refine call_by (out_s (K := K) (w := w) (p := q) (by omega) (by omega)) rfl ?_
    simp (disch := first | omega | (simp only [vl]; omega)) only [vcd]
    refine call_by (sameIntsQ (K := K) (a := outR w q) (by omega)) rfl ?_
    simp (disch := first | omega | (simp only [vl]; omega)) only [vcd]
    refine call_by (path_s (K := K) (p := q) (by omega)) rfl ?_
    simp (disch := first | omega | (simp only [vl]; omega)) only [vcd]
    apply joinF
    · intro hG
      cases ho : pathO q
      · simp (disch := first | omega | (simp only [vl]; omega)) only [vcd]
        refine call_by (k3) rfl ?_
        simp (disch := first | omega | (simp only [vl]; omega)) only [vcd]
        exact hG ()
      · have hpq : permF q = true := by
          have : permF q = true ∧ c231 q = false := by simpa [pathO] using ho
          exact this.1
        obtain ⟨o1, o2⟩ := (chk_of hpq hq6).path ho
        have lz := outR_len (w := pathRR q) (p := q)
        simp (disch := first | omega | (simp only [vl]; omega)) only [vcd]
        refine call_by (out_i (K := K) (w := pathRR q) (p := q) (by omega) (by omega)) rfl ?_
        simp (disch := first | omega | (simp only [vl]; omega)) only [vcd, o1]
        refine loop_ix (fun i => True) (fun i => [LB code, .u, .u, .u, .u, .u, .u, .u, .u, .u, .u, .u, .u, .u, .u, .u, LI (outR (pathRR q) q), .b true, .n i, .u, .u, .u, .u, .u, .u, .u, .u, .u, .u, .u, .u, .u, .u, .u, .u, .u, .u, .u, .u, .u, .u, .u]) (outR (pathRR q) q).length trivial rfl (fun i hi hP => ?_) (fun hP => ?_)
        · have := o2 i hi
          simp (disch := first | omega | (simp only [vl]; omega)) only [vcd, this]
        · simp (disch := first | omega | (simp only [vl]; omega)) only [vcd]
          refine call_by (k3) rfl ?_
          simp (disch := first | omega | (simp only [vl]; omega)) only [vcd]
          exact hG ()
    refine call_by (pat_i (K := K) (p := a) (by omega)) rfl ?_
    simp (disch := first | omega | (simp only [vl]; omega)) only [vcd]
    refine call_by (pat_s (K := K) (p := a) (by omega)) rfl ?_
    simp (disch := first | omega | (simp only [vl]; omega)) only [vcd]
    refine call_by (sameIntsQ (K := K) (a := patR a) (by omega)) rfl ?_
    simp (disch := first | omega | (simp only [vl]; omega)) only [vcd]
    refine call_by (con231_s (K := K) (p := a) (by omega)) rfl ?_
    simp (disch := first | omega | (simp only [vl]; omega)) only [vcd, patO_c231]
    refine call_by (k4) rfl ?_
    simp (disch := first | omega | (simp only [vl]; omega)) only [vcd]
    refine call_by (bub_i (K := K) (p := d) (by omega)) rfl ?_
    simp (disch := first | omega | (simp only [vl]; omega)) only [vcd]
    refine call_by (bub_s (K := K) (p := d) (by omega)) rfl ?_
    simp (disch := first | omega | (simp only [vl]; omega)) only [vcd]
    refine call_by (sameIntsQ (K := K) (a := bubR d) (by omega)) rfl ?_
    simp (disch := first | omega | (simp only [vl]; omega)) only [vcd]
    apply joinF
    · intro hG
      cases hp : permF d
      · simp (disch := first | omega | (simp only [vl]; omega)) only [vcd]
        refine call_by (k5) rfl ?_
        simp (disch := first | omega | (simp only [vl]; omega)) only [vcd]
        exact hG ()
      · obtain ⟨b1, b2⟩ := (chk_of hp hd6).bub
        have i1 := inv_i (K := K) (p := bubR d) (by omega) b1
        have i2 := inv_i (K := K) (p := d) (by omega) hp
        simp (disch := first | omega | (simp only [vl]; omega)) only [vcd]
        refine call_by (i1) rfl ?_
        simp (disch := first | omega | (simp only [vl]; omega)) only [vcd]
        refine call_by (i2) rfl ?_
        simp (disch := first | omega | (simp only [vl]; omega)) only [vcd]
        refine call_by (k5) rfl ?_
        simp (disch := first | omega | (simp only [vl]; omega)) only [vcd]
        exact hG ()
    by_cases h1 : h = 1
    · subst h1
      by_cases h5 : g ≤ 5
      · obtain ⟨n, rfl⟩ := Int.eq_ofNat_of_zero_le hg.1
        have c1 := cs_i5 (K := K) (n := n) (m := 1) (by omega) (by omega)
        have c2 := cs_s5 (K := K) (n := n) (m := 1) (by omega) (by omega)
        have c3 : (cF n 1 n [] : Int) = catL.getD n 0 := cF_cat (by omega)
        have c4 : cF n ((1 : Nat) : Int) n [] = cF n 1 n [] := rfl
        rw [c4] at c1 c2
        refine call_by (c1) rfl ?_
        simp (disch := first | omega | (simp only [vl]; omega)) only [vcd]
        refine call_by (c2) rfl ?_
        simp (disch := first | omega | (simp only [vl]; omega)) only [vcd]
        refine call_by (cat_i (K := K) (n := n) (by omega)) rfl ?_
        rw [← c3]
        simp (disch := first | omega | (simp only [vl]; omega)) only [vcd]
      · have c1 := cs_out_i (K := K) (a := g) (b := 1) (by omega)
        have c2 := cs_out_s (K := K) (a := g) (b := 1) (by omega)
        refine call_by (c1) rfl ?_
        simp (disch := first | omega | (simp only [vl]; omega)) only [vcd]
        refine call_by (c2) rfl ?_
        simp (disch := first | omega | (simp only [vl]; omega)) only [vcd]
    · obtain ⟨v, c1, c2⟩ := cs_same (K := K) g h
      refine call_by (c1) rfl ?_
      simp (disch := first | omega | (simp only [vl]; omega)) only [vcd]
      refine call_by (c2) rfl ?_
      simp (disch := first | omega | (simp only [vl]; omega)) only [vcd]
      by_cases hv : v < 0
      · simp (disch := first | omega | (simp only [vl]; omega)) only [vcd]
      · simp (disch := first | omega | (simp only [vl]; omega)) only [vcd]
  · simp (disch := first | omega | (simp only [vl]; omega)) only [vcd]
    refine call_by (bigQ_ok (K := K)) rfl ?_
    simp (disch := first | omega | (simp only [vl]; omega)) only [vcd]
end Go.Cat

