/-
  Stack sorting, bubbles, patterns.
-/
import Derived.Test.YthbpihoafdpicaaPfPerm
import Derived.Test.YthbpihoafdpicaaPfH
import Derived.Test.YthbpihoafdpicaaIrAllA
namespace Go.Cat
variable {K : Nat → List D → List D → Prop}

/-- One exchange. -/
def bub (i : Nat) (o : List Int) : List Int := if atI o (i + 1) < atI o i then seI (seI o i (atI o (i + 1))) ((i : Int) + 1) (atI o i) else o
theorem bub_len {i : Nat} {o : List Int} : (bub i o).length = o.length := by unfold bub; split <;> simp [seI]
def bubR (p : List Int) : List Int := if permF p = true then iter bub (p.length - 1) p else []
theorem bubR_len {p : List Int} : (bubR p).length ≤ p.length := by
  unfold bubR; split
  · exact Nat.le_of_eq (iter_inv (fun (s : List Int) => s.length = p.length) rfl (fun i s h => by rw [bub_len, h]) _)
  · simp

theorem bub_i [Has K 23 ir_impl_within] [Has K 52 ir_impl_BubbleOnce] [Has K 74 ir_impl_IsPermutation] [Has K 75 ir_impl_copyInts] {p : List Int} (h : p.length ≤ 1048576) : K 52 [LI p] [LI (bubR p), .b (permF p)] := by
  refine body_by (f := ir_impl_BubbleOnce) rfl ?_; simp only [ir_impl_BubbleOnce]
  simp (disch := first | omega | (simp only [vl]; omega)) only [vcd]
  cases hp : permF p
  · repeat (first | (refine call_by (perm_i (K := K) (by omega)) rfl ?_; try simp (disch := first | omega | (simp only [vl]; omega)) only [vcd, hp]))
    simp [bubR, hp]; rfl
  · repeat (first | (refine call_by (perm_i (K := K) (by omega)) rfl ?_; try simp (disch := first | omega | (simp only [vl]; omega)) only [vcd, hp]) | (refine call_by (copyInts_ok (K := K) (by omega)) rfl ?_; try simp (disch := first | omega | (simp only [vl]; omega)) only [vcd, hp]))
    refine loop_fold bub (fun _ (o : List Int) => o.length = p.length) (fun i o => [.u, .u, .u, LI o, .n ((i : Int) + 1), .u, .u, .u]) (p.length - 1) p rfl rfl (fun i o _ ho => by rw [bub_len, ho]) (fun i o hi ho _ => ?_) (fun o ho1 ho => ?_)
    · by_cases hc : atI o (i + 1) < atI o i
      · simp (disch := first | omega | (simp only [vl]; omega)) only [vcd, Int.add_sub_cancel, bub, hc]
      · simp (disch := first | omega | (simp only [vl]; omega)) only [vcd, Int.add_sub_cancel, bub, hc]
    · simp (disch := first | omega | (simp only [vl]; omega)) only [vcd]
      simp only [bubR, hp, if_true, ho1]

theorem bub_s [Has K 22 ir_spec_l1In] [Has K 51 ir_spec_BubbleOnce] [Has K 73 ir_spec_IsPermutation] {p : List Int} (h : p.length ≤ 1048576) : K 51 [LI p] [LI (bubR p), .b (permF p)] := by
  refine body_by (f := ir_spec_BubbleOnce) rfl ?_; simp only [ir_spec_BubbleOnce]
  simp (disch := first | omega | (simp only [vl]; omega)) only [vcd]
  cases hp : permF p
  · repeat (first | (refine call_by (perm_s (K := K) (by omega)) rfl ?_; try simp (disch := first | omega | (simp only [vl]; omega)) only [vcd, hp]))
    simp [bubR, hp]; rfl
  · repeat (first | (refine call_by (perm_s (K := K) (by omega)) rfl ?_; try simp (disch := first | omega | (simp only [vl]; omega)) only [vcd, hp, LI_nil]))
    refine loop_fold bub (fun _ (o : List Int) => o.length = p.length) (fun i o => [.u, .u, .u, LI o, .n ((i : Int) + 1), .u, .u, .u, .u]) (p.length - 1) p rfl rfl (fun i o _ ho => by rw [bub_len, ho]) (fun i o hi ho _ => ?_) (fun o ho1 ho => ?_)
    · by_cases hc : atI o (i + 1) < atI o i
      · have e : seI (seI o ((i : Int) + 1) (atI o i)) i (atI o (i + 1)) = seI (seI o i (atI o (i + 1))) ((i : Int) + 1) (atI o i) := by
          simp only [seI]
          rw [List.set_comm]
          omega
        simp (disch := first | omega | (simp only [vl]; omega)) only [vcd, Int.add_sub_cancel, bub, hc, e]
      · simp (disch := first | omega | (simp only [vl]; omega)) only [vcd, Int.add_sub_cancel, bub, hc]
    · simp (disch := first | omega | (simp only [vl]; omega)) only [vcd]
      simp only [bubR, hp, if_true, ho1]

theorem bub_law [Has K 22 ir_spec_l1In] [Has K 23 ir_impl_within] [Has K 33 ir_laws_FnExactBubbleOnce] [Has K 42 ir_laws_toIntS] [Has K 44 ir_laws_eqIntS] [Has K 45 ir_laws_markIntS] [Has K 46 ir_laws_heldIntS] [Has K 51 ir_spec_BubbleOnce] [Has K 52 ir_impl_BubbleOnce] [Has K 73 ir_spec_IsPermutation] [Has K 74 ir_impl_IsPermutation] [Has K 75 ir_impl_copyInts] (p : List Int) : K 33 [LI p] [.b true] := by
  refine body_by (f := ir_laws_FnExactBubbleOnce) rfl ?_; simp only [ir_laws_FnExactBubbleOnce]
  have hr := bubR_len (p := p)
  by_cases h : p.length ≤ 1048576 <;> simp (disch := first | omega | (simp only [vl]; omega)) only [vcd]
  repeat (first | (refine call_by (toIntS_ok (K := K) (by omega)) rfl ?_; try simp (disch := first | omega | (simp only [vl]; omega)) only [vcd]) | (refine call_by (bub_s (K := K) h) rfl ?_; try simp (disch := first | omega | (simp only [vl]; omega)) only [vcd]) | (refine call_by (bub_i (K := K) h) rfl ?_; try simp (disch := first | omega | (simp only [vl]; omega)) only [vcd]) | (refine call_by (eqIntS_t (K := K) (by omega)) rfl ?_; try simp (disch := first | omega | (simp only [vl]; omega)) only [vcd]) | (refine call_by (markIntS_ok (K := K) (by omega) (by omega)) rfl ?_; try simp (disch := first | omega | (simp only [vl]; omega)) only [vcd]) | (refine call_by (held_mark (K := K) (by omega) (by omega)) rfl ?_; try simp (disch := first | omega | (simp only [vl]; omega)) only [vcd]))

/-- A pattern 231 at three places. -/
def pat (p : List Int) (i j k : Nat) : Prop := i < j ∧ j < k ∧ k < p.length ∧ atI p k < atI p i ∧ atI p i < atI p j
def first (p : List Int) (t : Nat × Nat × Nat) : Prop := pat p t.1 t.2.1 t.2.2 ∧ ∀ i j k, pat p i j k → ¬ (i < t.1 ∨ (i = t.1 ∧ (j < t.2.1 ∨ (j = t.2.1 ∧ k < t.2.2))))
theorem first_eq {p : List Int} {t u : Nat × Nat × Nat} (h : first p t) (g : first p u) : t = u := by
  obtain ⟨a, b, c⟩ := t
  obtain ⟨d, e, f⟩ := u
  have h1 := h.2 d e f g.1
  have h2 := g.2 a b c h.1
  simp only at h1 h2
  have : a = d := by omega
  have : b = e := by omega
  have : c = f := by omega
  simp_all
open Classical in
noncomputable def patO (p : List Int) : Bool := permF p && decide (∃ t, first p t)
open Classical in
noncomputable def patR (p : List Int) : List Int := if h : permF p = true ∧ ∃ t, first p t then [(h.2.choose.1 : Int), h.2.choose.2.1, h.2.choose.2.2] else []

theorem pat_yes {p : List Int} {i j k : Nat} (hp : permF p = true) (h : first p (i, j, k)) : patO p = true ∧ patR p = [(i : Int), j, k] := by
  have hx : ∃ t, first p t := ⟨_, h⟩
  refine ⟨by simp [patO, hp, hx], ?_⟩
  unfold patR
  rw [dif_pos ⟨hp, hx⟩]
  have := first_eq (Exists.choose_spec (⟨hp, hx⟩ : permF p = true ∧ ∃ t, first p t).2) h
  rw [this]
theorem pat_no {p : List Int} (h : ∀ i j k, ¬ pat p i j k) : patO p = false ∧ patR p = [] := by
  have hx : ¬ ∃ t, first p t := fun ⟨t, ht⟩ => h _ _ _ ht.1
  refine ⟨by simp [patO, hx], ?_⟩
  unfold patR
  rw [dif_neg (fun q => hx q.2)]
theorem pat_np {p : List Int} (h : permF p = false) : patO p = false ∧ patR p = [] := by
  refine ⟨by simp [patO, h], ?_⟩
  unfold patR
  rw [dif_neg (fun q => by rw [h] at q; cases q.1)]
theorem patR_len {p : List Int} : (patR p).length ≤ 3 := by unfold patR; split <;> simp

theorem pat_i [Has K 23 ir_impl_within] [Has K 50 ir_impl_PatternOf231] [Has K 74 ir_impl_IsPermutation] {p : List Int} (h : p.length ≤ 1048576) : K 50 [LI p] [LI (patR p), .b (patO p)] := by
  refine body_by (f := ir_impl_PatternOf231) rfl ?_; simp only [ir_impl_PatternOf231]
  simp (disch := first | omega | (simp only [vl]; omega)) only [vcd]
  cases hp : permF p
  · repeat (first | (refine call_by (perm_i (K := K) (by omega)) rfl ?_; try simp (disch := first | omega | (simp only [vl]; omega)) only [vcd, hp]))
    obtain ⟨e1, e2⟩ := pat_np hp
    rw [e1, e2]; rfl
  · repeat (first | (refine call_by (perm_i (K := K) (by omega)) rfl ?_; try simp (disch := first | omega | (simp only [vl]; omega)) only [vcd, hp]))
    refine loop_ix (fun i => ∀ a : Nat, a < i → ∀ b c, ¬ pat p a b c) (fun i => [LI p, .u, .u, .u, .u, .u, .u, .n p.length, .n i, .u, .u, .u, .u]) p.length (by simp) rfl (fun i hi hP => ?_) (fun hP => ?_)
    · simp (disch := first | omega | (simp only [vl]; omega)) only [vcd]
      refine loop_ix (fun m => ∀ b : Nat, b < m → ∀ c, ¬ pat p i (i + 1 + b) c) (fun m => [LI p, .u, .u, .n i, .n ((i : Int) + 1 + m), .u, .u, .n p.length, .n i, .u, .u, .u, .u]) (p.length - (i + 1)) (by simp) (by simp (disch := first | omega | (simp only [vl]; omega)) only [vcd, Int.add_zero]) (fun m hm hQ => ?_) (fun hQ => ?_)
      · simp (disch := first | omega | (simp only [vl]; omega)) only [vcd]
        refine loop_ix (fun k => ∀ c : Nat, c < k → ¬ pat p i (i + 1 + m) (i + 1 + m + 1 + c)) (fun k => [LI p, .u, .u, .n i, .n ((i : Int) + 1 + m), .n ((i : Int) + 1 + m + 1 + k), .u, .n p.length, .n i, .u, .u, .u, .u]) (p.length - (i + 1 + m + 1)) (by simp) (by simp (disch := first | omega | (simp only [vl]; omega)) only [vcd, Int.add_zero]) (fun k hk hR => ?_) (fun hR => ?_)
        · by_cases h1 : atI p ((i : Int) + 1 + m + 1 + k) < atI p i <;> by_cases h2 : atI p i < atI p ((i : Int) + 1 + m)
          · simp (disch := first | omega | (simp only [vl]; omega)) only [vcd]
            have hf : first p (i, i + 1 + m, i + 1 + m + 1 + k) := by
              refine ⟨⟨by show i < i + 1 + m; omega, by show i + 1 + m < i + 1 + m + 1 + k; omega, by show i + 1 + m + 1 + k < p.length; omega, ?_, ?_⟩, ?_⟩
              · exact_mod_cast h1
              · exact_mod_cast h2
              · rintro a b c hq hlt
                simp only at hlt
                rcases hlt with hlt | ⟨rfl, hlt | ⟨rfl, hlt⟩⟩
                · exact hP a hlt b c hq
                · have := hq.1
                  have hb := hQ (b - (a + 1)) (by omega) c
                  rw [show a + 1 + (b - (a + 1)) = b by omega] at hb
                  exact hb hq
                · have := hq.2.1
                  have hb := hR (c - (a + 1 + m + 1)) (by omega)
                  rw [show a + 1 + m + 1 + (c - (a + 1 + m + 1)) = c by omega] at hb
                  exact hb hq
            obtain ⟨e1, e2⟩ := pat_yes hp hf
            rw [e1, e2]
            rfl
          all_goals
            simp (disch := first | omega | (simp only [vl]; omega)) only [vcd, ← Int.add_assoc]
            refine all_s hR fun hq => ?_
            have q1 := hq.2.2.2.1
            have q2 := hq.2.2.2.2
            have e1 : (((i + 1 + m + 1 + k : Nat)) : Int) = (i : Int) + 1 + m + 1 + k := by omega
            have e2 : (((i + 1 + m : Nat)) : Int) = (i : Int) + 1 + m := by omega
            rw [e1] at q1
            rw [e2] at q2
            omega
        · simp (disch := first | omega | (simp only [vl]; omega)) only [vcd, ← Int.add_assoc]
          refine all_s hQ fun c hq => ?_
          have q1 := hq.2.1
          have q2 := hq.2.2.1
          have hb := hR (c - (i + 1 + m + 1)) (by omega)
          rw [show i + 1 + m + 1 + (c - (i + 1 + m + 1)) = c by omega] at hb
          exact hb hq
      · simp (disch := first | omega | (simp only [vl]; omega)) only [vcd]
        refine all_s hP fun b c hq => ?_
        have q1 := hq.1
        have q2 := hq.2.1
        have q3 := hq.2.2.1
        have hb := hQ (b - (i + 1)) (by omega) c
        rw [show i + 1 + (b - (i + 1)) = b by omega] at hb
        exact hb hq
    · simp (disch := first | omega | (simp only [vl]; omega)) only [vcd]
      obtain ⟨e1, e2⟩ := pat_no (p := p) fun a b c hq => hP a (by have := hq.1; have := hq.2.1; have := hq.2.2.1; omega) b c hq
      rw [e1, e2]; rfl

theorem pat_s [Has K 22 ir_spec_l1In] [Has K 49 ir_spec_PatternOf231] [Has K 73 ir_spec_IsPermutation] {p : List Int} (h : p.length ≤ 1048576) : K 49 [LI p] [LI (patR p), .b (patO p)] := by
  refine body_by (f := ir_spec_PatternOf231) rfl ?_; simp only [ir_spec_PatternOf231]
  simp (disch := first | omega | (simp only [vl]; omega)) only [vcd]
  cases hp : permF p
  · refine loop_ix (fun _ => False ∨ True) (fun i => [LI p, .u, .u, .n i, .u, .u, .u, .u, .u, .u]) p.length (by simp) rfl (fun i hi _ => ?_) (fun _ => ?_)
    · simp (disch := first | omega | (simp only [vl]; omega)) only [vcd]
      repeat (first | (refine call_by (perm_s (K := K) (by omega)) rfl ?_; try simp (disch := first | omega | (simp only [vl]; omega)) only [vcd, hp]))
      obtain ⟨e1, e2⟩ := pat_np hp
      rw [e1, e2]; rfl
    · simp (disch := first | omega | (simp only [vl]; omega)) only [vcd]
      obtain ⟨e1, e2⟩ := pat_np hp
      rw [e1, e2]; rfl
  · refine loop_ix (fun i => ∀ a : Nat, a < i → ∀ b c, ¬ pat p a b c) (fun i => [LI p, .u, .u, .n i, .u, .u, .u, .u, .u, .u]) p.length (by simp) rfl (fun i hi hP => ?_) (fun hP => ?_)
    · simp (disch := first | omega | (simp only [vl]; omega)) only [vcd]
      repeat (first | (refine call_by (perm_s (K := K) (by omega)) rfl ?_; try simp (disch := first | omega | (simp only [vl]; omega)) only [vcd, hp]))
      refine loop_ix (fun m => ∀ b : Nat, b < m → ∀ c, ¬ pat p i (i + 1 + b) c) (fun m => [LI p, .u, .u, .n i, .n ((i : Int) + 1 + m), .u, .u, .u, .u, .u]) (p.length - (i + 1)) (by simp) (by simp (disch := first | omega | (simp only [vl]; omega)) only [vcd, Int.add_zero]) (fun m hm hQ => ?_) (fun hQ => ?_)
      · simp (disch := first | omega | (simp only [vl]; omega)) only [vcd]
        refine loop_ix (fun k => ∀ c : Nat, c < k → ¬ pat p i (i + 1 + m) (i + 1 + m + 1 + c)) (fun k => [LI p, .u, .u, .n i, .n ((i : Int) + 1 + m), .n ((i : Int) + 1 + m + 1 + k), .u, .u, .u, .u]) (p.length - (i + 1 + m + 1)) (by simp) (by simp (disch := first | omega | (simp only [vl]; omega)) only [vcd, Int.add_zero]) (fun k hk hR => ?_) (fun hR => ?_)
        · by_cases h1 : atI p ((i : Int) + 1 + m + 1 + k) < atI p i <;> by_cases h2 : atI p i < atI p ((i : Int) + 1 + m)
          · simp (disch := first | omega | (simp only [vl]; omega)) only [vcd]
            have hf : first p (i, i + 1 + m, i + 1 + m + 1 + k) := by
              refine ⟨⟨by show i < i + 1 + m; omega, by show i + 1 + m < i + 1 + m + 1 + k; omega, by show i + 1 + m + 1 + k < p.length; omega, ?_, ?_⟩, ?_⟩
              · exact_mod_cast h1
              · exact_mod_cast h2
              · rintro a b c hq hlt
                simp only at hlt
                rcases hlt with hlt | ⟨rfl, hlt | ⟨rfl, hlt⟩⟩
                · exact hP a hlt b c hq
                · have := hq.1
                  have hb := hQ (b - (a + 1)) (by omega) c
                  rw [show a + 1 + (b - (a + 1)) = b by omega] at hb
                  exact hb hq
                · have := hq.2.1
                  have hb := hR (c - (a + 1 + m + 1)) (by omega)
                  rw [show a + 1 + m + 1 + (c - (a + 1 + m + 1)) = c by omega] at hb
                  exact hb hq
            obtain ⟨e1, e2⟩ := pat_yes hp hf
            rw [e1, e2]
            rfl
          all_goals
            simp (disch := first | omega | (simp only [vl]; omega)) only [vcd, ← Int.add_assoc]
            refine all_s hR fun hq => ?_
            have q1 := hq.2.2.2.1
            have q2 := hq.2.2.2.2
            have e1 : (((i + 1 + m + 1 + k : Nat)) : Int) = (i : Int) + 1 + m + 1 + k := by omega
            have e2 : (((i + 1 + m : Nat)) : Int) = (i : Int) + 1 + m := by omega
            rw [e1] at q1
            rw [e2] at q2
            omega
        · simp (disch := first | omega | (simp only [vl]; omega)) only [vcd, ← Int.add_assoc]
          refine all_s hQ fun c hq => ?_
          have q1 := hq.2.1
          have q2 := hq.2.2.1
          have hb := hR (c - (i + 1 + m + 1)) (by omega)
          rw [show i + 1 + m + 1 + (c - (i + 1 + m + 1)) = c by omega] at hb
          exact hb hq
      · simp (disch := first | omega | (simp only [vl]; omega)) only [vcd]
        refine all_s hP fun b c hq => ?_
        have q1 := hq.1
        have q2 := hq.2.1
        have q3 := hq.2.2.1
        have hb := hQ (b - (i + 1)) (by omega) c
        rw [show i + 1 + (b - (i + 1)) = b by omega] at hb
        exact hb hq
    · simp (disch := first | omega | (simp only [vl]; omega)) only [vcd]
      obtain ⟨e1, e2⟩ := pat_no (p := p) fun a b c hq => hP a (by have := hq.1; have := hq.2.1; have := hq.2.2.1; omega) b c hq
      rw [e1, e2]; rfl

theorem pat_law [Has K 22 ir_spec_l1In] [Has K 23 ir_impl_within] [Has K 32 ir_laws_FnExactPatternOf231] [Has K 42 ir_laws_toIntS] [Has K 44 ir_laws_eqIntS] [Has K 45 ir_laws_markIntS] [Has K 46 ir_laws_heldIntS] [Has K 49 ir_spec_PatternOf231] [Has K 50 ir_impl_PatternOf231] [Has K 73 ir_spec_IsPermutation] [Has K 74 ir_impl_IsPermutation] (p : List Int) : K 32 [LI p] [.b true] := by
  refine body_by (f := ir_laws_FnExactPatternOf231) rfl ?_; simp only [ir_laws_FnExactPatternOf231]
  have hr := patR_len (p := p)
  by_cases h : p.length ≤ 1048576 <;> simp (disch := first | omega | (simp only [vl]; omega)) only [vcd]
  repeat (first | (refine call_by (toIntS_ok (K := K) (by omega)) rfl ?_; try simp (disch := first | omega | (simp only [vl]; omega)) only [vcd]) | (refine call_by (pat_s (K := K) h) rfl ?_; try simp (disch := first | omega | (simp only [vl]; omega)) only [vcd]) | (refine call_by (pat_i (K := K) h) rfl ?_; try simp (disch := first | omega | (simp only [vl]; omega)) only [vcd]) | (refine call_by (eqIntS_t (K := K) (by omega)) rfl ?_; try simp (disch := first | omega | (simp only [vl]; omega)) only [vcd]) | (refine call_by (markIntS_ok (K := K) (by omega) (by omega)) rfl ?_; try simp (disch := first | omega | (simp only [vl]; omega)) only [vcd]) | (refine call_by (held_mark (K := K) (by omega) (by omega)) rfl ?_; try simp (disch := first | omega | (simp only [vl]; omega)) only [vcd]))
end Go.Cat

