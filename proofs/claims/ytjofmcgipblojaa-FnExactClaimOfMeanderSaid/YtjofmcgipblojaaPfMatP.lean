/-
  The partners of a path's letters, as both sides find them.
-/
import Derived.Test.YtjofmcgipblojaaPfMat
import Derived.Test.YtjofmcgipblojaaPfAp
import Derived.Test.YtjofmcgipblojaaPfSort
import Derived.Test.YtjofmcgipblojaaIrAllA
namespace Go.Cat
set_option linter.unusedSimpArgs false
variable {K : Nat → List D → List D → Prop}

def cI (l : List Nat) : List Int := l.map fun (j : Nat) => (j : Int)
theorem cI_cons {j : Nat} {l : List Nat} : (cI (j :: l)).reverse = (cI l).reverse ++ [(j : Int)] := by simp [cI]
theorem cI_len {l : List Nat} : ((cI l).reverse).length = l.length := by simp [cI]

theorem cI_l {l : List Nat} : (cI l).length = l.length := by simp [cI]
theorem Hh_le {w : List Nat} {i : Nat} : Hh w i ≤ i := by
  have := cnt_le (w := w.take i) (c := 117)
  simp only [Hh]
  simp only [List.length_take] at this
  omega

/-- What is known of the partners found so far. -/
def PS (w : List Nat) (i : Nat) (out : List Int) (st : List Nat) : Prop :=
  SO w st i ∧ out.length = w.length ∧ ∀ a : Nat, a < i → a ∉ st → ∃ b : Nat, atI out a = b ∧ (PR w a b ∨ PR w b a)
theorem PS_up {w : List Nat} {i : Nat} {out : List Int} {st : List Nat} (h : PS w i out st) (hi : i < w.length) (hu : atB w i = 117) : PS w (i + 1) out (i :: st) := by
  obtain ⟨h1, h2, h3⟩ := h
  refine ⟨SO_up h1 hi hu, h2, fun a ha hn => ?_⟩
  have e : a ≠ i := fun e => hn (by rw [e]; exact List.mem_cons_self ..)
  exact h3 a (by omega) fun q => hn (List.mem_cons_of_mem _ q)
theorem PS_dn {w : List Nat} {i j : Nat} {out : List Int} {st : List Nat} (h : PS w i out (j :: st)) (hi : i < w.length) (hd : atB w i = 100) : PS w (i + 1) (seI (seI out i j) j i) st := by
  obtain ⟨h1, h2, h3⟩ := h
  obtain ⟨q1, q2⟩ := SO_dn h1 hi hd
  have hj := q1.1
  refine ⟨q2, by rw [seI_len, seI_len, h2], fun a ha hn => ?_⟩
  rw [atI_set (by rw [seI_len]; omega), atI_set (by omega)]
  by_cases e1 : j = a
  · subst e1
    rw [if_pos rfl]
    exact ⟨i, rfl, .inl q1⟩
  · rw [if_neg e1]
    by_cases e2 : i = a
    · subst e2
      rw [if_pos rfl]
      exact ⟨j, rfl, .inr q1⟩
    · rw [if_neg e2]
      exact h3 a (by omega) fun q => by
        rcases List.mem_cons.1 q with q | q
        · exact e1 q.symm
        · exact hn q

theorem part_i [Has K 373 ir_impl_partners] {w : List Nat} (hw : dyck w = true) : ∃ rs, (∃ m, rs = [LI m] ∧ PP w m) ∧ K 373 [.s w] rs := by
  have hd := DY_of hw
  have hl := hd.l
  refine body_ex (f := ir_impl_partners) rfl ?_; simp only [ir_impl_partners]
  simp (disch := first | omega | (simp only [vl]; omega)) only [vcd]
  refine loop_up (fun i (x : List Int × List Nat) => PS w i x.1 x.2) (fun i x => [.s w, .u, LI x.1, LI (cI x.2).reverse, .n i, .u, .u, .u]) w.length (rep w.length 0, []) ⟨by simp [SO, Hh_0], by simp [rep], by simp⟩ rfl (fun i x hi hP => ?_) (fun x hP => ?_)
  · obtain ⟨out, st⟩ := x
    simp only at hP
    have hs := SO_len hP.1
    have hlen := cI_len (l := st)
    have hlen2 := cI_l (l := st)
    have hle := Hh_le (w := w) (i := i)
    have hout := hP.2.1
    rcases hd.ud i hi with hu | hu
    · simp (disch := first | omega | (simp only [vl]; omega)) only [vcd, hu]
      exact ⟨(out, i :: st), PS_up hP hi hu, by rw [cI_cons]⟩
    · have e := Hh_dn hi hu
      have e0 := hd.h0 (i + 1) (by omega)
      cases st with
      | nil => simp only [List.length_nil] at hs; omega
      | cons j t =>
        have hj := hP.1.1
        have hl2 : ((cI t).reverse).length = t.length := cI_len
        have e1 : atI ((cI t).reverse ++ [(j : Int)]) t.length = j := by rw [← hl2]; exact at_last
        have e2 : sub ((cI t).reverse ++ [(j : Int)]) 0 t.length = (cI t).reverse := by rw [← hl2]; exact sub_init
        have e3 : ((((cI t).reverse ++ [(j : Int)]).length : Nat) : Int) = (t.length : Int) + 1 := by simp [hl2]
        have hl3 := cI_l (l := t)
        simp only [List.length_cons] at hs
        simp only [cI_cons]
        simp (disch := first | omega | (simp only [vl]; omega)) only [vcd, hu, e3, e1, e2, Int.add_sub_cancel]
        exact ⟨(seI (seI out i j) j i, t), PS_dn hP hi hu, rfl⟩
  · obtain ⟨out, st⟩ := x
    simp only at hP
    simp (disch := first | omega | (simp only [vl]; omega)) only [vcd]
    refine ⟨_, rfl, hP.2.1, fun a ha => ?_⟩
    obtain ⟨h1, h2, h3⟩ := hP
    refine h3 a ha fun q => ?_
    have := SO_len h1
    rw [hd.he] at this
    have : st = [] := List.eq_nil_of_length_eq_zero (by omega)
    subst this
    cases q

/-- The reference goes on, or back, till the height is the same again. -/
theorem l4u [Has K 370 ir_spec_l4Partner] {w : List Nat} {i k : Nat} (hd : DY w) (h : PR w i k) : K 370 [.s w, .n i] [.n k] := by
  have hl := hd.l
  have hi : i < w.length := by have := h.1; have := h.2.1; omega
  have hu : atB w i = 117 := by
    rcases hd.ud i hi with q | q
    · exact q
    · have := Hh_dn hi q
      have := h.2.2.2 (i + 1) (by omega) (by have := h.1; omega)
      omega
  refine body_by (f := ir_spec_l4Partner) rfl ?_; simp only [ir_spec_l4Partner]
  simp (disch := first | omega | (simp only [vl]; omega)) only [vcd, hu]
  refine loop_wh (fun (x : Nat) => i ≤ x ∧ x ≤ k) (fun x => [.s w, .n i, .u, .n (Hh w x - Hh w i), .n x, .u, .u, .u, .u, .u, .u, .u, .u]) (fun x => k - x) i ⟨by omega, by have := h.1; omega⟩ (by simp) ?_
  intro x hx
  have hk := h.2.1
  have b0 := hd.h0 x (by omega)
  have b1 := hd.h0 i (by omega)
  have b2 : Hh w x ≤ x ∧ Hh w i ≤ i := ⟨Hh_le, Hh_le⟩
  have key : Hh w (x + 1) - Hh w i = 0 ↔ x = k := by
    constructor
    · intro q
      by_cases e : x = k
      · exact e
      · have := h.2.2.2 (x + 1) (by omega) (by omega); omega
    · rintro rfl
      have := h.2.2.1; omega
  rcases hd.ud x (by omega) with q | q
  · have e := Hh_up (i := x) (by omega) q
    by_cases hxk : x = k
    · have := key.2 hxk
      subst hxk
      simp (disch := first | omega | (simp only [vl]; omega)) only [vcd, q]
    · have : ¬ (Hh w x - Hh w i + 1 = 0) := fun z => hxk (key.1 (by omega))
      simp (disch := first | omega | (simp only [vl]; omega)) only [vcd, q]
      exact ⟨x + 1, by omega, by omega, by simp; omega⟩
  · have e := Hh_dn (i := x) (by omega) q
    by_cases hxk : x = k
    · have := key.2 hxk
      subst hxk
      simp (disch := first | omega | (simp only [vl]; omega)) only [vcd, q]
    · have : ¬ (Hh w x - Hh w i - 1 = 0) := fun z => hxk (key.1 (by omega))
      simp (disch := first | omega | (simp only [vl]; omega)) only [vcd, q]
      exact ⟨x + 1, by omega, by omega, by simp; omega⟩

theorem l4d [Has K 370 ir_spec_l4Partner] {w : List Nat} {i k : Nat} (hd : DY w) (h : PR w k i) : K 370 [.s w, .n i] [.n k] := by
  have hl := hd.l
  have hi : i < w.length := h.2.1
  have hki := h.1
  have hu : atB w i = 100 := by
    rcases hd.ud i hi with q | q
    · have := Hh_up hi q
      have := h.2.2.2 i (by omega) (by omega)
      have := h.2.2.1
      omega
    · exact q
  refine body_by (f := ir_spec_l4Partner) rfl ?_; simp only [ir_spec_l4Partner]
  simp (disch := first | omega | (simp only [vl]; omega)) only [vcd, hu]
  refine loop_wh (fun (x : Nat) => k ≤ x ∧ x ≤ i) (fun x => [.s w, .u, .u, .n (Hh w (x + 1) - Hh w k), .u, .n x, .u, .u, .u, .u, .u, .u, .u]) (fun x => x) i ⟨by omega, by omega⟩ (by rw [h.2.2.1]; simp) ?_
  intro x hx
  have b0 := hd.h0 (x + 1) (by omega)
  have b1 := hd.h0 k (by omega)
  have b2 : Hh w (x + 1) ≤ ((x + 1 : Nat) : Int) ∧ Hh w k ≤ k := ⟨Hh_le, Hh_le⟩
  have key : Hh w x - Hh w k = 0 ↔ x = k := by
    constructor
    · intro q
      by_cases e : x = k
      · exact e
      · have := h.2.2.2 x (by omega) (by omega); omega
    · rintro rfl; omega
  rcases hd.ud x (by omega) with q | q
  · have e := Hh_up (i := x) (by omega) q
    by_cases hxk : x = k
    · have := key.2 hxk
      subst hxk
      simp (disch := first | omega | (simp only [vl]; omega)) only [vcd, q]
    · have : ¬ (Hh w (x + 1) - Hh w k - 1 = 0) := fun z => hxk (key.1 (by omega))
      simp (disch := first | omega | (simp only [vl]; omega)) only [vcd, q]
      refine ⟨x - 1, by omega, by omega, ?_⟩
      rw [show x - 1 + 1 = x by omega, show ((x - 1 : Nat) : Int) = (x : Int) - 1 by omega, show Hh w (x + 1) - Hh w k - 1 = Hh w x - Hh w k by omega]
  · have e := Hh_dn (i := x) (by omega) q
    by_cases hxk : x = k
    · have := key.2 hxk
      subst hxk
      simp (disch := first | omega | (simp only [vl]; omega)) only [vcd, q]
    · have : ¬ (Hh w (x + 1) - Hh w k + 1 = 0) := fun z => hxk (key.1 (by omega))
      simp (disch := first | omega | (simp only [vl]; omega)) only [vcd, q]
      refine ⟨x - 1, by omega, by omega, ?_⟩
      rw [show x - 1 + 1 = x by omega, show ((x - 1 : Nat) : Int) = (x : Int) - 1 by omega, show Hh w (x + 1) - Hh w k + 1 = Hh w x - Hh w k by omega]

theorem l4_ok [Has K 370 ir_spec_l4Partner] {w : List Nat} {m : List Int} {i : Nat} (hd : DY w) (h : PP w m) (hi : i < w.length) : K 370 [.s w, .n i] [.n (atI m i)] := by
  obtain ⟨b, e, q⟩ := h.2 i hi
  rw [e]
  rcases q with q | q
  · exact l4u (K := K) hd q
  · exact l4d (K := K) hd q

theorem LI_nilP : D.l [] = LI [] := rfl
theorem take_snoc {m : List Int} {i : Nat} (h : i < m.length) : m.take (i + 1) = m.take i ++ [atI m i] := by
  rw [List.take_succ_eq_append_getElem h]; simp [atI, h]
theorem mo_s [Has K 64 ir_spec_IsDyck] [Has K 356 ir_spec_MatchingOf] [Has K 370 ir_spec_l4Partner] {w : List Nat} {m : List Int} (hw : dyck w = true) (h : PP w m) : K 356 [.s w] [LI m, .b true] := by
  have hd := DY_of hw
  have hl := hd.l
  have hm := h.1
  refine body_by (f := ir_spec_MatchingOf) rfl ?_; simp only [ir_spec_MatchingOf]
  simp (disch := first | omega | (simp only [vl]; omega)) only [vcd]
  rw [LI_nilP]
  refine loop_ix (fun _ => True) (fun i => [.s w, .u, .u, LI (m.take i), .n i, .u]) w.length trivial (by simp) (fun i hi _ => ?_) (fun _ => ?_)
  · have ht : (m.take i).length = i := by simp; omega
    simp (disch := first | omega | (simp only [vl]; omega)) only [vcd]
    repeat (first | (refine call_by (dyck_s (K := K) (w := w) (by omega)) rfl ?_; try simp (disch := first | omega | (simp only [vl]; omega)) only [vcd, hw]))
    refine call_by (l4_ok (K := K) hd h hi) rfl ?_
    simp (disch := first | omega | (simp only [vl]; omega)) only [vcd]
    rw [take_snoc (by omega)]
  · simp (disch := first | omega | (simp only [vl]; omega)) only [vcd]
    repeat (first | (refine call_by (dyck_s (K := K) (w := w) (by omega)) rfl ?_; try simp (disch := first | omega | (simp only [vl]; omega)) only [vcd, hw]))
    rw [List.take_of_length_le (by omega)]
/-! ### Loops of two matchings -/
def fls (s : List Bool) : Nat := s.countP fun b => !b
theorem seT_nat {s : List Bool} {i : Nat} {b : Bool} : seT s i b = s.set i b := by simp [seT]
theorem fls_set : ∀ {s : List Bool} {i : Nat}, i < s.length → s.getD i false = false → fls (s.set i true) + 1 = fls s
  | [], i, h, _ => by simp at h
  | b :: s, 0, _, h => by simp only [List.getD_cons_zero] at h; subst h; simp [fls]
  | b :: s, i + 1, h, hb => by
    have := fls_set (s := s) (i := i) (by simpa using h) (by simpa using hb)
    simp only [fls, List.set_cons_succ, List.countP_cons] at this ⊢
    omega
theorem fls_set_le : ∀ {s : List Bool} {i : Nat}, fls (s.set i true) ≤ fls s
  | [], i => by simp [fls]
  | b :: s, 0 => by simp [fls, List.countP_cons]
  | b :: s, i + 1 => by
    have := fls_set_le (s := s) (i := i)
    simp only [fls, List.set_cons_succ, List.countP_cons] at this ⊢
    omega
/-- Round by arcs, till a place comes again. -/
def cyW (a b : List Int) : Nat → List Bool → Int → List Bool
  | 0, s, _ => s
  | f + 1, s, at' => if atT s at' = true then s else cyW a b f (seT (seT s at' true) (atI a at') true) (atI b (atI a at'))
theorem cyW_len {a b : List Int} : ∀ {f : Nat} {s : List Bool} {x : Int}, (cyW a b f s x).length = s.length
  | 0, _, _ => rfl
  | f + 1, s, x => by
    unfold cyW
    split
    · rfl
    · rw [cyW_len, seT_len, seT_len]
def cyO (a b : List Int) : Nat → List Bool × Nat
  | 0 => (rep a.length false, 0)
  | i + 1 => if atT (cyO a b i).1 i = true then cyO a b i else (cyW a b (a.length + 1) (cyO a b i).1 i, (cyO a b i).2 + 1)
theorem cyO_len {a b : List Int} : ∀ i, (cyO a b i).1.length = a.length ∧ (cyO a b i).2 ≤ i
  | 0 => by simp [cyO, rep]
  | i + 1 => by
    have := cyO_len (a := a) (b := b) i
    unfold cyO
    split
    · omega
    · simp only [cyW_len]; omega
/-- How many loops. -/
def cyN (a b : List Int) : Nat := (cyO a b a.length).2
/-- All numbers are places. -/
def inL (m : List Int) : Prop := ∀ j : Nat, j < m.length → 0 ≤ atI m j ∧ atI m j < m.length
theorem inL_of {m : List Int} (h : matF m = true) : inL m := fun j hj => by
  have := inR_iff.1 ((matF_t h).2 j hj).1
  omega
theorem inL_at {m : List Int} (h : inL m) {x : Int} (hx : 0 ≤ x ∧ x < m.length) : 0 ≤ atI m x ∧ atI m x < m.length := by
  obtain ⟨n, rfl⟩ := Int.eq_ofNat_of_zero_le hx.1
  exact h n (by omega)

theorem atT_nat {s : List Bool} {n : Nat} : atT s (n : Int) = s.getD n false := by simp [atT]

theorem cyc_step {a : List Int} {f : Nat} {s : List Bool} {x : Int} (hs : s.length = a.length) (hx : 0 ≤ x ∧ x < a.length) (ha : inL a) (hf : fls s < f + 1) (hn : atT s x = false) :
    fls (seT (seT s x true) (atI a x) true) < f := by
  obtain ⟨n, rfl⟩ := Int.eq_ofNat_of_zero_le hx.1
  have h2 := ha n (by omega)
  obtain ⟨k, hk⟩ := Int.eq_ofNat_of_zero_le h2.1
  rw [hk, seT_nat, seT_nat]
  rw [atT_nat] at hn
  have e1 := fls_set (s := s) (i := n) (by omega) hn
  have e2 := fls_set_le (s := s.set n true) (i := k)
  omega

theorem cyc_i [Has K 360 ir_impl_cycles] {a b : List Int} (hl : a.length ≤ 16) (hab : b.length = a.length) (ha : inL a) (hb : inL b) : K 360 [LI a, LI b] [.n (cyN a b)] := by
  refine body_by (f := ir_impl_cycles) rfl ?_; simp only [ir_impl_cycles]
  simp (disch := first | omega | (simp only [vl]; omega)) only [vcd]
  refine loop_ix (fun _ => True) (fun i => [LI a, LI b, .u, LT (cyO a b i).1, .n (cyO a b i).2, .u, .u, .n a.length, .n i, .u, .u, .u]) a.length trivial rfl (fun i hi _ => ?_) (fun _ => ?_)
  · have hlen := cyO_len (a := a) (b := b) i
    obtain ⟨s, hs⟩ : ∃ s, s = (cyO a b i).1 := ⟨_, rfl⟩
    obtain ⟨c, hc⟩ : ∃ c, c = (cyO a b i).2 := ⟨_, rfl⟩
    rw [← hs, ← hc] at hlen
    have he : cyO a b (i + 1) = if atT s i = true then (s, c) else (cyW a b (a.length + 1) s i, c + 1) := by
      rw [hs, hc]; rfl
    rw [he, ← hs, ← hc]
    obtain ⟨hl1, hl2⟩ := hlen
    obtain ⟨R, hR⟩ : ∃ R, R = cyW a b (a.length + 1) s i := ⟨_, rfl⟩
    rw [← hR]
    cases ht : atT s i
    · simp only [Bool.false_eq_true, if_false]
      simp (disch := first | omega | (simp only [vl]; omega)) only [vcd, ht]
      refine loop_wh (fun (x : Nat × List Bool × Int) => x.2.1.length = a.length ∧ (0 ≤ x.2.2 ∧ x.2.2 < a.length) ∧ fls x.2.1 < x.1 ∧ cyW a b x.1 x.2.1 x.2.2 = R) (fun x => [LI a, LI b, .u, LT x.2.1, .n ((c : Int) + 1), .u, .n x.2.2, .n a.length, .n i, .u, .u, .u]) (fun x => x.1) (a.length + 1, s, i) ⟨hl1, by simp; omega, by have := List.countP_le_length (p := fun b => !b) (l := s); simp only [fls]; omega, hR.symm⟩ rfl ?_
      rintro ⟨f, t, x⟩ ⟨g1, g2, g3, g4⟩
      simp only at g1 g2 g3 g4 ⊢
      have hin := inL_at ha g2
      have hin2 := inL_at hb (x := atI a x) (by omega)
      cases f with
      | zero => omega
      | succ f =>
        simp only [cyW] at g4
        cases hx : atT t x
        · rw [hx] at g4
          simp only [Bool.false_eq_true, if_false] at g4
          simp (disch := first | omega | (simp only [vl]; omega)) only [vcd, hx]
          exact ⟨(f, seT (seT t x true) (atI a x) true, atI b (atI a x)), by show f < f + 1; omega, ⟨by rw [seT_len, seT_len, g1], by rw [← hab]; exact hin2, cyc_step g1 g2 ha g3 hx, g4⟩, rfl⟩
        · rw [hx] at g4
          simp only [if_true] at g4
          simp (disch := first | omega | (simp only [vl]; omega)) only [vcd, hx]
          rw [← g4]
    · simp only [if_true]
      simp (disch := first | omega | (simp only [vl]; omega)) only [vcd, ht]
  · simp (disch := first | omega | (simp only [vl]; omega)) only [vcd]
    rfl

theorem loops_s [Has K 22 ir_spec_l1In] [Has K 355 ir_spec_IsNoncrossingMatching] [Has K 369 ir_spec_CrossingsOf] [Has K 371 ir_spec_LoopsOf] [Has K 379 ir_spec_IsMatching] {a b : List Int} (ha : ncmF a = true) (hb : ncmF b = true) (hab : b.length = a.length) : K 371 [LI a, LI b] [.n (cyN a b)] := by
  have ha1 : matF a = true := by simp [ncmF] at ha; exact ha.1
  have hb1 : matF b = true := by simp [ncmF] at hb; exact hb.1
  have hl := (matF_t ha1).1
  have hia := inL_of ha1
  have hib := inL_of hb1
  refine body_by (f := ir_spec_LoopsOf) rfl ?_; simp only [ir_spec_LoopsOf]
  simp (disch := first | omega | (simp only [vl]; omega)) only [vcd]
  repeat (first | (refine call_by (ncm_s (K := K) (m := a) (by omega)) rfl ?_; try simp (disch := first | omega | (simp only [vl]; omega)) only [vcd, ha, hb]) | (refine call_by (ncm_s (K := K) (m := b) (by omega)) rfl ?_; try simp (disch := first | omega | (simp only [vl]; omega)) only [vcd, ha, hb]))
  refine loop_ix (fun _ => True) (fun i => [LI a, LI b, .u, LT (cyO a b i).1, .n (cyO a b i).2, .n i, .u, .u, .u, .u, .u]) a.length trivial rfl (fun i hi _ => ?_) (fun _ => ?_)
  · have hlen := cyO_len (a := a) (b := b) i
    obtain ⟨s, hs⟩ : ∃ s, s = (cyO a b i).1 := ⟨_, rfl⟩
    obtain ⟨c, hc⟩ : ∃ c, c = (cyO a b i).2 := ⟨_, rfl⟩
    rw [← hs, ← hc] at hlen
    have he : cyO a b (i + 1) = if atT s i = true then (s, c) else (cyW a b (a.length + 1) s i, c + 1) := by
      rw [hs, hc]; rfl
    rw [he, ← hs, ← hc]
    obtain ⟨hl1, hl2⟩ := hlen
    obtain ⟨R, hR⟩ : ∃ R, R = cyW a b (a.length + 1) s i := ⟨_, rfl⟩
    rw [← hR]
    cases ht : atT s i
    · simp only [Bool.false_eq_true, if_false]
      simp (disch := first | omega | (simp only [vl]; omega)) only [vcd, ht]
      refine loop_wh (fun (x : Nat × List Bool × Int) => x.2.1.length = a.length ∧ (0 ≤ x.2.2 ∧ x.2.2 < a.length) ∧ fls x.2.1 < x.1 ∧ cyW a b x.1 x.2.1 x.2.2 = R) (fun x => [LI a, LI b, .u, LT x.2.1, .n ((c : Int) + 1), .n i, .n x.2.2, .u, .u, .u, .u]) (fun x => x.1) (a.length + 1, s, i) ⟨hl1, by simp; omega, by have := List.countP_le_length (p := fun b => !b) (l := s); simp only [fls]; omega, hR.symm⟩ rfl ?_
      rintro ⟨f, t, x⟩ ⟨g1, g2, g3, g4⟩
      simp only at g1 g2 g3 g4 ⊢
      have hin := inL_at hia g2
      have hin2 := inL_at hib (x := atI a x) (by omega)
      cases f with
      | zero => omega
      | succ f =>
        simp only [cyW] at g4
        cases hx : atT t x
        · rw [hx] at g4
          simp only [Bool.false_eq_true, if_false] at g4
          simp (disch := first | omega | (simp only [vl]; omega)) only [vcd, hx]
          exact ⟨(f, seT (seT t x true) (atI a x) true, atI b (atI a x)), by show f < f + 1; omega, ⟨by rw [seT_len, seT_len, g1], by rw [← hab]; exact hin2, cyc_step g1 g2 hia g3 hx, g4⟩, rfl⟩
        · rw [hx] at g4
          simp only [if_true] at g4
          simp (disch := first | omega | (simp only [vl]; omega)) only [vcd, hx]
          rw [← g4]
    · simp only [if_true]
      simp (disch := first | omega | (simp only [vl]; omega)) only [vcd, ht]
  · simp (disch := first | omega | (simp only [vl]; omega)) only [vcd]
    rfl

/-! ### A matching has an even number of points -/
theorem sumU_add {f g : Nat → Nat} : ∀ n, sumU (fun i => f i + g i) n = sumU f n + sumU g n
  | 0 => rfl
  | n + 1 => by simp only [sumU, sumU_add n]; omega
theorem sumU_swap {f : Nat → Nat → Nat} {m : Nat} : ∀ n, sumU (fun i => sumU (f i) m) n = sumU (fun k => sumU (fun i => f i k) n) m
  | 0 => by simp only [sumU]; exact (sumU_0 fun _ _ => rfl).symm
  | n + 1 => by
    simp only [sumU]
    rw [sumU_swap n, ← sumU_add]
theorem sumU_pick {x c : Nat} : ∀ {n}, x < n → sumU (fun k => if k = x then c else 0) n = c
  | 0, h => by omega
  | n + 1, h => by
    simp only [sumU]
    by_cases e : n = x
    · subst e
      rw [if_pos rfl, sumU_0 fun i hi => if_neg (by omega)]; omega
    · rw [if_neg e, sumU_pick (by omega), Nat.add_zero]
theorem sumU_1 : ∀ n, sumU (fun _ => 1) n = n
  | 0 => rfl
  | n + 1 => by simp only [sumU, sumU_1 n]
theorem mt_even {m : List Int} (h : matF m = true) : m.length = 2 * (m.length / 2) := by
  have hin := inL_of h
  obtain ⟨_, hm⟩ := matF_t h
  obtain ⟨A, hA⟩ : ∃ A : Nat → Nat → Nat, A = fun (j k : Nat) => if atI m j = (k : Int) ∧ j < k then 1 else 0 := ⟨_, rfl⟩
  have e1 : ∀ j, j < m.length → sumU (A j) m.length = if (j : Int) < atI m j then 1 else 0 := by
    intro j hj
    have h1 := hin j hj
    obtain ⟨x, hx⟩ := Int.eq_ofNat_of_zero_le h1.1
    have : sumU (A j) m.length = sumU (fun k => if k = x then (if j < x then 1 else 0) else 0) m.length := sumU_congr fun k hk => by
      rw [hA]; simp only [hx]
      by_cases q : k = x
      · subst q; simp
      · rw [if_neg q, if_neg (by omega)]
    rw [this, sumU_pick (by omega), hx]
    simp only [Int.ofNat_eq_natCast, Int.ofNat_lt]
  have e2 : ∀ k, k < m.length → sumU (fun j => A j k) m.length = if atI m k < (k : Int) then 1 else 0 := by
    intro k hk
    have h1 := hin k hk
    obtain ⟨x, hx⟩ := Int.eq_ofNat_of_zero_le h1.1
    have : sumU (fun j => A j k) m.length = sumU (fun j => if j = x then (if x < k then 1 else 0) else 0) m.length := sumU_congr fun j hj => by
      rw [hA]; simp only
      by_cases q : j = x
      · subst q
        have e := (hm k hk).2.2
        rw [hx] at e
        have e : atI m j = k := e
        rw [if_pos rfl]
        simp only [e, true_and]
      · rw [if_neg q, if_neg]
        rintro ⟨q1, q2⟩
        have e := (hm j hj).2.2
        rw [q1, hx] at e
        have e : (x : Int) = j := e
        omega
    rw [this, sumU_pick (by omega), hx]
    simp only [Int.ofNat_eq_natCast, Int.ofNat_lt]
  have e3 : sumU (fun j => if (j : Int) < atI m j then 1 else 0) m.length = sumU (fun k => if atI m k < (k : Int) then 1 else 0) m.length := by
    rw [← sumU_congr e1, ← sumU_congr e2]
    exact sumU_swap _
  have e4 : sumU (fun j => (if (j : Int) < atI m j then 1 else 0) + (if atI m j < (j : Int) then 1 else 0)) m.length = m.length := by
    have : sumU (fun j => (if (j : Int) < atI m j then 1 else 0) + (if atI m j < (j : Int) then 1 else 0)) m.length = sumU (fun _ => 1) m.length := sumU_congr fun j hj => by
      have := (hm j hj).2.1
      by_cases q : (j : Int) < atI m j
      · rw [if_pos q, if_neg (by omega)]
      · rw [if_neg q, if_pos (by omega)]
    rw [this, sumU_1]
  rw [sumU_add] at e4
  omega

/-! ### The first partner with one loop -/
/-- The matchings of words. -/
inductive PPs : List (List Nat) → List (List Int) → Prop
  | nil : PPs [] []
  | snoc {ws ms w m} : PPs ws ms → PP w m → PPs (ws ++ [w]) (ms ++ [m])
theorem PPs_len {ws ms} (h : PPs ws ms) : ms.length = ws.length := by
  induction h with
  | nil => rfl
  | snoc _ _ ih => simp [ih]
theorem PPs_at {ws ms} (h : PPs ws ms) : ∀ i : Nat, i < ws.length → PP (atS ws i) (atL ms i) := by
  induction h with
  | nil => intro i hi; simp at hi
  | @snoc ws ms w m h h2 ih =>
    intro i hi
    have hl := PPs_len h
    rcases Nat.lt_or_ge i ws.length with q | q
    · have := ih i q
      simpa [atS, atL, List.getD_eq_getElem?_getD, List.getElem?_append_left q, List.getElem?_append_left (show i < ms.length by omega)] using this
    · have e : i = ws.length := by simp at hi; omega
      subst e
      have e1 : atS (ws ++ [w]) ws.length = w := by simp [atS, List.getD_eq_getElem?_getD]
      have e2 : atL (ms ++ [m]) ws.length = m := by rw [← hl]; simp [atL, List.getD_eq_getElem?_getD]
      rw [e1, e2]
      exact h2

theorem LL_nilP : D.l [] = LL [] := rfl
theorem atS_mem {ws : List (List Nat)} {i : Nat} (h : i < ws.length) : atS ws i ∈ ws := by simp [atS, h]
theorem take_snocS {ws : List (List Nat)} {i : Nat} (h : i < ws.length) : ws.take (i + 1) = ws.take i ++ [atS ws i] := by
  rw [List.take_succ_eq_append_getElem h]; simp [atS, h]

theorem LL_appP {a b : List (List Int)} (h : a.length + b.length ≤ 1099511627776) : appD false (LL a) (LL b) = some (LL (a ++ b)) := LL_app ⟨h, rfl⟩
theorem mats_i [Has K 314 ir_impl_allPaths] [Has K 326 ir_impl_allPaths_f1] [Has K 359 ir_impl_matchings] [Has K 373 ir_impl_partners] {n : Nat} (h : n < 7) : ∃ rs, (∃ ms, rs = [LL ms] ∧ PPs (pathsR n) ms) ∧ K 359 [.n n] rs := by
  have hlen := apl h
  refine body_ex (f := ir_impl_matchings) rfl ?_; simp only [ir_impl_matchings]
  simp (disch := first | omega | (simp only [vl]; omega)) only [vcd]
  refine call_by (ap_i (K := K) h) rfl ?_
  simp (disch := first | omega | (simp only [vl]; omega)) only [vcd]
  rw [LL_nilP]
  refine loop_up (fun i (ms : List (List Int)) => PPs ((pathsR n).take i) ms) (fun i ms => [.u, .u, LL ms, .u, LS (pathsR n), .n (pathsR n).length, .n i, .u]) (pathsR n).length [] (by simpa using PPs.nil) rfl (fun i ms hi hP => ?_) (fun ms hP => ?_)
  · have hm := PPs_len hP
    have ht : ((pathsR n).take i).length = i := by simp; omega
    obtain ⟨_, ⟨m, rfl, hpp⟩, k1⟩ := part_i (K := K) (w := atS (pathsR n) i) (apd h (atS_mem hi)).1
    simp (disch := first | omega | (simp only [vl]; omega)) only [vcd]
    refine call_by (k1) rfl ?_
    simp (disch := first | omega | (simp only [vl]; omega)) only [vcd, LL_appP]
    refine ⟨ms ++ [m], ?_, rfl⟩
    rw [take_snocS hi]
    exact PPs.snoc hP hpp
  · rw [List.take_length] at hP
    simp (disch := first | omega | (simp only [vl]; omega)) only [vcd]
    exact ⟨ms, rfl, hP⟩

/-- The first of some lists with one loop. -/
def fstM (a : List Int) : List (List Int) → Option (List Int)
  | [] => none
  | b :: l => if cyN a b = 1 then some b else fstM a l
theorem dropL {ms : List (List Int)} {i : Nat} (h : i < ms.length) : ms.drop i = atL ms i :: ms.drop (i + 1) := by
  rw [List.drop_eq_getElem_cons h]; simp [atL, h]

/-- A list out of which the first ones are taken. -/
def holF (ms : List (List Int)) (i : Nat) : D := .l (List.replicate i .u ++ (ms.drop i).map LI)
theorem holF_0 {ms : List (List Int)} : LL ms = holF ms 0 := by simp [holF, LL]
theorem holF_ix {ms : List (List Int)} {i : Nat} (h : i < ms.length) : ixD (holF ms i) (.n i) = some (LI (atL ms i)) := by
  simp only [holF, dropL h, List.map_cons]
  have e : ((List.replicate i D.u ++ LI (atL ms i) :: List.map LI (ms.drop (i + 1))) : List D)[i]? = some (LI (atL ms i)) := by
    rw [List.getElem?_append_right (by simp)]; simp
  simp only [ixD, Int.toNat_natCast, e, Option.bind_some]
  rw [if_pos (by omega)]
  rfl
theorem holF_sp {ms : List (List Int)} {i : Nat} (h : i < ms.length) : spD 1 (holF ms i) (some [(i : Int).toNat]) = some (LI (atL ms i), holF ms (i + 1)) := by
  have e : ((List.replicate i D.u ++ LI (atL ms i) :: List.map LI (ms.drop (i + 1))) : List D)[i]? = some (LI (atL ms i)) := by
    rw [List.getElem?_append_right (by simp)]; simp
  have e2 : (List.replicate i D.u ++ LI (atL ms i) :: List.map LI (ms.drop (i + 1))).set i D.u = List.replicate (i + 1) D.u ++ List.map LI (ms.drop (i + 1)) := by
    rw [List.set_append_right _ _ (by simp)]
    simp [List.replicate_succ']
  simp only [spD, holF, dropL h, List.map_cons, Option.bind_some, getP, setP, Int.toNat_natCast]
  rw [e]
  simp only [Option.bind_some, getP, setP, dep_i1, if_true, Option.map_some, e2]

theorem mp_i [Has K 23 ir_impl_within] [Has K 314 ir_impl_allPaths] [Has K 326 ir_impl_allPaths_f1] [Has K 344 ir_impl_MeanderPartner] [Has K 358 ir_impl_IsNoncrossingMatching] [Has K 359 ir_impl_matchings] [Has K 360 ir_impl_cycles] [Has K 372 ir_impl_CrossingsOf] [Has K 373 ir_impl_partners] [Has K 380 ir_impl_IsMatching] [Has K 381 ir_impl_arcs] {a : List Int} (hl : a.length ≤ 1048576) : ∃ rs, (∃ ms, (ncmF a = true → 2 ≤ a.length → a.length ≤ 12 → PPs (pathsR (a.length / 2)) ms) ∧ rs = (if ncmF a = true ∧ 2 ≤ a.length ∧ a.length ≤ 12 then [LI ((fstM a ms).getD []), .b (fstM a ms).isSome] else [LI [], .b false])) ∧ K 344 [LI a] rs := by
  refine body_ex (f := ir_impl_MeanderPartner) rfl ?_; simp only [ir_impl_MeanderPartner]
  simp (disch := first | omega | (simp only [vl]; omega)) only [vcd]
  refine call_by (ncm_i (K := K) (m := a) (by omega)) rfl ?_
  cases hn : ncmF a
  · simp (disch := first | omega | (simp only [vl]; omega)) only [vcd]
    exact ⟨[], by simp, by simp; rfl⟩
  · simp (disch := first | omega | (simp only [vl]; omega)) only [vcd]
    refine call_by (within_ok (K := K)) rfl ?_
    cases hi : inR 2 12 a.length
    · have := inR_f.1 hi
      simp (disch := first | omega | (simp only [vl]; omega)) only [vcd]
      exact ⟨[], fun _ _ _ => by omega, by rw [if_neg (by omega)]; rfl⟩
    · have hi := inR_iff.1 hi
      obtain ⟨_, ⟨ms, rfl, hms⟩, k1⟩ := mats_i (K := K) (n := a.length / 2) (by omega)
      have e0 : ((a.length : Int) / 2) = ((a.length / 2 : Nat) : Int) := by omega
      have hlen := PPs_len hms
      have hlen2 := apl (n := a.length / 2) (by omega)
      have hm1 : matF a = true := by simp [ncmF] at hn; exact hn.1
      simp (disch := first | omega | (simp only [vl]; omega)) only [vcd, e0]
      refine call_by (k1) rfl ?_
      simp (disch := first | omega | (simp only [vl]; omega)) only [vcd]
      rw [holF_0 (ms := ms)]
      refine loop_ix (fun i => fstM a ms = fstM a (ms.drop i)) (fun i => [LI a, .u, .u, .u, .u, holF ms i, .n ms.length, .n i, .u, .u]) ms.length rfl rfl (fun i hi hP => ?_) (fun hP => ?_)
      · have hpp := PPs_at hms i (by omega)
        obtain ⟨hd, hwl⟩ := apd (n := a.length / 2) (by omega) (atS_mem (ws := pathsR (a.length / 2)) (i := i) (by omega))
        have hml := hpp.1
        have hmb := PP_mt (DY_of hd).l hpp
        have hev := mt_even hm1
        simp (disch := first | omega | (simp only [vl]; omega)) only [vcd, holF_ix hi, holF_sp hi]
        refine call_by (cyc_i (K := K) (a := a) (b := atL ms i) (by omega) (by omega) (inL_of hm1) (inL_of hmb)) rfl ?_
        rw [dropL hi] at hP
        simp only [fstM] at hP
        by_cases hc : cyN a (atL ms i) = 1
        · rw [if_pos hc] at hP
          simp (disch := first | omega | (simp only [vl]; omega)) only [vcd, hc]
          exact ⟨ms, fun _ _ _ => hms, by rw [hP, if_pos (show _ ∧ _ from by omega)]; rfl⟩
        · rw [if_neg hc] at hP
          simp (disch := first | omega | (simp only [vl]; omega)) only [vcd, hc]
          exact hP
      · rw [List.drop_length] at hP
        simp (disch := first | omega | (simp only [vl]; omega)) only [vcd]
        exact ⟨ms, fun _ _ _ => hms, by rw [hP, if_pos (show _ ∧ _ from by omega)]; rfl⟩

theorem mean_s [Has K 22 ir_spec_l1In] [Has K 355 ir_spec_IsNoncrossingMatching] [Has K 357 ir_spec_IsMeander] [Has K 369 ir_spec_CrossingsOf] [Has K 371 ir_spec_LoopsOf] [Has K 379 ir_spec_IsMatching] {a b : List Int} (ha : ncmF a = true) (hb : ncmF b = true) (hab : b.length = a.length) : K 357 [LI a, LI b] [.b (decide (cyN a b = 1))] := by
  refine body_by (f := ir_spec_IsMeander) rfl ?_; simp only [ir_spec_IsMeander]
  simp (disch := first | omega | (simp only [vl]; omega)) only [vcd]
  refine call_by (loops_s (K := K) ha hb hab) rfl ?_
  simp (disch := first | omega | (simp only [vl]; omega)) only [vcd]
  have : decide ((cyN a b : Int) = 1) = decide (cyN a b = 1) := by congr 1; apply propext; omega
  rw [this]

theorem mp_s [Has K 22 ir_spec_l1In] [Has K 64 ir_spec_IsDyck] [Has K 234 ir_spec_PathsOf] [Has K 292 ir_spec_l3All] [Has K 343 ir_spec_MeanderPartner] [Has K 355 ir_spec_IsNoncrossingMatching] [Has K 356 ir_spec_MatchingOf] [Has K 357 ir_spec_IsMeander] [Has K 369 ir_spec_CrossingsOf] [Has K 370 ir_spec_l4Partner] [Has K 371 ir_spec_LoopsOf] [Has K 379 ir_spec_IsMatching] {a : List Int} {ms : List (List Int)} (hl : a.length ≤ 1048576) (hms : ncmF a = true → 2 ≤ a.length → a.length ≤ 12 → PPs (pathsR (a.length / 2)) ms) :
    K 343 [LI a] (if ncmF a = true ∧ 2 ≤ a.length ∧ a.length ≤ 12 then [LI ((fstM a ms).getD []), .b (fstM a ms).isSome] else [LI [], .b false]) := by
  by_cases hq : ncmF a = true ∧ 2 ≤ a.length ∧ a.length ≤ 12
  · obtain ⟨hn, h2, h12⟩ := hq
    have hms := hms hn h2 h12
    rw [if_pos ⟨hn, h2, h12⟩]
    have hm1 : matF a = true := by simp [ncmF] at hn; exact hn.1
    have hev := mt_even hm1
    have e0 : ((a.length : Int) / 2) = ((a.length / 2 : Nat) : Int) := by omega
    have hlen := PPs_len hms
    have hlen2 := apl (n := a.length / 2) (by omega)
    have hi : inR 1 6 ((a.length / 2 : Nat) : Int) = true := inR_iff.2 (by omega)
    refine body_by (f := ir_spec_MeanderPartner) rfl ?_; simp only [ir_spec_MeanderPartner]
    simp (disch := first | omega | (simp only [vl]; omega)) only [vcd, e0]
    repeat (first | (refine call_by (ncm_s (K := K) (m := a) (by omega)) rfl ?_; try simp (disch := first | omega | (simp only [vl]; omega)) only [vcd, hn, hi]) | (refine call_by (l1In_ok (K := K)) rfl ?_; try simp (disch := first | omega | (simp only [vl]; omega)) only [vcd, hn, hi]))
    refine call_by (pl_s (K := K) (n := a.length / 2) (by omega)) rfl ?_
    simp (disch := first | omega | (simp only [vl]; omega)) only [vcd]
    refine loop_ix (fun i => fstM a ms = fstM a (ms.drop i)) (fun i => [LI a, .u, .u, .u, LS (pathsR (a.length / 2)), .n i, .u, .u, .u, .u]) (pathsR (a.length / 2)).length rfl rfl (fun i hi hP => ?_) (fun hP => ?_)
    · have hpp := PPs_at hms i hi
      obtain ⟨hd, hwl⟩ := apd (n := a.length / 2) (by omega) (atS_mem (ws := pathsR (a.length / 2)) (i := i) hi)
      have hml := hpp.1
      have hmb := PP_ncm (DY_of hd).l hpp
      simp (disch := first | omega | (simp only [vl]; omega)) only [vcd]
      refine call_by (mo_s (K := K) hd hpp) rfl ?_
      simp (disch := first | omega | (simp only [vl]; omega)) only [vcd]
      refine call_by (mean_s (K := K) hn hmb (by omega)) rfl ?_
      rw [dropL (by omega)] at hP
      simp only [fstM] at hP
      by_cases hc : cyN a (atL ms i) = 1
      · rw [if_pos hc] at hP
        simp (disch := first | omega | (simp only [vl]; omega)) only [vcd, hc]
        rw [hP]; rfl
      · rw [if_neg hc] at hP
        simp (disch := first | omega | (simp only [vl]; omega)) only [vcd, hc]
        exact hP
    · rw [← hlen, List.drop_length] at hP
      simp (disch := first | omega | (simp only [vl]; omega)) only [vcd]
      rw [hP]; rfl
  · rw [if_neg hq]
    refine body_by (f := ir_spec_MeanderPartner) rfl ?_; simp only [ir_spec_MeanderPartner]
    simp (disch := first | omega | (simp only [vl]; omega)) only [vcd]
    refine call_by (ncm_s (K := K) (m := a) (by omega)) rfl ?_
    cases hn : ncmF a
    · simp (disch := first | omega | (simp only [vl]; omega)) only [vcd]
      rfl
    · rw [hn] at hq
      have hi : inR 1 6 ((a.length : Int) / 2) = false := by
        refine inR_f.2 ?_
        by_cases hm : a.length ≤ 16
        · have hm1 : matF a = true := by simp [ncmF] at hn; exact hn.1
          have hev := mt_even hm1
          simp only [true_and] at hq
          omega
        · simp only [true_and] at hq
          omega
      simp (disch := first | omega | (simp only [vl]; omega)) only [vcd]
      repeat (first | (refine call_by (l1In_ok (K := K)) rfl ?_; try simp (disch := first | omega | (simp only [vl]; omega)) only [vcd, hi]))
      rfl
end Go.Cat

