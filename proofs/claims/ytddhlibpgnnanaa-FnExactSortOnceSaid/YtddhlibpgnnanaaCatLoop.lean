/-
  How a body is reasoned about: loops, finite runs.
-/
import Derived.Test.YtddhlibpgnnanaaCatHas
namespace Go.Cat

section
variable {K : Nat → List D → List D → Prop}

theorem wpPr_mono {p : Pr} {e : Env} {Q Q' : Env → Prop} (hQ : ∀ e, Q e → Q' e) (h : wpPr K p e Q) : wpPr K p e Q' := by
  unfold wpPr at *
  split at h
  · exact hQ _ h
  · obtain ⟨rs, h1, h2, h3⟩ := h; exact ⟨rs, h1, h2, hQ _ h3⟩
  · split at h
    · exact hQ _ h
    · exact h.elim

theorem wpIts_mono : ∀ {its : List It} {e : Env} {Q Q' : Env → Prop} (_ : ∀ e, Q e → Q' e) (_ : wpIts K its e Q), wpIts K its e Q'
  | [], e, Q, Q', hQ, h => hQ _ h
  | it :: its, e, Q, Q', hQ, h => by
    simp only [wpIts, wpIt] at *
    split at h
    · exact wpPr_mono (fun e h => wpIts_mono hQ h) h
    · exact wpIts_mono hQ h
    · exact h

theorem wpLoop_mono {R : (X → Env → Prop) → Env → Prop} (hR : ∀ Q Q' e, (∀ x e, Q x e → Q' x e) → R Q e → R Q' e) : ∀ (n : Nat) {e : Env} {Q Q' : X → Env → Prop} (_ : ∀ x e, Q x e → Q' x e) (_ : wpLoop R n Q e), wpLoop R n Q' e
  | 0, _, _, _, _, h => h.elim
  | n + 1, e, Q, Q', hQ, h => by
    simp only [wpLoop] at *
    refine hR _ _ _ ?_ h
    intro x e h
    cases x with
    | n => exact wpLoop_mono hR n hQ h
    | ex j => exact hQ _ _ h
    | r => exact hQ _ _ h

theorem wpS_mono : ∀ (s : S) {e : Env} {Q Q' : X → Env → Prop} (_ : ∀ x e, Q x e → Q' x e) (_ : wpS K s Q e), wpS K s Q' e
  | .skip, e, Q, Q', hQ, h => hQ _ _ h
  | .reg its out, e, Q, Q', hQ, h => wpIts_mono (fun e h => hQ _ _ h) h
  | .seq a b, e, Q, Q', hQ, h => by
    refine wpS_mono a ?_ h
    intro x e h
    cases x with
    | n => exact wpS_mono b hQ h
    | ex j => exact hQ _ _ h
    | r => exact hQ _ _ h
  | .cond c a b, e, Q, Q', hQ, h => by
    simp only [wpS] at *
    split at h
    · exact wpS_mono a hQ h
    · exact wpS_mono b hQ h
    · exact h
  | .block id b, e, Q, Q', hQ, h => by
    refine wpS_mono b ?_ h
    intro x e h
    cases x with
    | n => exact hQ _ _ h
    | ex j =>
      show if j = id then _ else _
      have h' : if j = id then Q .n e else Q (.ex j) e := h
      split
      · rename_i hj; rw [if_pos hj] at h'; exact hQ _ _ h'
      · rename_i hj; rw [if_neg hj] at h'; exact hQ _ _ h'
    | r => exact hQ _ _ h
  | .loop b, e, Q, Q', hQ, h => by
    obtain ⟨n, h⟩ := h
    exact ⟨n, wpLoop_mono (R := wpS K b) (fun Q Q' e hQ h => wpS_mono b hQ h) n hQ h⟩
  | .exit id, e, Q, Q', hQ, h => hQ _ _ h
  | .ret, e, Q, Q', hQ, h => hQ _ _ h

/-- A loop, by what holds ahead of each round; m falls. -/
theorem loop_by {b : S} {Q : X → Env → Prop} {e : Env} (I : Nat → Env → Prop) (m : Nat) (h0 : I m e)
    (step : ∀ m e, I m e → wpS K b (fun x e' => match x with | .n => ∃ m', m' < m ∧ I m' e' | x => Q x e') e) : wpS K (.loop b) Q e := by
  suffices ∀ (m : Nat) (e : Env), I m e → ∃ n, wpLoop (wpS K b) n Q e by exact this m e h0
  intro m
  induction m using Nat.strongRecOn with
  | ind m ih =>
    intro e hI
    have hs := step m e hI
    -- all rounds that may follow have a bound; take the number for each, and the largest: by choice of one end, since a body may end in many ways, the bound is m
    suffices ∀ (m : Nat) (e : Env), I m e → wpLoop (wpS K b) (m + 1) Q e from ⟨m + 1, this m e hI⟩
    clear hs hI ih e m
    intro m
    induction m using Nat.strongRecOn with
    | ind m ih =>
      intro e hI
      simp only [wpLoop]
      refine wpS_mono b ?_ (step m e hI)
      intro x e h
      cases x with
      | n =>
        obtain ⟨m', hm, h⟩ := h
        have := ih m' hm e h
        exact wpLoop_le (by omega) this
      | ex j => exact h
      | r => exact h
where
  wpLoop_le {b : S} {Q : X → Env → Prop} : ∀ {n n' : Nat} {e : Env} (_ : n ≤ n') (_ : wpLoop (wpS K b) n Q e), wpLoop (wpS K b) n' Q e
    | 0, _, _, _, h => h.elim
    | n + 1, 0, _, hn, _ => by omega
    | n + 1, n' + 1, e, hn, h => by
      simp only [wpLoop] at *
      refine wpS_mono b ?_ h
      intro x e h
      cases x with
      | n => exact wpLoop_le (by omega) h
      | ex j => exact h
      | r => exact h

end

/-- All numbers below n. -/
noncomputable def allB (n : Nat) (p : Nat → Bool) : Bool := Nat.rec (motive := fun _ => Bool) true (fun n ih => bif p n then ih else false) n

theorem allB_spec {p : Nat → Bool} : ∀ {n : Nat}, allB n p = true → ∀ i, i < n → p i = true
  | 0, _, i, hi => by omega
  | n + 1, h, i, hi => by
    change (bif p n then allB n p else false) = true at h
    cases hp : p n with
    | false => rw [hp, cond_false] at h; cases h
    | true =>
    rw [hp, cond_true] at h
    rcases Nat.lt_or_ge i n with k | k
    · exact allB_spec h i k
    · have : i = n := by omega
      subst this; exact hp

def isTrue : Option (List D) → Bool
  | some [.b true] => true
  | _ => false

theorem isTrue_spec {o : Option (List D)} (h : isTrue o = true) : o = some [.b true] := by
  unfold isTrue at h
  split at h
  · rfl
  · cases h

/-- A finite run, for two numbers. -/
theorem run2 {K : Nat → List D → List D → Prop} (l : List (Nat × IF)) [HasAll K l] {n d k A B : Nat} (h : allB A (fun a => allB B fun b => isTrue (evF (tableOf l) n d k [.n a, .n b])) = true) {a b : Int} (h1 : 0 ≤ a) (h2 : a < A) (h3 : 0 ≤ b) (h4 : b < B) : K k [.n a, .n b] [.b true] := by
  obtain ⟨a, rfl⟩ := Int.eq_ofNat_of_zero_le h1
  obtain ⟨b, rfl⟩ := Int.eq_ofNat_of_zero_le h3
  exact run l n d k (isTrue_spec (allB_spec (allB_spec h a (by omega)) b (by omega)))

theorem run1 {K : Nat → List D → List D → Prop} (l : List (Nat × IF)) [HasAll K l] {n d k A : Nat} (h : allB A (fun a => isTrue (evF (tableOf l) n d k [.n a])) = true) {a : Int} (h1 : 0 ≤ a) (h2 : a < A) : K k [.n a] [.b true] := by
  obtain ⟨a, rfl⟩ := Int.eq_ofNat_of_zero_le h1
  exact run l n d k (isTrue_spec (allB_spec h a (by omega)))

/-- A finite run, row by row. -/
theorem runRow {K : Nat → List D → List D → Prop} (l : List (Nat × IF)) [HasAll K l] {n d k B : Nat} {a : Int} (h : allB B (fun b => isTrue (evF (tableOf l) n d k [.n a, .n b])) = true) {b : Int} (h3 : 0 ≤ b) (h4 : b < B) : K k [.n a, .n b] [.b true] := by
  obtain ⟨b, rfl⟩ := Int.eq_ofNat_of_zero_le h3
  exact run l n d k (isTrue_spec (allB_spec h b (by omega)))

end Go.Cat
