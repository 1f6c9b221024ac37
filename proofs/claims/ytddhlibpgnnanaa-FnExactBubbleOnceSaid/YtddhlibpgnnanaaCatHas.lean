/-
  A function that is known by its number.
-/
import Derived.Test.YtddhlibpgnnanaaCatEval
namespace Go.Cat

/-- K knows function k by its text. -/
class Has (K : Nat → List D → List D → Prop) (k : Nat) (f : outParam IF) : Prop where
  h : ∀ ds rs, Body K f ds rs → K k ds rs

class HasAll (K : Nat → List D → List D → Prop) (l : List (Nat × IF)) : Prop where
  h : ∀ k f, (k, f) ∈ l → ∀ ds rs, Body K f ds rs → K k ds rs

instance {K : Nat → List D → List D → Prop} : HasAll K [] := ⟨by simp⟩
instance {K : Nat → List D → List D → Prop} {k : Nat} {f : IF} {l : List (Nat × IF)} [a : Has K k f] [b : HasAll K l] : HasAll K ((k, f) :: l) := by
  refine ⟨fun k' f' h => ?_⟩
  rcases List.mem_cons.1 h with h | h
  · cases h; exact a.h
  · exact b.h _ _ h

noncomputable def tableOf (l : List (Nat × IF)) (k : Nat) : Option IF :=
  List.rec (motive := fun _ => Option IF) none (fun x _ ih => bif Nat.beq x.1 k then some x.2 else ih) l

theorem tableOf_mem {k : Nat} {f : IF} : ∀ {l : List (Nat × IF)}, tableOf l k = some f → (k, f) ∈ l
  | [], h => by cases h
  | (j, g) :: r, h => by
    change (bif Nat.beq j k then some g else tableOf r k) = some f at h
    cases hb : Nat.beq j k with
    | true => rw [hb, cond_true] at h; cases h; rw [Nat.eq_of_beq_eq_true hb]; simp
    | false => rw [hb, cond_false] at h; exact List.mem_cons_of_mem _ (tableOf_mem h)

/-- Run it: n bounds the rounds of each loop, d the depth of calls. -/
theorem run {K : Nat → List D → List D → Prop} (l : List (Nat × IF)) [HasAll K l] (n d k : Nat) {ds rs : List D} (h : evF (tableOf l) n d k ds = some rs) : K k ds rs :=
  evF_sound (fun k f ds rs hk hb => HasAll.h k f (tableOf_mem hk) ds rs hb) n d k ds rs h

end Go.Cat
