/-
  A function that is known by its number.
-/
import Derived.Test.YtnlhpohgpmmiiaaCatEval
namespace Go.Cat

/-- K knows function k by its text. -/
class Has (K : Nat → List D → List D → Prop) (k : Nat) (f : outParam IF) : Prop where
  h : ∀ ds rs, Body K f ds rs → K k ds rs

class HasAll (K : Nat → List D → List D → Prop) (l : List (Nat × IF)) : Prop where
  h : ∀ k f, (k, f) ∈ l → ∀ ds rs, Body K f ds rs → K k ds rs

instance {K : Nat → List D → List D → Prop} : HasAll K [] := ⟨by simp⟩
instance {K : Nat → List D → List D → Prop} {k : Nat} {f : IF} {l : List (Nat × IF)} [a : Has K k f] [b : HasAll K l] : HasAll K ((k, f) :: l) := by
  refine ⟨fun k' f' h => ?_⟩
  rcases List.mem_cons.1 h with h | h
  · cases h; exact a.h
  · exact b.h _ _ h

def tableOf (l : List (Nat × IF)) (k : Nat) : Option IF := match l with
  | [] => none
  | (j, f) :: r => bif Nat.beq j k then some f else tableOf r k

theorem tableOf_mem {k : Nat} {f : IF} : ∀ {l : List (Nat × IF)}, tableOf l k = some f → (k, f) ∈ l
  | [], h => by simp [tableOf] at h
  | (j, g) :: r, h => by
    unfold tableOf at h
    cases hb : Nat.beq j k with
    | true => rw [hb, cond_true] at h; cases h; rw [Nat.eq_of_beq_eq_true hb]; simp
    | false => rw [hb, cond_false] at h; exact List.mem_cons_of_mem _ (tableOf_mem h)

/-- Run it: n bounds the rounds of each loop, d the depth of calls. -/
theorem run {K : Nat → List D → List D → Prop} (l : List (Nat × IF)) [HasAll K l] (n d k : Nat) {ds rs : List D} (h : evF (tableOf l) n d k ds = some rs) : K k ds rs :=
  evF_sound (fun k f ds rs hk hb => HasAll.h k f (tableOf_mem hk) ds rs hb) n d k ds rs h

end Go.Cat
