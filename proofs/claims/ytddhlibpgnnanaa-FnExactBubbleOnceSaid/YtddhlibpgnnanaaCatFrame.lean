/-
  An operation writes no slot but its own.
-/
import Derived.Test.YtddhlibpgnnanaaCatOpZ
namespace Go.Cat

theorem wp_frame {P : Program} {o : Oper} {a : Act} {w : World} {nxt nxt' : Act → World → Prop} {Q : Exit → Act → World → Prop} (h : o.wp P a w nxt Q)
    (hk : ∀ a' w', nxt a' w' → (∀ t, some t ≠ o.dst → a'.tmps[t]? = a.tmps[t]?) → nxt' a' w') : o.wp P a w nxt' Q := by
  unfold Oper.wp Oper.upon at *
  split at h
  · exact hk _ _ h fun t ht => put_get ht
  · exact hk _ _ h fun t ht => put_get ht
  · refine hk _ _ h fun t ht => ?_
    have := put_get (a := a) (v := undef) ht
    cases hd : o.dst <;> simp_all [Act.put]
  · refine h.mono ?_
    rintro e w'' he
    cases e with
    | returned v => exact hk _ _ he fun t ht => put_get ht
    | panicked c => exact he
    | outgrown => exact he
  · intro b cs
    obtain ⟨v, w'', hR, hs⟩ := h b cs
    exact ⟨v, w'', hk _ _ hR fun t ht => put_get ht, hs⟩
  · exact h
  · exact h

end Go.Cat
