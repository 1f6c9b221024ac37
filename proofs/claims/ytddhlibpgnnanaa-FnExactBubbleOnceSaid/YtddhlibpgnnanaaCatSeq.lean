/-
  Regions in the order of the text.
-/
import Derived.Test.YtddhlibpgnnanaaCatReg
namespace Go.Cat

def Fact.ments : Fact → List Nat
  | .en n _ => [n]
  | .sl _ l => l.ments

/-- No fact speaks of an entry that is not there yet. -/
def bdOK (st : List Fact) (cnt : Nat) : Bool := st.all fun f => f.ments.all fun n => decide (n < cnt)

def subL (a b : List Fact) : Bool := a.all fun f => b.contains f

def trSeq (cf : CF) (sg : Nat → Option Sg) (ops : Array Oper) : List Oper → List Fact → Nat → List Nat → Option (List Sq × List Fact × Nat)
  | [], st, cnt, _ => some ([], st, cnt)
  | o :: os, st, cnt, hs => (trIt cf sg ops st cnt o (hs.headD 0)).bind fun q =>
    if subL q.sm.needs st = true ∧ bdOK st cnt = true then
      (trSeq cf sg ops os (nextL st o.dst q.sm) (cnt + q.it.p.np) hs.tail).map fun r => (q :: r.1, r.2)
    else none

theorem subL_mem {a b : List Fact} (h : subL a b = true) : ∀ f ∈ a, f ∈ b := by
  intro f hf
  simp only [subL, List.all_eq_true, List.contains_eq_mem, decide_eq_true_eq] at h
  exact h f hf

theorem bdOK_fresh {st : List Fact} {cnt : Nat} (h : bdOK st cnt = true) {m : Nat} (hm : cnt ≤ m) : Fresh (· ∈ st) m := by
  simp only [bdOK, List.all_eq_true, decide_eq_true_eq] at h
  constructor
  · intro s hf
    have := h _ hf m (by simp [Fact.ments])
    omega
  · intro t l hf hn
    have := h _ hf m (by simpa [Fact.ments] using hn)
    omega

theorem Holds.mono {c : Cx} {F F' : Fact → Prop} {E : Nat → D} {a : Act} {w : World} (h : Holds c F E a w) (hF : ∀ f, F' f → F f) : Holds c F' E a w := by
  obtain ⟨⟨vs, Bs, H⟩, hfix⟩ := h
  have hO : ∀ b, OB F' Bs b → OB F Bs b := fun b ⟨n, s, h1, h2⟩ => ⟨n, s, hF _ h1, h2⟩
  refine ⟨⟨vs, Bs, ?_, fun n s h => H.nodup n s (hF _ h), fun n s h => H.mine n s (hF _ h), fun n s m r h k => H.apart n s m r (hF _ h) (hF _ k), ?_, H.agr, H.os, H.tape, H.output, H.defers, H.size⟩, hfix⟩
  · intro n s h
    exact Own.ext (Agr.refl (fun _ => False) _) (fun _ _ q => q.elim) (fun b _ => hO b) s _ _ _ (fun _ _ q => q) (H.own n s (hF _ h))
  · intro t l h
    have := H.loc t l (hF _ h)
    cases l with
    | is n g => exact this
    | vc n g =>
      intro hg
      obtain ⟨b, o, cs, e, fz, k1, k2, k3, k4⟩ := this hg
      exact ⟨b, o, cs, e, fz, k1, k2, k3, fun q => k4 (hO b q)⟩
    | ad r p m g => exact fun hg ⟨s, hs⟩ => this hg ⟨s, hF _ hs⟩
    | ip r p m g => exact fun hg ⟨s, hs⟩ => this hg ⟨s, hF _ hs⟩
    | tu ns g => exact this
    | aw r p g => exact fun hg ⟨s, hs⟩ => this hg ⟨s, hF _ hs⟩

section
variable {cf : CF} {sg : Nat → Option Sg} {c : Cx} {E : Nat → D} {K : Nat → List D → List D → Prop} {ops : Array Oper}

theorem seq_sound (hs : Sound cf sg K) (hc : cf.Fits c) {Q : Exit → Act → World → Prop} : ∀ (os : List Oper) (i : Nat) (st : List Fact) (cnt : Nat) (hh : List Nat) (r : List Sq) (st' : List Fact) (cnt' : Nat),
    trSeq cf sg ops os st cnt hh = some (r, st', cnt') → (∀ j o, os[j]? = some o → ops[i + j]? = some o) → ItsOK K E cnt (r.map (·.it)) →
    ∀ (a : Act) (w : World), Holds c (· ∈ st) E a w → (∀ a' w', Holds c (· ∈ st') E a' w' → Q .normal a' w') → wpOps c.P ops Q (List.range' i os.length) a w
  | [], i, st, cnt, hh, r, st', cnt' => fun ht _ _ a w H hq => by
    simp only [trSeq, Option.some.injEq, Prod.mk.injEq] at ht
    obtain ⟨rfl, rfl, rfl⟩ := ht
    simp only [List.length_nil, List.range'_zero, wpOps]
    exact hq a w H
  | o :: os, i, st, cnt, hh, r, st', cnt' => fun ht ho hE a w H hq => by
    simp only [trSeq, Option.bind_eq_some_iff] at ht
    obtain ⟨q, h1, ht⟩ := ht
    split at ht
    · rename_i hcond
      simp only [Option.map_eq_some_iff, Prod.mk.injEq] at ht
      obtain ⟨⟨r2, st2, c2⟩, h2, rfl, h3⟩ := ht
      simp only [Prod.mk.injEq] at h3
      obtain ⟨rfl, rfl⟩ := h3
      simp only [List.map_cons, ItsOK] at hE
      simp only [List.length_cons, List.range'_succ]
      rw [wpOps_cons]
      refine item_sound hs hc h1 H (fun j _ => bdOK_fresh hcond.2 (by omega)) (subL_mem hcond.1) hE.1 (by simpa using ho 0 o (by simp)) fun a' w' H' => ?_
      refine seq_sound hs hc os (i + 1) _ _ _ _ _ _ h2 (fun j o' hj => ?_) hE.2 a' w' (H'.mono fun f hf => mem_nextL.1 hf) hq
      have := ho (j + 1) o' (by simpa using hj)
      rwa [show i + 1 + j = i + (j + 1) from by omega]
    · simp at ht
end
end Go.Cat
