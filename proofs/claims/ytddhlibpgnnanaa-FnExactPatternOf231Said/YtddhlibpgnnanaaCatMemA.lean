/-
  Memory: addresses of elements, loads, stores; what the model's operations give there.
-/
import Derived.Test.YtddhlibpgnnanaaCatCall
import Derived.Laws.OwnMore
import Derived.Great.BuildSlice
namespace Go.Cat

/-- The element type of a slice type, where each element fills one cell. -/
def elem1 (P : Program) (t : TypeId) : Option (TypeId × TypeInfo) :=
  match P.underlying t with
  | some (.slice e) => match P.info? e with
    | some i => if i.size = 1 then some (e, i) else none
    | none => none
  | _ => none

theorem elem1_spec {P : Program} {t e : TypeId} {i : TypeInfo} (h : elem1 P t = some (e, i)) : P.underlying t = some (.slice e) ∧ P.info? e = some i ∧ i.size = 1 := by
  unfold elem1 at h
  split at h
  · rename_i e' he
    split at h
    · rename_i i' hi
      split at h
      · rename_i hs
        simp only [Option.some.injEq, Prod.mk.injEq] at h
        obtain ⟨rfl, rfl⟩ := h
        exact ⟨he, hi, hs⟩
      · cases h
    · cases h
  · cases h

/-- A type whose variables fill one cell: no struct, no array. -/
def plain1 (P : Program) (t : TypeId) : Bool :=
  (match P.underlying t with
  | some (.struct _) => false
  | some (.array ..) => false
  | some _ => true
  | none => false) && (match P.info? t with | some i => i.size == 1 | none => false)

theorem run_isAgg {P : Program} {w : World} {t : TypeId} (h : plain1 P t = true) : (isAgg t).run P w = .ok false w := by
  unfold plain1 at h
  simp only [Bool.and_eq_true] at h
  obtain ⟨h, _⟩ := h
  unfold isAgg
  split at h
  · cases h
  · cases h
  · rename_i d h1 h2 h3
    rw [Sem.run_bind, run_underlying h3]
    simp only [Result.andThen]
    rfl
  · cases h

theorem run_indexAt1 {P : Program} {w : World} {t e : TypeId} {i : TypeInfo} (h : elem1 P t = some (e, i)) {b off len cap : Nat} {k : IntKind} {n : Nat} (hn : n < len) :
    (Instr.indexAt t (.slice (some ⟨b, off, none⟩) len cap) (.int k (n : Int))).run P w = .ok (.pointer (some ⟨b, off + n, none⟩)) w := by
  obtain ⟨h1, h2, h3⟩ := elem1_spec h
  simp [Instr.indexAt, run_underlying h1, asIntOf, hn, sizeOf, typeInfo, h2, h3, Addr.add_lit]

theorem run_loadAt1 {P : Program} {w : World} {t : TypeId} (h : plain1 P t = true) {b o : Nat} {cs : Array Value} {e : TypeId} {fz : Nat × Nat} {v : Value} (hb : w.heap[b]? = some (.cells cs e fz)) (hv : cs[o]? = some v) :
    (Instr.loadAt t (.pointer (some ⟨b, o, none⟩))).run P w = .ok v w := by
  have hc : w.cell? ⟨b, o, none⟩ = some v := by simp [World.cell?, hb, hv]
  simp [Instr.loadAt, Instr.sureAddr, loadVar, run_isAgg h, hc, Result.andThen]

theorem run_storeAt1 {P : Program} {w : World} {t : TypeId} (h : plain1 P t = true) {b o : Nat} {cs : Array Value} {e : TypeId} {v u : Value} (hb : w.heap[b]? = some (.cells cs e (0, 0))) (hv : cs[o]? = some u) (h1 : v.oneCell' = true) :
    (Instr.storeAt t (.pointer (some ⟨b, o, none⟩)) v).run P w = .ok () (w.setRow b (cs.setIfInBounds o v)) := by
  have hc : w.cell? ⟨b, o, none⟩ = some u := by simp [World.cell?, hb, hv]
  have hf : w.frozen? ⟨b, o, none⟩ = false := by simp [World.frozen?, hb]
  have hcs : v.cells = #[v] := by cases v <;> simp_all [Value.cells, Value.oneCell']
  unfold plain1 at h
  simp only [Bool.and_eq_true] at h
  obtain ⟨_, h⟩ := h
  split at h
  · rename_i i hi
    have hs : i.size = 1 := by simpa using h
    have hst := run_store P w ⟨b, o, none⟩ v .plain h1
    rw [hc] at hst
    simp only [hf] at hst
    simp [Instr.storeAt, Instr.sureAddr, storeVar, hcs, sizeOf, typeInfo, hi, hs, storeCells, Addr.add_lit, Result.andThen]
    have := hst
    simp at this
    rw [this, setCell_eq_setRow w b o cs e (0, 0) v hb]
  · cases h

end Go.Cat
