/-
  A law's arguments: how they read as data, and that they read so behind the call.
-/
import Derived.Test.YtddhlibpgnnanaaCatGlue
import Derived.Test.YtddhlibpgnnanaaCatDat
import Derived.ChangeSlices
import Derived.ChangeMaps5
import Derived.SliceStrings
namespace Go.Cat
open Go.ChangeShapes Go.WideShapes Go.ChangeAt Go.RowKit

section
variable {H : Type} {enc : TypeId × Value → H} {P : Program}

theorem trodAll_stays (hl : laidOutB P = true) {W W' : World} (hb : Below W.heap.size W W') {sp : Nat → Bool} : ∀ {ts : List TypeId} {vs : List Value} {ds : List (DataW H)} {ps : List MemPlace},
    (∀ t ∈ ts, P.readableRec t = true ∧ t < P.types.size) → DataW.TrodAll enc P W 0 (fun _ => true) true ts vs ds ps → (∀ p ∈ ps, sp p.block = true) → (∀ p ∈ ps, p.block < W.heap.size) → DataW.TrodAll enc P W' 0 sp true ts vs ds ps
  | [], vs, ds, ps => fun _ h _ _ => by
    obtain ⟨rfl, rfl, rfl⟩ := trodAll_nil h
    exact trodAll_mk0
  | t :: ts, vs, ds, ps => fun hr h hs hlt => by
    obtain ⟨v, vs', d, ds', p, q, rfl, rfl, rfl, h1, h2⟩ := trodAll_cons h
    refine trodAll_cons_mk ?_ (trodAll_stays hl hb (fun u hu => hr u (List.mem_cons_of_mem _ hu)) h2 (fun x hx => hs x (List.mem_append_right _ hx)) fun x hx => hlt x (List.mem_append_right _ hx))
    obtain ⟨r1, r2⟩ := hr t (List.mem_cons_self ..)
    exact WideElems.Trod_stays hl r1 r2 h1 (fun x hx => hb.same (hlt x (List.mem_append_left _ hx))) fun x hx => hs x (List.mem_append_left _ hx)

/-- A slice of numbers. -/
theorem arg_ints {W : World} {base : Nat} {t e : TypeId} {k : IntKind} {v : Value} {d : DataW H} {ps : List MemPlace} (ht : P.underlying t = some (.slice e)) (he : P.underlying e = some (.int k)) (hc : P.cellsOf e = 1)
    (hval : Value.okWide P W .any base t v) (h : DataW.Trod enc P W 0 (fun _ => true) true t v d ps) :
    ∃ zs : List Int, (∀ z ∈ zs, (Lit.int k z).wf = true) ∧ ∀ (fid : Nat → Nat) (Z : Nat → Prop), (∀ b, ¬ Z b) → Rd fid W.heap Z (.l (zs.map (D.i k))) v := by
  obtain ⟨fuel, hf⟩ := h
  have hv := hval
  simp only [Value.okWide, ht, Cell.okWide] at hv
  obtain ⟨a, len, cap, rfl⟩ := okWide_slice ht hval
  have hcs : (Value.slice a len cap).cells.toList = [.slice a len cap] := rfl
  rw [hcs] at hf
  rcases open_ints ht he hc hf with ⟨h1, _⟩ | ⟨a', len', cap', zs, h1, _, hle, hm, hlen, _, hcell, hwf⟩
  · injection h1 with h1 _
    refine ⟨[], by simp, fun fid Z _ => ?_⟩
    simp only [List.map_nil, Rd]
    exact .inl ⟨trivial, h1⟩
  · injection h1 with h1 _
    injection h1 with e1 e2 e3
    subst e1 e2 e3
    have hlen' : zs.length = cap := by simpa using hlen
    simp only [Cell.ok, ht] at hv
    obtain ⟨_, _, _, hspot, row, cells, hsh, _⟩ := hv
    refine ⟨zs.take len, fun z hz => hwf z (List.mem_of_mem_take hz), fun fid Z hZ => ?_⟩
    simp only [Rd]
    right
    unfold World.shape? at hsh
    split at hsh
    · rename_i cs e' fz hb
      have ha : a' = ⟨a'.block, a'.off, none⟩ := by
        cases a'; simp only at hspot; rw [hspot]
      refine ⟨a'.block, a'.off, cap, cs, e', fz, ?_, hb, hZ _, ?_, ?_⟩
      · have hll : ((zs.take len).map (D.i k)).length = len := by simp; omega
        rw [hll, ← ha]
      · have key : ∀ (n o : Nat) (l : List Int), (∀ i, i < l.length → cs[o + i]? = some (.int k (l.getD i 0))) → RdL fid W.heap Z (l.map (D.i k)) (cs.toList.drop o) := by
          intro n o l
          induction l generalizing o with
          | nil => intro _; simp [RdL]
          | cons z l ih =>
            intro hl
            have h0 := hl 0 (by simp)
            simp only [Nat.add_zero, List.getD_cons_zero] at h0
            have : cs.toList.drop o = .int k z :: cs.toList.drop (o + 1) := by
              rw [List.drop_eq_getElem_cons (by have := (Array.getElem?_eq_some_iff.1 h0).1; simpa using this)]
              congr 1
              have := (Array.getElem?_eq_some_iff.1 h0).2
              simpa using this
            rw [this]
            simp only [List.map_cons, RdL, Rd]
            refine ⟨trivial, ih (o + 1) fun i hi => ?_⟩
            have := hl (i + 1) (by simpa using hi)
            simpa [Nat.add_assoc, Nat.add_comm 1 i] using this
        refine key 0 a'.off (zs.take len) fun i hi => ?_
        have hi2 : i < zs.length := by simp at hi; omega
        have h5 := hcell i hi2
        have h6 : cs[a'.off + i]? = some (.int k (zs.getD i 0)) := by
          rw [ha] at h5
          cases i with
          | zero => simpa [World.cell?, Addr.add, hb] using h5
          | succ i => simpa [World.cell?, Addr.add, hb] using h5
        rw [h6]
        have hi3 : i < len := by simp at hi; omega
        simp [List.getD_eq_getElem?_getD, hi3]
      · unfold maxLen at hm
        have hll : ((zs.take len).map (D.i k)).length = len := by simp; omega
        rw [hll]
        exact ⟨hle, by omega⟩
    · cases hsh

/-- A string. -/
theorem arg_string {W : World} {base : Nat} {t : TypeId} {v : Value} {d : DataW H} {ps : List MemPlace} (ht : P.underlying t = some .string)
    (hval : Value.okWide P W .any base t v) (h : DataW.Trod enc P W 0 (fun _ => true) true t v d ps) :
    ∃ s : List Nat, (∀ c ∈ s, c < 256) ∧ s.length ≤ 9223372036854775807 ∧ ∀ (fid : Nat → Nat) (Z : Nat → Prop), Rd fid W.heap Z (.s s) v := by
  obtain ⟨s, rfl, _, _, hs⟩ := Go.ChangeMaps.open_string ht hval h
  have hb : ∀ c ∈ s.data.toList.map (·.toNat), c < 256 := by
    intro c hc
    simp only [List.mem_map] at hc
    obtain ⟨x, _, rfl⟩ := hc
    exact x.toNat_lt
  have hl : (s.data.toList.map (·.toNat)).length ≤ 9223372036854775807 := by
    unfold maxLen at hs
    simp only [List.length_map, Array.length_toList]
    have : s.data.size = s.size := rfl
    omega
  refine ⟨s.data.toList.map (·.toNat), hb, hl, fun fid Z => ?_⟩
  simp only [Rd]
  refine ⟨?_, hb, hl⟩
  unfold strV
  congr 1
  apply ByteArray.ext
  simp only [List.map_map]
  apply Array.ext'
  have : ((fun c => UInt8.ofNat c) ∘ fun x : UInt8 => x.toNat) = id := by funext x; simp
  simp [this]
end

/-- Arguments, one by one. -/
theorem eachV_cons {fid : Nat → Nat} {h : Array Obj} {ps : List Sh} {ds : List D} {vs : List Value} {d : D} {v : Value} (hr : Rd fid h (fun b => b ∈ ([] : List Nat) ∨ False) d v)
    (ht : EachS (Own fid h (· ∈ ([] : List Nat)) (fun _ => False)) ps ds vs []) : EachS (Own fid h (· ∈ ([] : List Nat)) (fun _ => False)) (.v :: ps) (d :: ds) (v :: vs) [] := by
  simp only [EachS]
  exact ⟨[], [], rfl, by simp only [Own]; exact ⟨trivial, hr⟩, ht⟩
theorem eachY_cons {fid : Nat → Nat} {h : Array Obj} {ps : List Sh} {ds : List D} {vs : List Value} {d : D} {v : Value} (hr : Rd fid h (· ∈ ([] : List Nat)) d v)
    (ht : EachS (Own fid h (· ∈ ([] : List Nat)) (fun _ => False)) ps ds vs []) : EachS (Own fid h (· ∈ ([] : List Nat)) (fun _ => False)) (.y :: ps) (d :: ds) (v :: vs) [] := by
  simp only [EachS]
  exact ⟨[], [], rfl, by simp only [Own]; exact ⟨trivial, hr⟩, ht⟩
theorem each_nil {fid : Nat → Nat} {h : Array Obj} : EachS (Own fid h (· ∈ ([] : List Nat)) (fun _ => False)) [] [] [] [] := rfl

end Go.Cat
