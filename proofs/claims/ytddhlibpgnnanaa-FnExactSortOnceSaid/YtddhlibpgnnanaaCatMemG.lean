/-
  What append gives, at a row of any offset.
-/
import Derived.Test.YtddhlibpgnnanaaCatMemF
namespace Go.Cat

theorem run_app {P : Program} {w : World} {t ty e : TypeId} {ti : TypeInfo} {z : Value} (hel : elem1 P t = some (e, ti)) (hz : ti.zero = some z) (hz1 : z.cells = #[z]) (hby : ti.bytes ≤ 128)
    {olds news : List Value} {sv xv : Value}
    (hs : (sv = .slice none 0 0 ∧ olds = []) ∨ ∃ g off cap cs e', sv = .slice (some ⟨g, off, none⟩) olds.length cap ∧ w.heap[g]? = some (.cells cs e' (0, 0)) ∧ olds.length ≤ cap ∧ off + cap ≤ cs.size ∧ (∀ (j : Nat) (v : Value), olds[j]? = some v → cs[off + j]? = some v))
    (hx : (xv = .slice none 0 0 ∧ news = []) ∨ ∃ b off cap, xv = .slice (some ⟨b, off, none⟩) news.length cap ∧ ∀ (j : Nat) (v : Value), news[j]? = some v → w.cell? ⟨b, off + j, none⟩ = some v)
    (h1 : ∀ v ∈ news, v.oneCell' = true) (hbig : olds.length + news.length ≤ 1099511627776) :
    ∃ v' w', (Builtin.append_ #[t, t] ty #[sv, xv]).run P w = .ok v' w' ∧ w'.os = w.os ∧ w'.tape = w.tape ∧ w'.output = w.output ∧
      ((v' = .slice none 0 0 ∧ olds = [] ∧ news = [] ∧ w'.heap = w.heap) ∨
       (∃ g off cap cs e' cs', sv = .slice (some ⟨g, off, none⟩) olds.length cap ∧ w.heap[g]? = some (.cells cs e' (0, 0)) ∧ v' = .slice (some ⟨g, off, none⟩) (olds.length + news.length) cap ∧ olds.length + news.length ≤ cap ∧ cs'.size = cs.size ∧
          w'.heap[g]? = some (.cells cs' e' (0, 0)) ∧ (∀ b, b ≠ g → w'.heap[b]? = w.heap[b]?) ∧ w'.heap.size = w.heap.size ∧ ∀ (j : Nat) (v : Value), (olds ++ news)[j]? = some v → cs'[off + j]? = some v) ∨
       (∃ cap cs', v' = .slice (some ⟨w.heap.size, 0, none⟩) (olds.length + news.length) cap ∧ olds.length + news.length ≤ cap ∧ cap ≤ cs'.size ∧ w'.heap = w.heap.push (.cells cs' e) ∧ ∀ (j : Nat) (v : Value), (olds ++ news)[j]? = some v → cs'[j]? = some v)) := by
  obtain ⟨g1, g2, g3⟩ := elem1_spec hel
  have hbytes : (olds.length + news.length) * ti.bytes ≤ 140737488355328 := by
    have : (olds.length + news.length) * ti.bytes ≤ 1099511627776 * 128 := Nat.mul_le_mul hbig hby
    omega
  have hgc : ∀ (old : Nat), olds.length + news.length ≤ grownCap w (olds.length + news.length) old e := fun old => grownCap_ge w _ old e
  have hnewget : ∀ (old j : Nat) (v : Value), (olds ++ news)[j]? = some v → (olds.toArray ++ news.toArray ++ Builtin.zeroCells z.cells (grownCap w (olds.length + news.length) old e - (olds.length + news.length)))[j]? = some v := by
    intro old j v hj
    have hjl : j < (olds ++ news).length := (List.getElem?_eq_some_iff.1 hj).1
    rw [Array.getElem?_append_left (by simp only [Array.size_append, List.size_toArray]; simpa using hjl)]
    rw [← hj]
    simp [List.getElem?_append]
  have hnewsz : ∀ (old : Nat), (olds.toArray ++ news.toArray ++ Builtin.zeroCells z.cells (grownCap w (olds.length + news.length) old e - (olds.length + news.length))).size = grownCap w (olds.length + news.length) old e := by
    intro old
    have := hgc old
    simp only [Array.size_append, List.size_toArray, size_zeroCells, hz1]
    simp
    omega
  rcases hs with ⟨rfl, rfl⟩ | ⟨g, off, cap, cs, e', rfl, hg, hlc, hoc, hol⟩
  · rcases hx with ⟨rfl, rfl⟩ | ⟨b, xo, xc, rfl, hxn⟩
    · refine ⟨.slice none 0 0, w, ?_, rfl, rfl, rfl, .inl ⟨rfl, rfl, rfl, rfl⟩⟩
      simp [Builtin.append_, run_underlying g1, sizeOf, typeInfo, g2, Builtin.lenOf, Builtin.firstCells]
    · by_cases hm : news.length = 0
      · have : news = [] := List.eq_nil_of_length_eq_zero hm
        subst this
        refine ⟨.slice none 0 0, w, ?_, rfl, rfl, rfl, .inl ⟨rfl, rfl, rfl, rfl⟩⟩
        simp [Builtin.append_, run_underlying g1, sizeOf, typeInfo, g2, Builtin.lenOf, Builtin.firstCells, loadCells, loadCellsFrom]
      · have hr := run_append_nil (P := P) w t ty e ti z g1 g2 hz ⟨b, xo, none⟩ news.length xc news (by rw [g3]; omega) (fun j v hj => by rw [Addr.add_lit]; exact hxn j v hj) (by omega) (by simp at hbig; omega) (by simp at hbytes; omega)
        have hs1 := hnewsz 0
        have hs2 := hnewget 0
        have hs3 := hgc 0
        simp only [List.length_nil, Nat.zero_add, List.nil_append, Array.empty_append] at hs1 hs2 hs3
        refine ⟨_, _, hr, rfl, rfl, rfl, .inr (.inr ⟨grownCap w news.length 0 e, news.toArray ++ Builtin.zeroCells z.cells (grownCap w news.length 0 e - news.length), by simp, by simpa using hs3, by rw [hs1]; exact Nat.le_refl _, rfl, by simpa using hs2⟩)⟩
  · by_cases hroom : olds.length + news.length ≤ cap
    · -- in place
      have hf : (Builtin.firstCells ti.size news.length xv).run P w = .ok news.toArray w := by
        rcases hx with ⟨rfl, rfl⟩ | ⟨b, xo, xc, rfl, hxn⟩
        · simp [Builtin.firstCells]
        · exact run_firstCells_some (P := P) w ti.size news.length ⟨b, xo, none⟩ _ xc news (by rw [g3]; omega) (fun j v hj => by rw [Addr.add_lit]; exact hxn j v hj)
      have hlen : (Builtin.lenOf xv).run P w = .ok news.length w := by
        rcases hx with ⟨rfl, rfl⟩ | ⟨b, xo, xc, rfl, hxn⟩ <;> simp [Builtin.lenOf]
      have hst := run_storeCells_at P g (off + olds.length) e' news 0 cs w hg (by omega) h1
      simp only [Nat.add_zero] at hst
      have hx2 : ∃ a b c, xv = .slice a b c := by
        rcases hx with ⟨rfl, rfl⟩ | ⟨b, xo, xc, rfl, hxn⟩ <;> exact ⟨_, _, _, rfl⟩
      refine ⟨.slice (some ⟨g, off, none⟩) (olds.length + news.length) cap, w.setRow g (cs.toList.take (off + olds.length) ++ news ++ cs.toList.drop (off + olds.length + news.length)).toArray, ?_, rfl, rfl, rfl, .inr (.inl ⟨g, off, cap, cs, e', _, rfl, hg, rfl, hroom, ?_, setRow_heap w g cs _ e' _ hg, fun b hb => setRow_other w g b _ hb, by simp, ?_⟩)⟩
      · rw [g3] at hf
        simp [Builtin.append_, run_underlying g1, sizeOf, typeInfo, g2, hlen, hroom, g3, hf, Addr.add_lit, hst]
      · simp only [List.size_toArray, List.length_append, List.length_take, List.length_drop, Array.length_toList]
        omega
      · intro j v hj
        have hjl : j < (olds ++ news).length := (List.getElem?_eq_some_iff.1 hj).1
        simp only [List.length_append] at hjl
        simp only [List.getElem?_toArray]
        rw [List.getElem?_append_left (by simp only [List.length_append, List.length_take, Array.length_toList]; omega)]
        by_cases hjo : j < olds.length
        · rw [List.getElem?_append_left (by simp only [List.length_take, Array.length_toList]; omega), List.getElem?_take, if_pos (by omega)]
          rw [List.getElem?_append_left hjo] at hj
          simpa using hol j v hj
        · rw [List.getElem?_append_right (by simp only [List.length_take, Array.length_toList]; omega)]
          rw [List.getElem?_append_right (by omega)] at hj
          rw [← hj]
          congr 1
          simp only [List.length_take, Array.length_toList]
          omega
    · rcases hx with ⟨rfl, rfl⟩ | ⟨b, xo, xc, rfl, hxn⟩
      · simp at hroom; omega
      · have hr := run_append_grow (P := P) w t ty e ti z g1 g2 hz ⟨g, off, none⟩ olds.length cap olds (by rw [g3]; omega) (fun j v hj => by rw [Addr.add_lit]; simp [World.cell?, hg, hol j v hj]) ⟨b, xo, none⟩ news.length xc news (by rw [g3]; omega)
          (fun j v hj => by rw [Addr.add_lit]; exact hxn j v hj) (by omega) (by omega) (growslice_fits (by omega) hbytes)
        refine ⟨_, _, hr, rfl, rfl, rfl, .inr (.inr ⟨grownCap w (olds.length + news.length) cap e, _, rfl, hgc cap, by rw [hnewsz cap]; exact Nat.le_refl _, rfl, hnewget cap⟩)⟩

end Go.Cat
