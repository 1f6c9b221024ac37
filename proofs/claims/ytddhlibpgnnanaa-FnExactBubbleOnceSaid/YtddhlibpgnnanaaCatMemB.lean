/-
  One new entry that may own blocks; slots that come to speak of old entries; elements of what is readable, and of what is owned.
-/
import Derived.Test.YtddhlibpgnnanaaCatMemA
namespace Go.Cat

/-- One new entry: its blocks are new, or were given up with 'kill'; memory has turned only where something was given up. -/
theorem HoldsG.put {c : Cx} {F : Fact → Prop} {E : Nat → D} {a : Act} {w w' : World} {vs : Nat → Value} {Bs : Nat → List Nat} (H : HoldsG c F E a w vs Bs)
    {m : Nat} (hm : Fresh F m) {s : Sh} {v : Value} {B : List Nat} {dst : Option Nat} {ns : List Fact} (hd : inB dst c.nt = true) (kill : List Nat)
    (ha : Agr (fun b => ∃ n s, F (.en n s) ∧ n ∈ kill ∧ b ∈ Bs n) w.heap w'.heap) (hos : w'.os = w.os) (htape : w'.tape = w.tape) (hout : w'.output = w.output)
    (hown : Own c.fid w'.heap (fun b => OBk F Bs (fun n => n ∈ kill) b ∨ b ∈ B) c.Xb s (E m) v B) (hnd : B.Nodup)
    (hbl : ∀ b ∈ B, (∃ n r, F (.en n r) ∧ n ∈ kill ∧ b ∈ Bs n) ∨ w.heap.size ≤ b) {g : Gd} (hg : gdOK E g) :
    HoldsG c (next F dst ⟨ns, kill, one m s dst (.is m g)⟩) E (a.put dst v) w' (upd vs m v) (upd Bs m B) := by
  have hnew : ∀ f, f ∈ one m s dst (.is m g) → (f = .en m s) ∨ ∃ t, dst = some t ∧ f = .sl t (.is m g) := by
    intro f hf
    unfold one at hf
    cases dst with
    | none => simp at hf; exact .inl hf
    | some t => simp at hf; rcases hf with hf | hf; exact .inl hf; exact .inr ⟨t, rfl, hf⟩
  refine HoldsG.step (fun n => n = m) (fun n => n ∈ kill) (fun b => ∃ n s, F (.en n s) ∧ n ∈ kill ∧ b ∈ Bs n) dst H (fun n hn => upd_ne vs v hn) (fun n hn => upd_ne Bs B hn)
    (fun t l hl n hn e => hm.2 t l hl (e ▸ hn)) (fun _ q => q) ha hos htape hout
    (fun t ht => put_get ht) put_size put_defers ?_ ?_ ?_ ?_ ?_ ?_
  · rintro f (⟨h1, h2⟩ | h)
    · left; refine ⟨h1, ?_⟩; cases f <;> exact h2
    · right
      rcases hnew f h with rfl | ⟨t, ht, rfl⟩
      · rfl
      · exact ht.symm
  · rintro n r rfl hf
    rcases hf with ⟨h1, _⟩ | h
    · exact (hm.1 r h1).elim
    · rcases hnew _ h with h | ⟨t, _, h⟩
      · injection h with _ h; subst h
        rw [upd_same, upd_same]
        refine Own.ext (Agr.refl (fun _ => False) _) (fun _ _ q => q.elim) (fun b _ q => ?_) _ _ _ _ (fun _ _ q => q) hown
        rcases q with q | ⟨k, rfl, hk⟩
        · exact .inl q
        · rw [upd_same] at hk; exact .inr hk
      · simp at h
  · rintro n r rfl _; rw [upd_same]; exact hnd
  · rintro n r rfl _; rw [upd_same]; exact hbl
  · rintro n r k q rfl rfl _ _ h; exact (h rfl).elim
  · rintro t l' ht hf
    rcases hf with ⟨_, h2⟩ | h
    · exact (h2 ht).elim
    · rcases hnew _ h with h | ⟨t', ht', h⟩
      · simp at h
      · injection h with h1 h2; subst h1 h2
        refine ⟨fun _ => ?_, fun q => (q hg).elim⟩
        rw [upd_same, ht']
        exact put_self (by rw [H.size]; simpa [inB, ht'] using hd)

/-- A slot comes to speak of old entries; nothing else turns. -/
theorem HoldsG.slot {c : Cx} {F : Fact → Prop} {E : Nat → D} {a : Act} {w w' : World} {vs : Nat → Value} {Bs : Nat → List Nat} (H : HoldsG c F E a w vs Bs)
    {u : Value} {d : Nat} {ns : List Fact} {l : Loc} (hw : w'.heap = w.heap ∧ w'.os = w.os ∧ w'.tape = w.tape ∧ w'.output = w.output)
    (hl : LocR w.heap E vs (OB F Bs) (alive F) (a.put (some d) u).tmps d l) :
    HoldsG c (next F (some d) ⟨ns, [], [.sl d l]⟩) E (a.put (some d) u) w' vs Bs := by
  refine HoldsG.step (fun _ => False) (fun _ => False) (fun _ => False) (some d) H (fun _ _ => rfl) (fun _ _ => rfl) (fun _ _ _ _ _ q => q) (fun _ q => q.elim) (by rw [hw.1]; exact Agr.refl _ _) hw.2.1 hw.2.2.1 hw.2.2.2
    (fun t ht => put_get ht) put_size put_defers ?_ (fun _ _ q => q.elim) (fun _ _ q => q.elim) (fun _ _ q => q.elim) (fun _ _ _ _ q => q.elim) ?_
  · rintro f (⟨h1, h2⟩ | h)
    · left; refine ⟨h1, ?_⟩; cases f <;> simp at h2 ⊢; exact h2
    · right; simp at h; subst h; rfl
  · intro t l' ht hf
    rcases hf with ⟨_, h2⟩ | h
    · exact (h2 ht).elim
    · simp at h
      obtain ⟨rfl, rfl⟩ := h
      have hO : ∀ b, (OBk F Bs (fun _ => False) b ∨ ∃ k, False ∧ b ∈ Bs k) → OB F Bs b := fun b q => q.elim (fun ⟨n, s, h1, _, h3⟩ => ⟨n, s, h1, h3⟩) (by rintro ⟨_, q, _⟩; exact q.elim)
      have hal : ∀ n, alive (next F (some t) ⟨ns, [], [.sl t l']⟩) n → alive F n := by
        rintro n ⟨s, h | h⟩
        · exact ⟨s, h.1⟩
        · simp at h
      rw [hw.1]
      cases l' with
      | vc n g =>
        intro hg
        obtain ⟨b, o, cs, e, fz, k1, k2, k3, k4⟩ := hl hg
        exact ⟨b, o, cs, e, fz, k1, k2, k3, fun q => k4 (hO b q)⟩
      | is n g => exact hl
      | tu n g => exact hl
      | ad r p m g => exact fun hg ha => hl hg (hal _ ha)
      | ip r p m g => exact fun hg ha => hl hg (hal _ ha)
      | aw r p g => exact fun hg ha => hl hg (hal _ ha)

/-- An element of what is readable. -/
theorem Rd.elem {fid : Nat → Nat} {h : Array Obj} {Z : Nat → Prop} {xs : List D} {v : Value} {n : Nat} {d : D} (r : Rd fid h Z (.l xs) v) (hx : xs[n]? = some d) :
    ∃ b off cap cs e fz u, v = .slice (some ⟨b, off, none⟩) xs.length cap ∧ n < xs.length ∧ h[b]? = some (.cells cs e fz) ∧ ¬ Z b ∧ cs[off + n]? = some u ∧ Rd fid h Z d u := by
  simp only [Rd] at r
  rcases r with ⟨rfl, _⟩ | ⟨b, off, cap, cs, e, fz, hv, hb, hz, hl, _⟩
  · simp at hx
  · obtain ⟨u, h1, h2⟩ := RdL.get hl hx
    rw [drop_get] at h1
    have hn : n < xs.length := (List.getElem?_eq_some_iff.1 hx).1
    exact ⟨b, off, cap, cs, e, fz, u, hv, hn, hb, hz, h1, h2⟩

/-- What lies below a shape, n steps down. -/
def Sh.under : Sh → Nat → Option Sh
  | s, 0 => some s
  | .o s, n + 1 => s.under n
  | _, _ + 1 => none

/-- What lies at a path in what is owned. -/
theorem Wk.of_own {fid : Nat → Nat} {h : Array Obj} {O X : Nat → Prop} : ∀ (is : List Nat) (s s' : Sh) (d d' : D) (v : Value) (B : List Nat), is ≠ [] → Own fid h O X s d v B → getP is d = some d' → s.under is.length = some s' →
    ∃ b o x B', Wk h is v b o x ∧ Own fid h O X s' d' x B' ∧ (∀ k ∈ B', k ∈ B) ∧ b ∈ B
  | [], _, _, _, _, _, _, hne => (hne rfl).elim
  | i :: is, s, s', d, d', v, B, _ => fun r hg hs => by
    cases s with
    | v => simp [Sh.under] at hs
    | y => simp [Sh.under] at hs
    | o s =>
      simp only [List.length_cons, Sh.under] at hs
      simp only [Own] at r
      rcases r with ⟨rfl, _⟩ | ⟨xs, rfl, r⟩
      · simp [getP] at hg
      simp only [getP] at hg
      cases hx : xs[i]? with
      | none => simp [hx] at hg
      | some d1 =>
        simp only [hx, Option.bind_some] at hg
        have hi : i < xs.length := (List.getElem?_eq_some_iff.1 hx).1
        rcases r with ⟨_, rfl, _⟩ | ⟨b, off, cap, cs, e, fz, B', rfl, hv, hb, ht, h1, h2, h3, he⟩
        · simp at hx
        · obtain ⟨u, B1, hu, hB1, hr⟩ := Each.get he hx
          rw [drop_get] at hu
          by_cases hn : is = []
          · subst hn
            simp only [getP, Option.some.injEq] at hg
            subst hg
            simp only [List.length_nil, Sh.under, Option.some.injEq] at hs
            subst hs
            exact ⟨b, off + i, u, B1, ⟨b, off, _, cap, cs, e, fz, u, hv, hi, hb, hu, .inl ⟨rfl, rfl, rfl, rfl⟩⟩, hr, fun k hk => List.mem_cons_of_mem _ (hB1 k hk), by simp⟩
          · obtain ⟨b2, o2, x2, B2, hw, ho, hB2, hb2⟩ := Wk.of_own is s s' d1 d' u B1 hn hr hg hs
            refine ⟨b2, o2, x2, B2, ⟨b, off, _, cap, cs, e, fz, u, hv, hi, hb, hu, .inr ⟨hn, hw⟩⟩, ho, fun k hk => List.mem_cons_of_mem _ (hB1 k (hB2 k hk)), List.mem_cons_of_mem _ (hB1 _ hb2)⟩

/-- The cell at the end of a walk. -/
theorem Wk.cell {h : Array Obj} : ∀ (is : List Nat) {v : Value} {b o : Nat} {x : Value}, Wk h is v b o x → ∃ cs e fz, h[b]? = some (.cells cs e fz) ∧ cs[o]? = some x
  | [], _, _, _, _, k => by simp [Wk] at k
  | i :: is, v, b, o, x, k => by
    simp only [Wk] at k
    obtain ⟨b', off, len, cap, cs, e, fz, y, hv, hi, hb, hy, k⟩ := k
    rcases k with ⟨_, rfl, rfl, rfl⟩ | ⟨_, k⟩
    · exact ⟨cs, e, fz, hb, hy⟩
    · exact Wk.cell is k

/-- One step more. -/
theorem Wk.snoc {h : Array Obj} : ∀ (is : List Nat) {v : Value} {b o : Nat} {x : Value} {i b2 o2 : Nat} {y : Value}, is ≠ [] → Wk h is v b o x → Wk h [i] x b2 o2 y → Wk h (is ++ [i]) v b2 o2 y
  | [], _, _, _, _, _, _, _, _, hn, _, _ => (hn rfl).elim
  | j :: is, v, b, o, x, i, b2, o2, y, _, k, k2 => by
    simp only [List.cons_append, Wk] at k ⊢
    obtain ⟨b', off, len, cap, cs, e, fz, z, hv, hi, hb, hy, k⟩ := k
    refine ⟨b', off, len, cap, cs, e, fz, z, hv, hi, hb, hy, .inr ⟨by simp, ?_⟩⟩
    rcases k with ⟨rfl, rfl, rfl, rfl⟩ | ⟨hne, k⟩
    · simpa using k2
    · exact Wk.snoc is hne k k2

theorem getP_append : ∀ (is js : List Nat) (d : D), getP (is ++ js) d = (getP is d).bind (getP js)
  | [], js, d => by simp [getP]
  | i :: is, js, d => by
    cases d with
    | l xs =>
      simp only [List.cons_append, getP]
      cases hx : xs[i]? with
      | none => simp
      | some d1 => simp [getP_append is js d1]
    | _ => simp [getP]

theorem Sh.under_add : ∀ (a b : Nat) (s s' : Sh), s.under a = some s' → s.under (a + b) = s'.under b
  | 0, b, s, s', h => by simp only [Sh.under, Option.some.injEq] at h; subst h; simp
  | a + 1, b, s, s', h => by
    cases s with
    | v => simp [Sh.under] at h
    | y => simp [Sh.under] at h
    | o s =>
      rw [show a + 1 + b = (a + b) + 1 by omega]
      simp only [Sh.under] at h ⊢
      exact Sh.under_add a b s s' h

end Go.Cat
