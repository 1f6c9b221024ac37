/-
  Addresses of elements, and loads.
-/
import Derived.Test.YtddhlibpgnnanaaCatMemB
namespace Go.Cat

section
variable (cf : CF) (st : List Fact) (cnt : Nat) (o : Oper) (g : Gd)

/-- The elements are numbers, bools, strings. -/
def flatE (P : Program) (t : TypeId) : Bool := match P.underlying t with
  | some (.slice e) => match P.underlying e with
    | some (.int _) => true
    | some .bool => true
    | some .string => true
    | _ => false
  | _ => false

def peOf : A → Option PE
  | .e n => some (.e n)
  | .c (.i _ k) => if 0 ≤ k then some (.k k.toNat) else none
  | _ => none

/-- Another entry of the same value: a slot that held the one, and is known to hold the other. -/
def aliasOf (st : List Fact) (n : Nat) : Option (Nat × Nat × Sh) := st.findSome? fun f => match f with
  | .sl u (.is n' []) => if n' = n then (match findSl st u with
    | some (.is m []) => (findEn st m).map fun s => (u, m, s)
    | _ => none) else none
  | _ => none

/-- What an operand is a part of: an entry, a path, the entry's shape. -/
def rootOf (x : Operand) : Option (Nat × List PE × Sh × List Fact) :=
  match x with
  | .tmp t => match findSl st t with
    | some (.is n g') => if g'.isPrefixOf g then (match findEn st n with
      | some s => some (n, [], s, [.sl t (.is n g'), .en n s])
      | none => (aliasOf st n).map fun x => (x.2.1, [], x.2.2, [.sl t (.is n g'), .sl x.1 (.is n []), .sl x.1 (.is x.2.1 []), .en x.2.1 x.2.2])) else none
    | some (.ip r p m g') => if g'.isPrefixOf g then (findEn st r).map fun s => (r, p, s, [.sl t (.ip r p m g'), .en r s]) else none
    | _ => none
  | _ => none

def trIx (t : TypeId) (x i : Operand) : Option (Pr × Sm) :=
  match o.dst with
  | none => none
  | some d => if d < cf.nt ∧ (elem1 cf.P t).isSome then
      (rootOf st g x).bind fun r => (opA cf st g i).bind fun a =>
        match r.2.2.1.under r.2.1.length with
        | some .v => if r.2.1 = [] then some (.ix (.e r.1) [] a.1, ⟨r.2.2.2 ++ a.2.2, [], one cnt .v (some d) (.vc cnt g)⟩) else none
        | some .y => if r.2.1 = [] then
            if flatE cf.P t = true then some (.iy (.e r.1) a.1, ⟨r.2.2.2 ++ a.2.2, [], one cnt .v (some d) (.vc cnt g)⟩)
            else some (.ix (.e r.1) [] a.1, ⟨r.2.2.2 ++ a.2.2, [], one cnt .y (some d) (.vc cnt g)⟩)
          else none
        | some (.o e) => (peOf a.1).map fun pe => (.ix (.e r.1) r.2.1 a.1, ⟨r.2.2.2 ++ a.2.2, [], if e = .v then one cnt .v (some d) (.ad r.1 (r.2.1 ++ [pe]) cnt g) else [.sl d (.ad r.1 (r.2.1 ++ [pe]) cnt g)]⟩)
        | none => none
    else none

def trLd (t : TypeId) (x : Operand) : Option (Pr × Sm) :=
  match x, o.dst with
  | .tmp s, some d => if d < cf.nt ∧ plain1 cf.P t = true then (findSl st s).bind fun l => match l with
    | .vc n g' => if g'.isPrefixOf g then some (.nop, ⟨[.sl s (.vc n g')], [], [.sl d (.is n g)]⟩) else none
    | .ad r p m g' => if g'.isPrefixOf g then (findEn st r).map fun sr => (.nop, ⟨[.sl s (.ad r p m g'), .en r sr], [], [.sl d (match findEn st m with | some _ => .is m g | none => .ip r p m g)]⟩) else none
    | .is _ _ | .ip _ _ _ _ | .tu _ _ | .aw _ _ _ => none
    else none
  | _, _ => none
end

theorem pathE_len {E : Nat → D} : ∀ {p : List PE} {is : List Nat}, pathE E p = some is → is.length = p.length
  | [], is, h => by simp [pathE] at h; subst h; rfl
  | x :: p, is, h => by
    simp only [pathE, List.mapM_cons, Option.bind_eq_bind, Option.bind_eq_some_iff, Option.pure_def, Option.some.injEq] at h
    obtain ⟨i, _, js, h2, rfl⟩ := h
    have := pathE_len (E := E) (p := p) (is := js) h2
    simp [this]

theorem pathE_snoc {E : Nat → D} {pe : PE} {j : Nat} (hj : pe.ev E = some j) : ∀ {p : List PE} {is : List Nat}, pathE E p = some is → pathE E (p ++ [pe]) = some (is ++ [j])
  | [], is, h => by simp [pathE] at h; subst h; simp [pathE, hj]
  | x :: p, is, h => by
    simp only [pathE, List.mapM_cons, Option.bind_eq_bind, Option.bind_eq_some_iff, Option.pure_def, Option.some.injEq] at h
    obtain ⟨i, h1, js, h2, rfl⟩ := h
    have := pathE_snoc hj (p := p) (is := js) h2
    simp only [pathE] at this
    simp [pathE, h1, this]

theorem Wk.det {h : Array Obj} : ∀ (is : List Nat) {v : Value} {b o b' o' : Nat} {x x' : Value}, Wk h is v b o x → Wk h is v b' o' x' → b = b' ∧ o = o' ∧ x = x'
  | [], _, _, _, _, _, _, _, k, _ => by simp [Wk] at k
  | i :: is, v, b, o, b', o', x, x', k, k' => by
    simp only [Wk] at k k'
    obtain ⟨b1, off, len, cap, cs, e, fz, y, hv, _, hb, hy, k⟩ := k
    obtain ⟨b2, off2, len2, cap2, cs2, e2, fz2, y2, hv2, _, hb2, hy2, k'⟩ := k'
    rw [hv] at hv2
    injection hv2 with q1 q2 q3
    injection q1 with q1
    injection q1 with q1 q4
    subst q1 q4
    rw [hb] at hb2
    injection hb2 with hb2
    injection hb2 with hc _ _
    subst hc
    rw [hy] at hy2
    injection hy2 with hy2
    subst hy2
    rcases k with ⟨h1, rfl, rfl, rfl⟩ | ⟨h1, k⟩
    · rcases k' with ⟨_, rfl, rfl, rfl⟩ | ⟨h2, _⟩
      · exact ⟨rfl, rfl, rfl⟩
      · exact (h2 h1).elim
    · rcases k' with ⟨h2, _⟩ | ⟨_, k'⟩
      · exact (h1 h2).elim
      · exact Wk.det is k k'

section
variable {cf : CF} {c : Cx} {F : Fact → Prop} {E : Nat → D} {a : Act} {w : World} {vs : Nat → Value} {Bs : Nat → List Nat} {cnt : Nat} {g : Gd} {sm : Sm} {st : List Fact} {o : Oper} {p : Pr}
  {K : Nat → List D → List D → Prop}

theorem prefix_gd {E : Nat → D} {g g' : Gd} (h : g'.isPrefixOf g = true) (hg : gdOK E g) : gdOK E g' := fun x hx => hg x ((List.isPrefixOf_iff_prefix.1 h).subset hx)

theorem rootOf_sound {x : Operand} {n : Nat} {q : List PE} {s s' : Sh} {ns : List Fact} (hr : rootOf st g x = some (n, q, s, ns)) (h : At cf c F E a w vs Bs cnt g p sm) (hn : ∀ f ∈ ns, f ∈ sm.needs)
    (hs : s.under q.length = some s') :
    F (.en n s) ∧ ∃ is d, pathE E q = some is ∧ getP is (E n) = some d ∧ (∃ B, Own c.fid w.heap (OB F Bs) c.Xb s' d (a.eval x) B ∧ ∀ b ∈ B, b ∈ Bs n) ∧
      ((is = [] ∧ a.eval x = vs n ∧ d = E n) ∨ (is ≠ [] ∧ ∃ b o, Wk w.heap is (vs n) b o (a.eval x))) := by
  unfold rootOf at hr
  split at hr
  · rename_i t
    split at hr
    · rename_i n' g' hl
      split at hr
      · rename_i hg'
        split at hr
        · rename_i s1 hs1
          simp only [Option.some.injEq, Prod.mk.injEq] at hr
          obtain ⟨rfl, rfl, rfl, rfl⟩ := hr
          have h1 := (h.H.loc t _ (h.needs _ (hn (.sl t (.is n' g')) (by simp)))).1 (prefix_gd hg' h.g)
          have h2 := h.needs _ (hn (.en n' s1) (by simp))
          have h5 : a.eval (.tmp t) = vs n' := by simp [Act.eval, Array.getD_eq_getD_getElem?, h1]
          simp only [List.length_nil, Sh.under, Option.some.injEq] at hs
          subst hs
          refine ⟨h2, [], E n', rfl, rfl, ⟨Bs n', ?_, fun _ q => q⟩, .inl ⟨rfl, h5, rfl⟩⟩
          rw [h5]; exact h.H.own n' s1 h2
        · simp only [Option.map_eq_some_iff, Prod.mk.injEq] at hr
          obtain ⟨⟨u, m, s1⟩, _, rfl, rfl, rfl, rfl⟩ := hr
          simp only at hn hs ⊢
          have h1 := (h.H.loc t _ (h.needs _ (hn (.sl t (.is n' g')) (by simp)))).1 (prefix_gd hg' h.g)
          have h3 := (h.H.loc u _ (h.needs _ (hn (.sl u (.is n' [])) (by simp)))).1 (by simp [gdOK])
          have h4 := (h.H.loc u _ (h.needs _ (hn (.sl u (.is m [])) (by simp)))).1 (by simp [gdOK])
          have h2 := h.needs _ (hn (.en m s1) (by simp))
          have h6 : vs n' = vs m := by rw [h3] at h4; injection h4
          have h5 : a.eval (.tmp t) = vs m := by rw [← h6]; simp [Act.eval, Array.getD_eq_getD_getElem?, h1]
          simp only [List.length_nil, Sh.under, Option.some.injEq] at hs
          subst hs
          refine ⟨h2, [], E m, rfl, rfl, ⟨Bs m, ?_, fun _ q => q⟩, .inl ⟨rfl, h5, rfl⟩⟩
          rw [h5]; exact h.H.own m s1 h2
      · cases hr
    · rename_i r q' m g' hl
      split at hr
      · rename_i hg'
        simp only [Option.map_eq_some_iff, Prod.mk.injEq] at hr
        obtain ⟨s1, hs1, rfl, rfl, rfl, rfl⟩ := hr
        have h2 := h.needs _ (hn (.en r s1) (by simp))
        obtain ⟨is, b, o', d, k1, k2, k3, k4⟩ := h.H.loc t _ (h.needs _ (hn (.sl t (.ip r q' m g')) (by simp))) (prefix_gd hg' h.g) ⟨s1, h2⟩
        have h5 : a.eval (.tmp t) = vs m := by simp [Act.eval, Array.getD_eq_getD_getElem?, k4]
        have hne : is ≠ [] := by rintro rfl; simp [Wk] at k3
        obtain ⟨b2, o2, x2, B2, w1, w2, w3, _⟩ := Wk.of_own is s1 s' (E r) d (vs r) (Bs r) hne (h.H.own r s1 h2) k2 (by rw [pathE_len k1]; exact hs)
        obtain ⟨_, _, e3⟩ := Wk.det is k3 w1
        refine ⟨h2, is, d, k1, k2, ⟨B2, ?_, w3⟩, .inr ⟨hne, b, o', ?_⟩⟩
        · rw [h5, e3]; exact w2
        · rw [h5]; exact k3
      · cases hr
    · cases hr
  · cases hr

/-- One new entry of which only a slot speaks. -/
theorem HoldsG.leaf0 {w' : World} (H : HoldsG c F E a w vs Bs)
    {m : Nat} (hm : Fresh F m) {v u : Value} {d : Nat} {ns : List Fact} {l : Loc} (hd : d < c.nt)
    (hw : w'.heap = w.heap ∧ w'.os = w.os ∧ w'.tape = w.tape ∧ w'.output = w.output)
    (hl : ∀ tm : Array Value, tm[d]? = some u → LocR w.heap E (upd vs m v) (OB F Bs) (alive F) tm d l) :
    HoldsG c (next F (some d) ⟨ns, [], [.sl d l]⟩) E (a.put (some d) u) w' (upd vs m v) (upd Bs m []) := by
  refine HoldsG.step (fun n => n = m) (fun _ => False) (fun _ => False) (some d) H (fun n hn => upd_ne vs v hn) (fun n hn => upd_ne Bs [] hn)
    (fun t l hl n hn e => hm.2 t l hl (e ▸ hn)) (fun _ q => q.elim) (by rw [hw.1]; exact Agr.refl _ _) hw.2.1 hw.2.2.1 hw.2.2.2
    (fun t ht => put_get ht) put_size put_defers ?_ ?_ ?_ ?_ ?_ ?_
  · rintro f (⟨h1, h2⟩ | h)
    · left; refine ⟨h1, ?_⟩; cases f <;> simp at h2 ⊢; exact h2
    · right; simp at h; subst h; rfl
  · rintro n r rfl hf
    rcases hf with ⟨h1, _⟩ | h
    · exact (hm.1 r h1).elim
    · simp at h
  · rintro n r rfl _; rw [upd_same]; exact List.nodup_nil
  · rintro n r rfl _; rw [upd_same]; simp
  · rintro n r k q rfl rfl _ _ h; exact (h rfl).elim
  · intro t l' ht hf
    rcases hf with ⟨_, h2⟩ | h
    · exact (h2 ht).elim
    · simp at h
      obtain ⟨rfl, rfl⟩ := h
      have := hl (a.put (some t) u).tmps (put_self (by rw [H.size]; exact hd))
      have hO : ∀ b, (OBk F Bs (fun _ => False) b ∨ ∃ k, k = m ∧ b ∈ upd Bs m [] k) → OB F Bs b := fun b q => q.elim (fun ⟨n, s, h1, _, h3⟩ => ⟨n, s, h1, h3⟩) (by rintro ⟨k, rfl, hk⟩; simp [upd_same] at hk)
      have hal : ∀ n, alive (next F (some t) ⟨ns, [], [.sl t l']⟩) n → alive F n := by
        rintro n ⟨s, h | h⟩
        · exact ⟨s, h.1⟩
        · simp at h
      rw [hw.1]
      cases l' with
      | vc n g =>
        intro hg
        obtain ⟨b, o, cs, e, fz, k1, k2, k3, k4⟩ := this hg
        exact ⟨b, o, cs, e, fz, k1, k2, k3, fun q => k4 (hO b q)⟩
      | is n g => exact this
      | tu n g => exact this
      | ad r p m g => exact fun hg ha => this hg (hal _ ha)
      | ip r p m g => exact fun hg ha => this hg (hal _ ha)
      | aw r p g => exact fun hg ha => this hg (hal _ ha)

theorem ixD_spec {d i x : D} (h : ixD d i = some x) : ∃ xs k n, d = .l xs ∧ i = .i k (n : Nat) ∧ xs[n]? = some x := by
  unfold ixD at h
  split at h
  · rename_i xs k n
    split at h
    · rename_i h0
      obtain ⟨m, rfl⟩ := Int.eq_ofNat_of_zero_le h0
      simp only [Int.toNat_natCast, Option.bind_eq_some_iff] at h
      obtain ⟨y, h1, h2⟩ := h
      unfold known at h2
      split at h2
      · cases h2
      · cases h2; exact ⟨xs, k, m, rfl, rfl, h1⟩
    · cases h
  · cases h

theorem peOf_ev {α : A} {pe : PE} {k : IntKind} {n : Nat} (h : peOf α = some pe) (he : ev E α = .i k (n : Nat)) : pe.ev E = some n := by
  unfold peOf at h
  split at h
  · injection h with h; subst h
    simp only [ev] at he
    simp [PE.ev, he]
  · rename_i k' z
    split at h
    · injection h with h; subst h
      simp only [ev] at he
      injection he with _ he
      simp [PE.ev, he]
    · cases h
  · cases h

end
end Go.Cat
