/-
  What is known between two operations of a region: entries with their shapes, and where they lie. Each operation turns these facts, and the rest stays ('HoldsG.step').
-/
import Derived.Test.YtddhlibpgnnanaaCatMem
namespace Go.Cat

abbrev Gd := List (Nat × Bool)

/-- What a slot holds: an entry's value; the address of a cell of what entry r owns (by a path; its content is entry m); what lies at a path in r; the address of a cell that may only be read; a tuple of entries; the address of a cell of what entry r owns, whatever it holds. -/
inductive Loc where
  | is (n : Nat) (g : Gd)
  | ad (r : Nat) (p : List PE) (m : Nat) (g : Gd)
  | ip (r : Nat) (p : List PE) (m : Nat) (g : Gd)
  | vc (n : Nat) (g : Gd)
  | tu (ns : List Nat) (g : Gd)
  | aw (r : Nat) (p : List PE) (g : Gd)
  deriving DecidableEq

inductive Fact where
  | en (n : Nat) (s : Sh)
  | sl (t : Nat) (l : Loc)
  deriving DecidableEq

def PE.ments : PE → List Nat
  | .e n => [n]
  | .k _ => []

def Loc.ments : Loc → List Nat
  | .is n _ => [n]
  | .ad r _ m _ => [r, m]
  | .ip r _ m _ => [r, m]
  | .vc n _ => [n]
  | .tu ns _ => ns
  | .aw r _ _ => [r]

def gdOK (E : Nat → D) (g : Gd) : Prop := ∀ x ∈ g, E x.1 = .b x.2

def pathE (E : Nat → D) (p : List PE) : Option (List Nat) := p.mapM (PE.ev E)

/-- The cell at a path: its address and what it holds. -/
def Wk (h : Array Obj) : List Nat → Value → Nat → Nat → Value → Prop
  | [], _, _, _, _ => False
  | i :: is, v, b, o, x => ∃ b' off len cap cs e fz y, v = .slice (some ⟨b', off, none⟩) len cap ∧ i < len ∧ h[b']? = some (.cells cs e fz) ∧ cs[off + i]? = some y ∧
      ((is = [] ∧ b = b' ∧ o = off + i ∧ x = y) ∨ (is ≠ [] ∧ Wk h is y b o x))

def LocR (h : Array Obj) (E : Nat → D) (vs : Nat → Value) (O al : Nat → Prop) (tm : Array Value) (t : Nat) : Loc → Prop
  | .is n g => (gdOK E g → tm[t]? = some (vs n)) ∧ (¬ gdOK E g → tm[t]? = some undef)
  | .vc n g => gdOK E g → ∃ b o cs e fz, tm[t]? = some (.pointer (some ⟨b, o, none⟩)) ∧ h[b]? = some (.cells cs e fz) ∧ cs[o]? = some (vs n) ∧ ¬ O b
  | .ad r p m g => gdOK E g → al r → ∃ is b o d, pathE E p = some is ∧ getP is (E r) = some d ∧ Wk h is (vs r) b o (vs m) ∧ tm[t]? = some (.pointer (some ⟨b, o, none⟩))
  | .ip r p m g => gdOK E g → al r → ∃ is b o d, pathE E p = some is ∧ getP is (E r) = some d ∧ Wk h is (vs r) b o (vs m) ∧ tm[t]? = some (vs m)
  | .tu ns g => gdOK E g → tm[t]? = some (.tuple (ns.map vs).toArray)
  | .aw r p g => gdOK E g → al r → ∃ is b o d x, pathE E p = some is ∧ getP is (E r) = some d ∧ Wk h is (vs r) b o x ∧ tm[t]? = some (.pointer (some ⟨b, o, none⟩))

/-- What does not turn in a call: the seat's numbers of functions; the world at the start; the blocks that were handed over; those that the caller owns besides. -/
structure Cx where
  P : Program
  fid : Nat → Nat
  w0 : World
  Ab : Nat → Prop
  Xb : Nat → Prop
  nt : Nat
  fix : List (Nat × Value)
  hX : ∀ b, Xb b → b < w0.heap.size ∧ ¬ Ab b

def OB (F : Fact → Prop) (Bs : Nat → List Nat) : Nat → Prop := fun b => ∃ n s, F (.en n s) ∧ b ∈ Bs n

/-- The blocks of what is not given up. -/
def OBk (F : Fact → Prop) (Bs : Nat → List Nat) (kill : Nat → Prop) : Nat → Prop := fun b => ∃ n s, F (.en n s) ∧ ¬ kill n ∧ b ∈ Bs n

def alive (F : Fact → Prop) : Nat → Prop := fun n => ∃ s, F (.en n s)

structure HoldsG (c : Cx) (F : Fact → Prop) (E : Nat → D) (a : Act) (w : World) (vs : Nat → Value) (Bs : Nat → List Nat) : Prop where
  own : ∀ n s, F (.en n s) → Own c.fid w.heap (OB F Bs) c.Xb s (E n) (vs n) (Bs n)
  nodup : ∀ n s, F (.en n s) → (Bs n).Nodup
  mine : ∀ n s, F (.en n s) → ∀ b ∈ Bs n, c.w0.heap.size ≤ b ∨ c.Ab b
  apart : ∀ n s m r, F (.en n s) → F (.en m r) → n ≠ m → ∀ b ∈ Bs n, b ∉ Bs m
  loc : ∀ t l, F (.sl t l) → LocR w.heap E vs (OB F Bs) (alive F) a.tmps t l
  agr : Agr c.Ab c.w0.heap w.heap
  os : w.os = c.w0.os
  tape : w.tape = c.w0.tape
  output : w.output = c.w0.output
  defers : a.defers = []
  size : a.tmps.size = c.nt

def HoldsX (c : Cx) (F : Fact → Prop) (E : Nat → D) (a : Act) (w : World) : Prop := ∃ vs Bs, HoldsG c F E a w vs Bs

/-- The slots that are never written hold what they held. -/
def Cx.fixed (c : Cx) (a : Act) : Prop := ∀ x ∈ c.fix, a.tmps[x.1]? = some x.2

def Holds (c : Cx) (F : Fact → Prop) (E : Nat → D) (a : Act) (w : World) : Prop := HoldsX c F E a w ∧ c.fixed a

theorem RdL.get {fid : Nat → Nat} {h : Array Obj} {Z : Nat → Prop} : ∀ {ds : List D} {vs : List Value} {i : Nat} {d : D}, RdL fid h Z ds vs → ds[i]? = some d → ∃ v, vs[i]? = some v ∧ Rd fid h Z d v
  | [], _, _, _ => fun _ h => by simp at h
  | d :: ds, v :: vs, 0, _ => fun r h => by simp only [RdL] at r; simp at h; exact ⟨v, by simp, h ▸ r.1⟩
  | d :: ds, v :: vs, i + 1, _ => fun r h => by
    simp only [RdL] at r
    obtain ⟨u, h1, h2⟩ := RdL.get r.2 (by simpa using h)
    exact ⟨u, by simpa using h1, h2⟩
  | _ :: _, [], _, _ => fun r _ => by simp [RdL] at r

theorem Each.get {R : D → Value → List Nat → Prop} : ∀ {ds : List D} {vs : List Value} {B : List Nat} {i : Nat} {d : D}, Each R ds vs B → ds[i]? = some d →
    ∃ v B1, vs[i]? = some v ∧ (∀ b ∈ B1, b ∈ B) ∧ R d v B1
  | [], _, _, _, _ => fun _ h => by simp at h
  | d :: ds, v :: vs, B, 0, _ => fun r h => by
    simp only [Each] at r; simp at h
    obtain ⟨B1, B2, rfl, h1, h2⟩ := r
    exact ⟨v, B1, by simp, fun b hb => List.mem_append_left _ hb, h ▸ h1⟩
  | d :: ds, v :: vs, B, i + 1, _ => fun r h => by
    simp only [Each] at r
    obtain ⟨B1, B2, rfl, h1, h2⟩ := r
    obtain ⟨u, B3, e1, e2, e3⟩ := Each.get h2 (by simpa using h)
    exact ⟨u, B3, by simpa using e1, fun b hb => List.mem_append_right _ (e2 b hb), e3⟩
  | _ :: _, [], _, _, _ => fun r _ => by simp [Each] at r

theorem drop_get {cs : Array Value} {off i : Nat} : (cs.toList.drop off)[i]? = cs[off + i]? := by
  simp [List.getElem?_drop]

/-- A walk through what can be read turns only with the blocks on its way. -/
theorem Wk.read {fid : Nat → Nat} {h h' : Array Obj} {Z : Nat → Prop} (hk : ∀ b, b < h.size → ¬ Z b → h'[b]? = h[b]?) : ∀ (is : List Nat) (d : D) (v : Value) (b o : Nat) (x : Value) (d' : D),
    Rd fid h Z d v → getP is d = some d' → Wk h is v b o x → Wk h' is v b o x
  | [], _, _, _, _, _, _ => fun _ _ k => by simp [Wk] at k
  | i :: is, d, v, b, o, x, d' => fun r g k => by
    cases d with
    | l xs =>
      simp only [Wk] at k ⊢
      obtain ⟨b', off, len, cap, cs, e, fz, y, hv, hi, hb, hy, k⟩ := k
      simp only [Rd] at r
      rcases r with ⟨_, r⟩ | ⟨b2, off2, cap2, cs2, e2, fz2, hv2, hb2, hz2, hl2, _⟩
      · rw [hv] at r; simp at r
      · rw [hv] at hv2
        injection hv2 with h1 h2 h3
        injection h1 with h1
        injection h1 with h1 h4
        subst h1 h4 h2
        rw [hb] at hb2
        injection hb2 with hb2
        injection hb2 with hc he hf
        subst hc
        refine ⟨b', off, _, cap, cs, e, fz, y, hv, hi, (hk b' (lt_of_some hb) hz2).trans hb, hy, ?_⟩
        rcases k with k | ⟨hne, k⟩
        · exact .inl k
        · refine .inr ⟨hne, ?_⟩
          simp only [getP] at g
          cases hx : xs[i]? with
          | none => simp [hx] at g
          | some d1 =>
            simp only [hx, Option.bind_some] at g
            obtain ⟨u, hu, hr⟩ := RdL.get hl2 hx
            rw [drop_get, hy] at hu
            injection hu with hu
            subst hu
            exact Wk.read hk is d1 y b o x d' hr g k
    | _ => simp [getP] at g

theorem Wk.own {fid : Nat → Nat} {h h' : Array Obj} {O X : Nat → Prop} : ∀ (is : List Nat) (s : Sh) (d : D) (v : Value) (B : List Nat) (b o : Nat) (x : Value) (d' : D),
    (∀ b, b < h.size → (b ∈ B ∨ ¬ O b) → h'[b]? = h[b]?) → Own fid h O X s d v B → getP is d = some d' → Wk h is v b o x → Wk h' is v b o x
  | [], _, _, _, _, _, _, _, _ => fun _ _ _ k => by simp [Wk] at k
  | i :: is, .v, d, v, B, b, o, x, d' => fun hk r g k => by
    simp only [Own] at r
    exact Wk.read (fun b hb hz => hk b hb (.inr fun q => hz (.inl q))) (i :: is) d v b o x d' r.2 g k
  | i :: is, .y, d, v, B, b, o, x, d' => fun hk r g k => by
    simp only [Own] at r
    exact Wk.read (fun b hb hz => hk b hb (.inr hz)) (i :: is) d v b o x d' r.2 g k
  | i :: is, .o s, d, v, B, b, o, x, d' => fun hk r g k => by
    simp only [Own] at r
    simp only [Wk] at k ⊢
    obtain ⟨b', off, len, cap, cs, e, fz, y, hv, hi, hb, hy, k⟩ := k
    rcases r with ⟨rfl, _⟩ | ⟨xs, rfl, r⟩
    · simp [getP] at g
    rcases r with ⟨r, _⟩ | ⟨b2, off2, cap2, cs2, e2, fz2, B', rfl, hv2, hb2, _, h1, _, _, he⟩
    · rw [hv] at r; simp at r
    · rw [hv] at hv2
      injection hv2 with q1 q2 q3
      injection q1 with q1
      injection q1 with q1 q4
      subst q1 q4 q2
      rw [hb] at hb2
      injection hb2 with hb2
      injection hb2 with hc _ _
      subst hc
      refine ⟨b', off, _, cap, cs, e, fz, y, hv, hi, (hk b' (lt_of_some hb) (.inl (by simp))).trans hb, hy, ?_⟩
      rcases k with k | ⟨hne, k⟩
      · exact .inl k
      · refine .inr ⟨hne, ?_⟩
        simp only [getP] at g
        cases hx : xs[i]? with
        | none => simp [hx] at g
        | some d1 =>
          simp only [hx, Option.bind_some] at g
          obtain ⟨u, B1, hu, hB1, hr⟩ := Each.get he hx
          rw [drop_get, hy] at hu
          injection hu with hu
          subst hu
          exact Wk.own is s d1 y B1 b o x d' (fun b hb hq => hk b hb (hq.imp (fun q => List.mem_cons_of_mem _ (hB1 b q)) id)) hr g k

theorem gdOK.imp {E : Nat → D} {g : Gd} {p q : Prop} (h : gdOK E g → p) (f : p → q) : gdOK E g → q := fun k => f (h k)

/-- THE RULE: an operation turns some facts; all others stay. -/
theorem HoldsG.step {c : Cx} {F F' : Fact → Prop} {E : Nat → D} {a a' : Act} {w w' : World} {vs vs' : Nat → Value} {Bs Bs' : Nat → List Nat}
    (New kill S : Nat → Prop) (dst : Option Nat) (H : HoldsG c F E a w vs Bs)
    (hv : ∀ n, ¬ New n → vs' n = vs n) (hB : ∀ n, ¬ New n → Bs' n = Bs n)
    (fr2 : ∀ t l, F (.sl t l) → ∀ n ∈ l.ments, ¬ New n)
    (hS : ∀ b, S b → ∃ n s, F (.en n s) ∧ kill n ∧ b ∈ Bs n)
    (ha : Agr S w.heap w'.heap) (hos : w'.os = w.os) (htape : w'.tape = w.tape) (hout : w'.output = w.output)
    (tm : ∀ t, some t ≠ dst → a'.tmps[t]? = a.tmps[t]?) (sz : a'.tmps.size = a.tmps.size) (df : a'.defers = a.defers)
    (hF : ∀ f, F' f → (F f ∧ (match f with | .en n _ => ¬ kill n | .sl t _ => some t ≠ dst)) ∨ (match f with | .en n _ => New n | .sl t _ => some t = dst))
    (own' : ∀ n s, New n → F' (.en n s) → Own c.fid w'.heap (fun b => OBk F Bs kill b ∨ ∃ m, New m ∧ b ∈ Bs' m) c.Xb s (E n) (vs' n) (Bs' n))
    (nd' : ∀ n s, New n → F' (.en n s) → (Bs' n).Nodup)
    (bl' : ∀ n s, New n → F' (.en n s) → ∀ b ∈ Bs' n, (∃ m r, F (.en m r) ∧ kill m ∧ b ∈ Bs m) ∨ w.heap.size ≤ b)
    (ap' : ∀ n s m r, New n → New m → F' (.en n s) → F' (.en m r) → n ≠ m → ∀ b ∈ Bs' n, b ∉ Bs' m)
    (loc' : ∀ t l, some t = dst → F' (.sl t l) → LocR w'.heap E vs' (fun b => OBk F Bs kill b ∨ ∃ m, New m ∧ b ∈ Bs' m) (alive F') a'.tmps t l) :
    HoldsG c F' E a' w' vs' Bs' := by
  have hSO : ∀ b, S b → OB F Bs b := fun b hb => let ⟨n, s, h1, _, h3⟩ := hS b hb; ⟨n, s, h1, h3⟩
  have old : ∀ n s, F' (.en n s) → ¬ New n → F (.en n s) ∧ ¬ kill n := fun n s h hn => (hF _ h).resolve_right hn
  have hO : ∀ b, b < w.heap.size → OB F' Bs' b → OB F Bs b := by
    rintro b lt ⟨n, s, hf, hb⟩
    by_cases hn : New n
    · rcases bl' n s hn hf b hb with ⟨m, r, h1, _, h3⟩ | h
      · exact ⟨m, r, h1, h3⟩
      · omega
    · exact ⟨n, s, (old n s hf hn).1, hB n hn ▸ hb⟩
  have hO2 : ∀ b, OB F' Bs' b → OBk F Bs kill b ∨ ∃ m, New m ∧ b ∈ Bs' m := by
    rintro b ⟨n, s, hf, hb⟩
    by_cases hn : New n
    · exact .inr ⟨n, hn, hb⟩
    · exact .inl ⟨n, s, (old n s hf hn).1, (old n s hf hn).2, hB n hn ▸ hb⟩
  have notS : ∀ n s, F (.en n s) → ¬ kill n → ∀ b ∈ Bs n, ¬ S b := by
    intro n s hf hk b hb hs
    obtain ⟨m, r, h1, h2, h3⟩ := hS b hs
    exact H.apart n s m r hf h1 (fun e => hk (e ▸ h2)) b hb h3
  have keepB : ∀ n s, F (.en n s) → ¬ kill n → ∀ b, b < w.heap.size → (b ∈ Bs n ∨ ¬ OB F Bs b) → w'.heap[b]? = w.heap[b]? := by
    intro n s hf hk b lt hb
    refine ha.same b lt fun hs => ?_
    rcases hb with hb | hb
    · exact notS n s hf hk b hb hs
    · exact hb (hSO b hs)
  constructor
  · intro n s hf
    by_cases hn : New n
    · exact Own.ext (Agr.refl (fun _ => False) _) (fun _ _ q => q.elim) (fun b _ q => hO2 b q) s _ _ _ (fun _ _ q => q) (own' n s hn hf)
    · obtain ⟨h1, h2⟩ := old n s hf hn
      rw [hv n hn, hB n hn]
      exact Own.ext ha (fun b _ => hSO b) hO s _ _ _ (notS n s h1 h2) (H.own n s h1)
  · intro n s hf
    by_cases hn : New n
    · exact nd' n s hn hf
    · rw [hB n hn]; exact H.nodup n s (old n s hf hn).1
  · intro n s hf b hb
    by_cases hn : New n
    · rcases bl' n s hn hf b hb with ⟨m, r, h1, _, h3⟩ | h
      · exact H.mine m r h1 b h3
      · exact .inl (Nat.le_trans H.agr.size h)
    · exact H.mine n s (old n s hf hn).1 b (hB n hn ▸ hb)
  · intro n s m r hf hg hne b hb hb2
    have lt_of : ∀ n s, F (.en n s) → ∀ b ∈ Bs n, b < w.heap.size := fun n s h => Own.blocks_lt s _ _ _ (H.own n s h)
    by_cases hn : New n <;> by_cases hm : New m
    · exact ap' n s m r hn hm hf hg hne b hb hb2
    · obtain ⟨h1, h2⟩ := old m r hg hm
      rw [hB m hm] at hb2
      rcases bl' n s hn hf b hb with ⟨k, q, k1, k2, k3⟩ | h
      · exact H.apart k q m r k1 h1 (fun e => h2 (e ▸ k2)) b k3 hb2
      · have := lt_of m r h1 b hb2; omega
    · obtain ⟨h1, h2⟩ := old n s hf hn
      rw [hB n hn] at hb
      rcases bl' m r hm hg b hb2 with ⟨k, q, k1, k2, k3⟩ | h
      · exact H.apart k q n s k1 h1 (fun e => h2 (e ▸ k2)) b k3 hb
      · have := lt_of n s h1 b hb; omega
    · rw [hB n hn] at hb; rw [hB m hm] at hb2
      exact H.apart n s m r (old n s hf hn).1 (old m r hg hm).1 hne b hb hb2
  · intro t l hf
    by_cases hd : some t = dst
    · have := loc' t l hd hf
      cases l with
      | is n g => exact this
      | vc n g =>
        intro hg
        obtain ⟨b, o, cs, e, fz, k1, k2, k3, k4⟩ := this hg
        exact ⟨b, o, cs, e, fz, k1, k2, k3, fun q => k4 (hO2 b q)⟩
      | ad r p m g => exact this
      | ip r p m g => exact this
      | tu ns g => exact this
      | aw r p g => exact this
    · have hfo := ((hF _ hf).resolve_right hd).1
      have hl := H.loc t l hfo
      have hm := fr2 t l hfo
      cases l with
      | is n g =>
        refine ⟨fun hg => ?_, fun hg => ?_⟩
        · rw [tm t hd, hv n (hm n (by simp [Loc.ments]))]; exact hl.1 hg
        · rw [tm t hd]; exact hl.2 hg
      | vc n g =>
        intro hg
        obtain ⟨b, o, cs, e, fz, k1, k2, k3, k4⟩ := hl hg
        have lt := lt_of_some k2
        exact ⟨b, o, cs, e, fz, (tm t hd).trans k1, (ha.same b lt fun q => k4 (hSO b q)).trans k2, by rw [hv n (hm n (by simp [Loc.ments]))]; exact k3, fun q => k4 (hO b lt q)⟩
      | ad r p m g =>
        intro hg hal
        obtain ⟨s, hs⟩ := hal
        have hr : ¬ New r := hm r (by simp [Loc.ments])
        obtain ⟨h1, h2⟩ := old r s hs hr
        obtain ⟨is, b, o, d, k1, k2, k3, k4⟩ := hl hg ⟨s, h1⟩
        refine ⟨is, b, o, d, k1, k2, ?_, (tm t hd).trans k4⟩
        rw [hv r hr, hv m (hm m (by simp [Loc.ments]))]
        exact Wk.own is s _ _ _ b o _ d (keepB r s h1 h2) (H.own r s h1) k2 k3
      | ip r p m g =>
        intro hg hal
        obtain ⟨s, hs⟩ := hal
        have hr : ¬ New r := hm r (by simp [Loc.ments])
        obtain ⟨h1, h2⟩ := old r s hs hr
        obtain ⟨is, b, o, d, k1, k2, k3, k4⟩ := hl hg ⟨s, h1⟩
        refine ⟨is, b, o, d, k1, k2, ?_, ?_⟩
        · rw [hv r hr, hv m (hm m (by simp [Loc.ments]))]
          exact Wk.own is s _ _ _ b o _ d (keepB r s h1 h2) (H.own r s h1) k2 k3
        · rw [tm t hd, hv m (hm m (by simp [Loc.ments]))]; exact k4
      | tu ns g =>
        intro hg
        rw [tm t hd, hl hg]
        congr 3
        exact List.map_congr_left fun n hn => (hv n (hm n (by simpa [Loc.ments] using hn))).symm
      | aw r p g =>
        intro hg hal
        obtain ⟨s, hs⟩ := hal
        have hr : ¬ New r := hm r (by simp [Loc.ments])
        obtain ⟨h1, h2⟩ := old r s hs hr
        obtain ⟨is, b, o, d, x, k1, k2, k3, k4⟩ := hl hg ⟨s, h1⟩
        refine ⟨is, b, o, d, x, k1, k2, ?_, (tm t hd).trans k4⟩
        rw [hv r hr]
        exact Wk.own is s _ _ _ b o _ d (keepB r s h1 h2) (H.own r s h1) k2 k3
  · refine ⟨Nat.le_trans H.agr.size ha.size, fun b hb hn => (ha.same b (Nat.lt_of_lt_of_le hb H.agr.size) fun hs => ?_).trans (H.agr.same b hb hn)⟩
    obtain ⟨m, r, h1, _, h3⟩ := hS b hs
    rcases H.mine m r h1 b h3 with q | q
    · omega
    · exact hn q
  · exact hos.trans H.os
  · exact htape.trans H.tape
  · exact hout.trans H.output
  · exact df.trans H.defers
  · exact sz.trans H.size

theorem HoldsG.more {c : Cx} {F G : Fact → Prop} {E : Nat → D} {a : Act} {w : World} {vs : Nat → Value} {Bs : Nat → List Nat} (H : HoldsG c F E a w vs Bs)
    (hen : ∀ n s, G (.en n s) ↔ F (.en n s)) (hsl : ∀ t l, G (.sl t l) → F (.sl t l) ∨ ∃ n g r, l = .is n g ∧ F (.sl t (.is r g)) ∧ vs n = vs r) : HoldsG c G E a w vs Bs := by
  have hOB : OB G Bs = OB F Bs := by
    funext b
    simp only [OB, hen]
  have hal : alive G = alive F := by
    funext n
    simp only [alive, hen]
  constructor
  · intro n s h; rw [hOB]; exact H.own n s ((hen n s).1 h)
  · intro n s h; exact H.nodup n s ((hen n s).1 h)
  · intro n s h; exact H.mine n s ((hen n s).1 h)
  · intro n s m r h h2; exact H.apart n s m r ((hen n s).1 h) ((hen m r).1 h2)
  · intro t l h
    rw [hOB, hal]
    rcases hsl t l h with h | ⟨n, g, r, rfl, h1, h2⟩
    · exact H.loc t l h
    · have := H.loc t _ h1
      refine ⟨fun hg => ?_, this.2⟩
      rw [h2]; exact this.1 hg
  · exact H.agr
  · exact H.os
  · exact H.tape
  · exact H.output
  · exact H.defers
  · exact H.size

/-- The like, where new facts of slots are known by themselves. -/
theorem HoldsG.more2 {c : Cx} {F G : Fact → Prop} {E : Nat → D} {a : Act} {w : World} {vs : Nat → Value} {Bs : Nat → List Nat} (H : HoldsG c F E a w vs Bs)
    (hen : ∀ n s, G (.en n s) ↔ F (.en n s)) (hsl : ∀ t l, G (.sl t l) → F (.sl t l) ∨ LocR w.heap E vs (OB F Bs) (alive F) a.tmps t l) : HoldsG c G E a w vs Bs := by
  have hOB : OB G Bs = OB F Bs := by
    funext b
    simp only [OB, hen]
  have hal : alive G = alive F := by
    funext n
    simp only [alive, hen]
  constructor
  · intro n s h; rw [hOB]; exact H.own n s ((hen n s).1 h)
  · intro n s h; exact H.nodup n s ((hen n s).1 h)
  · intro n s h; exact H.mine n s ((hen n s).1 h)
  · intro n s m r h h2; exact H.apart n s m r ((hen n s).1 h) ((hen m r).1 h2)
  · intro t l h
    rw [hOB, hal]
    exact (hsl t l h).elim (H.loc t l) id
  · exact H.agr
  · exact H.os
  · exact H.tape
  · exact H.output
  · exact H.defers
  · exact H.size

def slotsOf (st : List Fact) (r : Nat) : List (Nat × Gd) := st.filterMap fun f => match f with
  | .sl t (.is n g) => if n = r then some (t, g) else none
  | _ => none

end Go.Cat
