/-
  What the checker knows of one operation: the facts that it needs, the entries that it gives up, the facts that it makes; operands; the operations that only reckon.
-/
import Derived.Test.YtddhlibpgnnanaaCatHold
namespace Go.Cat

/-- Of one operation: what it needs, what it gives up, what it makes. -/
structure Sm where
  needs : List Fact
  kill : List Nat
  adds : List Fact

def next (F : Fact → Prop) (dst : Option Nat) (sm : Sm) : Fact → Prop := fun f =>
  (F f ∧ (match f with | .en n _ => n ∉ sm.kill | .sl t _ => some t ≠ dst)) ∨ f ∈ sm.adds

/-- The tables that the checker looks into. -/
structure CF where
  P : Program
  /-- the number of a function in this program -/
  fid : Nat → Nat
  /-- and back -/
  gof : Nat → Option Nat
  nt : Nat
  /-- slots that must not be written -/
  fx : List Nat := []

structure CF.Fits (cf : CF) (c : Cx) : Prop where
  P : c.P = cf.P
  fid : c.fid = cf.fid
  nt : c.nt = cf.nt
  gof : ∀ f k, cf.gof f = some k → cf.fid k = f
  fx : ∀ x ∈ c.fix, x.1 ∈ cf.fx

def findSl : List Fact → Nat → Option Loc
  | [], _ => none
  | .sl t l :: r, u => if t = u then some l else findSl r u
  | .en _ _ :: r, u => findSl r u

def findEn : List Fact → Nat → Option Sh
  | [], _ => none
  | .en n s :: r, m => if n = m then some s else findEn r m
  | .sl _ _ :: r, m => findEn r m

/-- A constant's data. -/
def constD : Value → Option D
  | .int k n => some (.i k n)
  | .bool b => some (.b b)
  | .string s => if s.size ≤ 4294967296 then some (.s (s.data.toList.map (·.toNat))) else none
  | .pointer none => some .z
  | .slice none 0 0 => some (.l [])
  | _ => none

/-- An operand: what it is for the data, its shape, the facts that say so. -/
def opA (cf : CF) (st : List Fact) (g : Gd) : Operand → Option (A × Sh × List Fact)
  | .const v => (constD v).map fun d => (.c d, .v, [])
  | .func f => (cf.gof f).map fun k => (.c (.f k []), .v, [])
  | .tmp t => match findSl st t with
    | some (.is n g') => if g'.isPrefixOf g then (findEn st n).map fun s => (.e n, s, [.sl t (.is n g'), .en n s]) else none
    | _ => none
  | .global _ => none

theorem constD_rd {fid : Nat → Nat} {h : Array Obj} {Z : Nat → Prop} {v : Value} {d : D} (e : constD v = some d) : Rd fid h Z d v := by
  unfold constD at e
  split at e
  · injection e with e; subst e; simp [Rd]
  · injection e with e; subst e; simp [Rd]
  · rename_i s
    split at e
    · rename_i hs
      injection e with e; subst e
      simp only [Rd, strV]
      refine ⟨?_, ?_, ?_⟩
      · congr 1
        apply ByteArray.ext
        simp only [List.map_map]
        apply Array.ext'
        have : ((fun c => UInt8.ofNat c) ∘ fun x : UInt8 => x.toNat) = id := by funext x; simp
        simp [this]
      · intro c hc
        simp only [List.mem_map] at hc
        obtain ⟨x, _, rfl⟩ := hc
        exact x.toNat_lt
      · simp only [List.length_map, Array.length_toList]
        have : s.data.size = s.size := rfl
        omega
    · simp at e
  · injection e with e; subst e; simp [Rd]
  · injection e with e; subst e; simp [Rd]
  · simp at e

theorem opA_sound {cf : CF} {c : Cx} (hc : cf.Fits c) {st : List Fact} {g : Gd} {x : Operand} {A : A} {s : Sh} {ns : List Fact} (h : opA cf st g x = some (A, s, ns))
    {F : Fact → Prop} {E : Nat → D} {a : Act} {w : World} {vs : Nat → Value} {Bs : Nat → List Nat} (H : HoldsG c F E a w vs Bs) (hF : ∀ f ∈ ns, F f) (hg : gdOK E g) :
    ∃ B, Own c.fid w.heap (OB F Bs) c.Xb s (ev E A) (a.eval x) B ∧ (∀ n, A = .e n → F (.en n s) ∧ a.eval x = vs n ∧ B = Bs n) := by
  cases x with
  | const v =>
    simp only [opA, Option.map_eq_some_iff] at h
    obtain ⟨d, hd, h⟩ := h
    simp only [Prod.mk.injEq] at h
    obtain ⟨rfl, rfl, rfl⟩ := h
    exact ⟨[], by simp only [Own, ev]; exact ⟨trivial, constD_rd hd⟩, by simp⟩
  | func f =>
    simp only [opA, Option.map_eq_some_iff] at h
    obtain ⟨k, hk, h⟩ := h
    simp only [Prod.mk.injEq] at h
    obtain ⟨rfl, rfl, rfl⟩ := h
    refine ⟨[], ?_, by simp⟩
    simp only [Own, ev, Rd]
    refine ⟨trivial, #[], ?_, rfl, by simp [RdL]⟩
    rw [hc.fid, hc.gof f k hk]
    rfl
  | global g => simp [opA] at h
  | tmp t =>
    simp only [opA] at h
    split at h
    · rename_i n g' hl
      split at h
      · rename_i hg'
        simp only [Option.map_eq_some_iff] at h
        obtain ⟨s', hs, h⟩ := h
        simp only [Prod.mk.injEq] at h
        obtain ⟨rfl, rfl, rfl⟩ := h
        have h1 := H.loc t _ (hF (.sl t (.is n g')) (by simp))
        have h2 := hF (.en n s') (by simp)
        have h3 : gdOK E g' := fun x hx => hg x ((List.isPrefixOf_iff_prefix.1 hg').subset hx)
        have h4 := h1.1 h3
        have h5 : a.eval (.tmp t) = vs n := by simp [Act.eval, Array.getD_eq_getD_getElem?, h4]
        refine ⟨Bs n, ?_, ?_⟩
        · rw [h5]; exact H.own n s' h2
        · intro m hm; injection hm with hm; subst hm; exact ⟨h2, h5, rfl⟩
      · simp at h
    · simp at h

/-! ### What an owned, or readable, number is -/
section
variable {fid : Nat → Nat} {h : Array Obj} {O X : Nat → Prop} {v : Value} {B : List Nat}
theorem Own.int {s : Sh} {k : IntKind} {n : Int} (o : Own fid h O X s (.i k n) v B) : v = .int k n := by
  cases s <;> simp only [Own, Rd] at o
  · exact o.2
  · exact o.2
  · simp at o
theorem Own.bool {s : Sh} {b : Bool} (o : Own fid h O X s (.b b) v B) : v = .bool b := by
  cases s <;> simp only [Own, Rd] at o
  · exact o.2
  · exact o.2
  · simp at o
theorem Own.str {s : Sh} {x : List Nat} (o : Own fid h O X s (.s x) v B) : v = strV x ∧ (∀ c ∈ x, c < 256) ∧ x.length ≤ 9223372036854775807 := by
  cases s <;> simp only [Own, Rd] at o
  · exact o.2
  · exact o.2
  · simp at o
theorem Own.len {s : Sh} {xs : List D} (o : Own fid h O X s (.l xs) v B) : ∃ a cap, v = .slice a xs.length cap ∧ xs.length ≤ 9223372036854775807 := by
  cases s with
  | v =>
    simp only [Own, Rd] at o
    rcases o.2 with ⟨rfl, rfl⟩ | ⟨b, off, cap, cs, e, fz, rfl, _, _, _, h⟩
    · exact ⟨none, 0, rfl, by simp⟩
    · exact ⟨_, _, rfl, h.2⟩
  | y =>
    simp only [Own, Rd] at o
    rcases o.2 with ⟨rfl, rfl⟩ | ⟨b, off, cap, cs, e, fz, rfl, _, _, _, h⟩
    · exact ⟨none, 0, rfl, by simp⟩
    · exact ⟨_, _, rfl, h.2⟩
  | o s =>
    simp only [Own] at o
    rcases o with ⟨q, _⟩ | ⟨ys, q, r⟩
    · simp at q
    · injection q with q
      subst q
      rcases r with ⟨rfl, rfl, _⟩ | ⟨b, off, cap, cs, e, fz, B', _, rfl, _, _, _, _, h, _⟩
      · exact ⟨none, 0, rfl, by simp⟩
      · exact ⟨_, _, rfl, h⟩
end

/-! ### The common endings -/

def upd {α : Type} (f : Nat → α) (m : Nat) (v : α) : Nat → α := fun n => if n = m then v else f n
theorem upd_same {α : Type} (f : Nat → α) (m : Nat) (v : α) : upd f m v m = v := by simp [upd]
theorem upd_ne {α : Type} (f : Nat → α) {m n : Nat} (v : α) (h : n ≠ m) : upd f m v n = f n := by simp [upd, h]

/-- No fact speaks of entry m. -/
def Fresh (F : Fact → Prop) (m : Nat) : Prop := (∀ s, ¬ F (.en m s)) ∧ ∀ t l, F (.sl t l) → m ∉ l.ments

def StepOK (c : Cx) (o : Oper) (sm : Sm) (F : Fact → Prop) (E : Nat → D) (a : Act) (w : World) : Prop :=
  ∀ (nxt : Act → World → Prop) (Q : Exit → Act → World → Prop), (∀ a' w', HoldsX c (next F o.dst sm) E a' w' → nxt a' w') → o.wp c.P a w nxt Q

theorem StepOK.of_value {c : Cx} {o : Oper} {sm : Sm} {F : Fact → Prop} {E : Nat → D} {a : Act} {w w' : World} {v : Value} (hr : (execOp a.eval o).run c.P w = .ok (.value v) w')
    (hh : HoldsX c (next F o.dst sm) E (a.put o.dst v) w') : StepOK c o sm F E a w := by
  intro nxt Q hn
  simp only [Oper.wp, hr, Oper.upon]
  exact hn _ _ hh

theorem put_get {a : Act} {dst : Option Nat} {v : Value} {t : Nat} (h : some t ≠ dst) : (a.put dst v).tmps[t]? = a.tmps[t]? := by
  cases dst with
  | none => rfl
  | some d =>
    have : d ≠ t := fun e => h (by rw [e])
    simp [Act.put, Array.getElem?_setIfInBounds_ne this]
theorem put_self {a : Act} {v : Value} {t : Nat} (h : t < a.tmps.size) : (a.put (some t) v).tmps[t]? = some v := by
  simp [Act.put, h]
theorem put_size {a : Act} {dst : Option Nat} {v : Value} : (a.put dst v).tmps.size = a.tmps.size := by
  cases dst <;> simp [Act.put]
theorem put_defers {a : Act} {dst : Option Nat} {v : Value} : (a.put dst v).defers = a.defers := by
  cases dst <;> rfl

/-- The facts that an operation with one new entry makes. -/
def one (m : Nat) (s : Sh) (dst : Option Nat) (l : Loc) : List Fact :=
  .en m s :: (match dst with | some t => [.sl t l] | none => [])

def inB (dst : Option Nat) (nt : Nat) : Bool := match dst with | some t => decide (t < nt) | none => true

/-- One new entry that owns nothing. -/
theorem HoldsG.leaf {c : Cx} {F : Fact → Prop} {E : Nat → D} {a : Act} {w w' : World} {vs : Nat → Value} {Bs : Nat → List Nat} (H : HoldsG c F E a w vs Bs)
    {m : Nat} (hm : Fresh F m) {s : Sh} {v u : Value} {dst : Option Nat} {ns : List Fact} {l : Loc} (hd : inB dst c.nt = true)
    (hw : w'.heap = w.heap ∧ w'.os = w.os ∧ w'.tape = w.tape ∧ w'.output = w.output)
    (hown : Own c.fid w.heap (OB F Bs) c.Xb s (E m) v []) (kill : List Nat)
    (hl : ∀ tm : Array Value, (∀ t, dst = some t → tm[t]? = some u) → ∀ t, dst = some t → LocR w.heap E (upd vs m v) (OB F Bs) (alive (next F dst ⟨ns, kill, one m s dst l⟩)) tm t l) :
    HoldsG c (next F dst ⟨ns, kill, one m s dst l⟩) E (a.put dst u) w' (upd vs m v) (upd Bs m []) := by
  have hnew : ∀ f, f ∈ one m s dst l → (f = .en m s) ∨ ∃ t, dst = some t ∧ f = .sl t l := by
    intro f hf
    unfold one at hf
    cases dst with
    | none => simp at hf; exact .inl hf
    | some t => simp at hf; rcases hf with hf | hf; exact .inl hf; exact .inr ⟨t, rfl, hf⟩
  refine HoldsG.step (fun n => n = m) (fun n => n ∈ kill) (fun _ => False) dst H (fun n hn => upd_ne vs v hn) (fun n hn => upd_ne Bs [] hn)
    (fun t l hl n hn e => hm.2 t l hl (e ▸ hn)) (fun _ q => q.elim) (by rw [hw.1]; exact Agr.refl _ _) hw.2.1 hw.2.2.1 hw.2.2.2
    (fun t ht => put_get ht) put_size put_defers ?_ ?_ ?_ ?_ ?_ ?_
  · rintro f (⟨h1, h2⟩ | h)
    · left; refine ⟨h1, ?_⟩; cases f <;> exact h2
    · right
      rcases hnew f h with rfl | ⟨t, ht, rfl⟩
      · rfl
      · exact ht.symm
  · rintro n r rfl hf
    rcases hf with ⟨h1, _⟩ | h
    · exact (hm.1 r h1).elim
    · rcases hnew _ h with h | ⟨t, _, h⟩
      · injection h with _ h; subst h
        rw [upd_same, upd_same, hw.1]
        exact Own.ext (Agr.refl (fun _ => False) _) (fun _ _ q => q.elim) (fun b _ q => q.elim (fun ⟨n, s, h1, _, h3⟩ => ⟨n, s, h1, h3⟩) (by rintro ⟨k, rfl, hk⟩; simp [upd_same] at hk)) _ _ _ _ (fun _ _ q => q) hown
      · simp at h
  · rintro n r rfl _; rw [upd_same]; exact List.nodup_nil
  · rintro n r rfl _; rw [upd_same]; simp
  · rintro n r k q rfl rfl _ _ h; exact (h rfl).elim
  · rintro t l' ht hf
    rcases hf with ⟨_, h2⟩ | h
    · exact (h2 ht).elim
    · rcases hnew _ h with h | ⟨t', ht', h⟩
      · simp at h
      · injection h with h1 h2; subst h1 h2
        have hts : ∀ t, dst = some t → (a.put dst u).tmps[t]? = some u := by
          intro t e; subst e
          exact put_self (by rw [H.size]; simpa [inB] using hd)
        have := hl (a.put dst u).tmps hts t ht'
        have hO : ∀ b, (OBk F Bs (fun n => n ∈ kill) b ∨ ∃ k, k = m ∧ b ∈ upd Bs m [] k) → OB F Bs b := fun b q => q.elim (fun ⟨n, s, h1, _, h3⟩ => ⟨n, s, h1, h3⟩) (by rintro ⟨k, rfl, hk⟩; simp [upd_same] at hk)
        rw [hw.1]
        cases l' with
        | vc n g =>
          intro hg
          obtain ⟨b, o, cs, e, fz, k1, k2, k3, k4⟩ := this hg
          exact ⟨b, o, cs, e, fz, k1, k2, k3, fun q => k4 (hO b q)⟩
        | _ => exact this

/-- The like, its slot holding the entry's value. -/
theorem HoldsG.leaf_is {c : Cx} {F : Fact → Prop} {E : Nat → D} {a : Act} {w w' : World} {vs : Nat → Value} {Bs : Nat → List Nat} (H : HoldsG c F E a w vs Bs)
    {m : Nat} (hm : Fresh F m) {s : Sh} {v : Value} {dst : Option Nat} {ns : List Fact} (hd : inB dst c.nt = true)
    (hw : w'.heap = w.heap ∧ w'.os = w.os ∧ w'.tape = w.tape ∧ w'.output = w.output)
    (hown : Own c.fid w.heap (OB F Bs) c.Xb s (E m) v []) (kill : List Nat) {g : Gd} (hg : gdOK E g) :
    HoldsX c (next F dst ⟨ns, kill, one m s dst (.is m g)⟩) E (a.put dst v) w' :=
  ⟨_, _, H.leaf hm hd hw hown kill fun tm htm t ht => by
    refine ⟨fun _ => ?_, fun q => (q hg).elim⟩
    rw [upd_same]; exact htm t ht⟩

end Go.Cat
