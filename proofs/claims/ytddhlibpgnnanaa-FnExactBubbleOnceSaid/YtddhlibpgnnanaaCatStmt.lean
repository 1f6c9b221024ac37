/-
  Statements: the translation of a function's code, and that it is sound.
-/
import Derived.Test.YtddhlibpgnnanaaCatDraw
namespace Go.Cat

abbrev VT := List (Nat × Sh)
abbrev HL := List (Nat × List Nat)

def stFrom (L : Nat) : Nat → VT → List Fact
  | _, [] => []
  | i, (t, s) :: r => (if L.testBit i then [.sl t (.is i []), .en i s] else []) ++ stFrom L (i + 1) r

/-- What is known between two statements: the variables in L are alive, each in its shape. -/
def stOf (vt : VT) (L : Nat) : List Fact := stFrom L 0 vt

theorem mem_stFrom {L : Nat} {f : Fact} : ∀ {vt : VT} {i : Nat}, f ∈ stFrom L i vt ↔ ∃ j t s, vt[j]? = some (t, s) ∧ L.testBit (i + j) = true ∧ (f = .sl t (.is (i + j) []) ∨ f = .en (i + j) s)
  | [], i => by simp [stFrom]
  | (t, s) :: r, i => by
    simp only [stFrom, List.mem_append, mem_stFrom (vt := r)]
    constructor
    · rintro (h | ⟨j, t', s', h1, h2, h3⟩)
      · split at h
        · rename_i hL
          refine ⟨0, t, s, by simp, hL, ?_⟩
          simpa using h
        · simp at h
      · exact ⟨j + 1, t', s', by simpa using h1, by rwa [show i + (j + 1) = i + 1 + j from by omega], by rwa [show i + (j + 1) = i + 1 + j from by omega]⟩
    · rintro ⟨j, t', s', h1, h2, h3⟩
      cases j with
      | zero =>
        simp only [List.getElem?_cons_zero, Option.some.injEq, Prod.mk.injEq] at h1
        obtain ⟨rfl, rfl⟩ := h1
        left
        simp only [Nat.add_zero] at h2 h3
        rw [if_pos h2]
        simpa using h3
      | succ j =>
        right
        exact ⟨j, t', s', by simpa using h1, by rwa [show i + 1 + j = i + (j + 1) from by omega], by rwa [show i + 1 + j = i + (j + 1) from by omega]⟩

theorem mem_stOf {vt : VT} {L : Nat} {f : Fact} : f ∈ stOf vt L ↔ ∃ i t s, vt[i]? = some (t, s) ∧ L.testBit i = true ∧ (f = .sl t (.is i []) ∨ f = .en i s) := by
  unfold stOf
  rw [mem_stFrom]
  simp

theorem stOf_mono {vt : VT} {L L' : Nat} (h : ∀ i, L'.testBit i = true → L.testBit i = true) : ∀ f, f ∈ stOf vt L' → f ∈ stOf vt L := by
  intro f hf
  obtain ⟨i, t, s, h1, h2, h3⟩ := mem_stOf.1 hf
  exact mem_stOf.2 ⟨i, t, s, h1, h i h2, h3⟩

def subB (a b : Nat) : Bool := a &&& b == a

theorem subB_bit {a b : Nat} (h : subB a b = true) (i : Nat) (ha : a.testBit i = true) : b.testBit i = true := by
  have h' : a &&& b = a := by simpa [subB] using h
  have := congrArg (fun x => Nat.testBit x i) h'
  simp only [Nat.testBit_and, ha, Bool.true_and] at this
  exact this

/-- The like with other data, where what is alive is the same. -/
theorem Holds.congr {c : Cx} {vt : VT} {L : Nat} {E E' : Nat → D} {a : Act} {w : World} (h : Holds c (· ∈ stOf vt L) E a w) (hE : ∀ i t s, vt[i]? = some (t, s) → L.testBit i = true → E' i = E i) :
    Holds c (· ∈ stOf vt L) E' a w := by
  obtain ⟨⟨vs, Bs, H⟩, hfix⟩ := h
  refine ⟨⟨vs, Bs, ?_, H.nodup, H.mine, H.apart, ?_, H.agr, H.os, H.tape, H.output, H.defers, H.size⟩, hfix⟩
  · intro n s hf
    obtain ⟨i, t, s', h1, h2, h3⟩ := mem_stOf.1 hf
    have := H.own n s hf
    rcases h3 with h3 | h3
    · simp at h3
    · injection h3 with e1 e2
      subst e1 e2
      rw [hE n t s h1 h2]; exact this
  · intro t l hf
    obtain ⟨i, t', s', h1, h2, h3⟩ := mem_stOf.1 hf
    have := H.loc t l hf
    rcases h3 with h3 | h3
    · injection h3 with e1 e2
      subst e1 e2
      refine ⟨fun _ => this.1 (by simp [gdOK]), fun q => (q (by simp [gdOK])).elim⟩
    · simp at h3

/-- Owned data may be frozen. -/
theorem Own.freeze {fid : Nat → Nat} {h : Array Obj} {O X Z : Nat → Prop} (hZ : ∀ b, b < h.size → Z b → O b ∨ X b) : ∀ (s : Sh) (d : D) (v : Value) (B : List Nat), Cat.okR s = true → (∀ b ∈ B, ¬ Z b) →
    Own fid h O X s d v B → Rd fid h Z d v
  | .v, d, v, B => fun _ _ r => by
    simp only [Own] at r
    exact r.2.mono hZ
  | .y, _, _, _ => fun h => by simp [Cat.okR] at h
  | .o s, d, v, B => fun hs hB r => by
    simp only [Own] at r
    rcases r with ⟨rfl, _⟩ | ⟨xs, rfl, r⟩
    · simp [Rd]
    · simp only [Rd]
      rcases r with r | ⟨b, off, cap, cs, e, fz, B', rfl, hv, hb, ht, h1, h2, h3, he⟩
      · exact .inl ⟨r.2.1, r.1⟩
      · refine .inr ⟨b, off, cap, cs, e, fz, hv, hb, hB b (by simp), ?_, h1, h3⟩
        have hB' : ∀ b ∈ B', ¬ Z b := fun b hb => hB b (by simp [hb])
        have hs' : Cat.okR s = true := by simpa [Cat.okR] using hs
        clear hv hb h1 h2 h3 hB ht
        generalize cs.toList.drop off = vs at he
        induction xs generalizing vs B' with
        | nil => simp [RdL]
        | cons d ds ih =>
          cases vs with
          | nil => simp [Each] at he
          | cons v vs =>
            simp only [Each] at he
            obtain ⟨B1, B2, rfl, h1, h2⟩ := he
            simp only [RdL]
            exact ⟨Own.freeze hZ s d v B1 hs' (fun b hb => hB' b (List.mem_append_left _ hb)) h1, ih B2 (fun b hb => hB' b (List.mem_append_right _ hb)) _ h2⟩

/-! ### The end of a region: each variable that lives on takes its entry -/

def outOf (st : List Fact) (mask : Nat) : Nat → VT → Option (List (Option Nat))
  | _, [] => some []
  | i, (t, s) :: r => (outOf st mask (i + 1) r).bind fun o =>
    if mask.testBit i then
      match findSl st t with
      | some (.is n []) => match findEn st n with
        | some s' => if s' = s ∨ (s = .v ∧ okR s' = true) ∨ (s = .y ∧ okR s' = true) then some (some n :: o) else none
        | none => none
      | _ => none
    else some (none :: o)

/-- The entries that stay owned, and those that are only read. -/
def ownOut : List (Option Nat) → VT → List Nat
  | some n :: o, (_, .o _) :: r => n :: ownOut o r
  | _ :: o, _ :: r => ownOut o r
  | _, _ => []
def rdOut : List (Option Nat) → VT → List Nat
  | some n :: o, (_, .v) :: r => n :: rdOut o r
  | some n :: o, (_, .y) :: r => n :: rdOut o r
  | _ :: o, _ :: r => rdOut o r
  | _, _ => []

def trReg (cf : CF) (sg : Nat → Option Sg) (vt : VT) (ops : Array Oper) (draw : Bool) (L : Nat) (h : Nat × List Nat) : Option S :=
  (trSeq cf sg ops ops.toList (stOf vt L) vt.length h.2).bind fun r =>
    (outOf r.2.1 h.1 0 vt).bind fun out =>
      if mentsOK vt.length (r.1.map (·.it)) = true ∧ (!draw || drawOK (stOf vt L) vt.length ops.toList r.1) = true ∧ (ownOut out vt).Nodup ∧ ((ownOut out vt).all fun n => !(rdOut out vt).contains n) = true then
        some (.reg (r.1.map (·.it)) out)
      else none

theorem outOf_spec {st : List Fact} {mask : Nat} : ∀ {vt : VT} {i : Nat} {out : List (Option Nat)}, outOf st mask i vt = some out → out.length = vt.length ∧
    ∀ j t s, vt[j]? = some (t, s) → mask.testBit (i + j) = true → ∃ n s', out[j]? = some (some n) ∧ Fact.sl t (.is n []) ∈ st ∧ Fact.en n s' ∈ st ∧ (s' = s ∨ (s = .v ∧ okR s' = true) ∨ (s = .y ∧ okR s' = true))
  | [], i, out, h => by simp only [outOf, Option.some.injEq] at h; subst h; simp
  | (t, s) :: r, i, out, h => by
    simp only [outOf, Option.bind_eq_some_iff] at h
    obtain ⟨o, h1, h⟩ := h
    obtain ⟨e1, e2⟩ := outOf_spec h1
    split at h
    · rename_i hm
      split at h
      · rename_i n hl
        split at h
        · rename_i s' hs'
          split at h
          · rename_i hc
            simp only [Option.some.injEq] at h
            subst h
            refine ⟨by simp [e1], fun j t2 s2 hj hb => ?_⟩
            cases j with
            | zero =>
              simp only [List.getElem?_cons_zero, Option.some.injEq, Prod.mk.injEq] at hj
              obtain ⟨rfl, rfl⟩ := hj
              exact ⟨n, s', by simp, findSl_mem hl, findEn_mem hs', hc⟩
            | succ j =>
              obtain ⟨n2, s3, q1, q2, q3, q4⟩ := e2 j t2 s2 (by simpa using hj) (by rwa [show i + 1 + j = i + (j + 1) from by omega])
              exact ⟨n2, s3, by simpa using q1, q2, q3, q4⟩
          · simp at h
        · simp at h
      · simp at h
    · rename_i hm
      simp only [Option.some.injEq] at h
      subst h
      refine ⟨by simp [e1], fun j t2 s2 hj hb => ?_⟩
      cases j with
      | zero => simp at hb; exact (hm hb).elim
      | succ j =>
        obtain ⟨n2, s3, q1, q2, q3, q4⟩ := e2 j t2 s2 (by simpa using hj) (by rwa [show i + 1 + j = i + (j + 1) from by omega])
        exact ⟨n2, s3, by simpa using q1, q2, q3, q4⟩

theorem ownOut_mem : ∀ {out : List (Option Nat)} {vt : VT} {j n t : Nat} {s : Sh}, out[j]? = some (some n) → vt[j]? = some (t, .o s) → n ∈ ownOut out vt
  | [], _, _, _, _, _ => fun h => by simp at h
  | _ :: _, [], _, _, _, _ => fun _ h => by simp at h
  | o :: out, (t', s') :: vt, 0, n, t, s => fun h1 h2 => by
    simp at h1 h2
    obtain ⟨rfl, rfl⟩ := h2
    subst h1
    simp [ownOut]
  | o :: out, (t', s') :: vt, j + 1, n, t, s => fun h1 h2 => by
    have := ownOut_mem (out := out) (vt := vt) (by simpa using h1) (by simpa using h2)
    cases o with
    | none => simpa [ownOut] using this
    | some m => cases s' <;> simp [ownOut, this]

theorem rdOut_mem : ∀ {out : List (Option Nat)} {vt : VT} {j n t : Nat} {s : Sh}, out[j]? = some (some n) → vt[j]? = some (t, s) → s = .v ∨ s = .y → n ∈ rdOut out vt
  | [], _, _, _, _, _ => fun h => by simp at h
  | _ :: _, [], _, _, _, _ => fun _ h => by simp at h
  | o :: out, (t', s') :: vt, 0, n, t, s => fun h1 h2 h3 => by
    simp at h1 h2
    obtain ⟨rfl, rfl⟩ := h2
    subst h1
    rcases h3 with rfl | rfl <;> simp [rdOut]
  | o :: out, (t', s') :: vt, j + 1, n, t, s => fun h1 h2 h3 => by
    have := rdOut_mem (out := out) (vt := vt) (by simpa using h1) (by simpa using h2) h3
    cases o with
    | none => simpa [rdOut] using this
    | some m => cases s' <;> simp [rdOut, this]

theorem ownOut_inj : ∀ {out : List (Option Nat)} {vt : VT}, (ownOut out vt).Nodup → ∀ {j k n t u : Nat} {s r : Sh}, out[j]? = some (some n) → vt[j]? = some (t, .o s) → out[k]? = some (some n) → vt[k]? = some (u, .o r) → j = k
  | [], _ => fun _ => by simp
  | _ :: _, [] => fun _ => by simp
  | o :: out, (t', s') :: vt => fun hn => by
    intro j k n t u s r h1 h2 h3 h4
    have tl : (ownOut out vt).Nodup := by
      cases o with
      | none => simpa [ownOut] using hn
      | some m => cases s' <;> simp [ownOut] at hn <;> first | exact hn | exact hn.2
    cases j with
    | zero =>
      cases k with
      | zero => rfl
      | succ k =>
        simp at h1 h2
        obtain ⟨rfl, rfl⟩ := h2
        subst h1
        have := ownOut_mem (out := out) (vt := vt) (by simpa using h3) (by simpa using h4)
        simp [ownOut] at hn
        exact (hn.1 this).elim
    | succ j =>
      cases k with
      | zero =>
        simp at h3 h4
        obtain ⟨rfl, rfl⟩ := h4
        subst h3
        have := ownOut_mem (out := out) (vt := vt) (by simpa using h1) (by simpa using h2)
        simp [ownOut] at hn
        exact (hn.1 this).elim
      | succ k =>
        have := ownOut_inj tl (j := j) (k := k) (n := n) (t := t) (u := u) (s := s) (r := r) (by simpa using h1) (by simpa using h2) (by simpa using h3) (by simpa using h4)
        omega

theorem outE_get {out : List (Option Nat)} {e : Env} {j n : Nat} (h : out[j]? = some (some n)) : Env.E (outE out e) j = e.E n := by
  simp [Env.E, outE, List.getD_eq_getElem?_getD, h]

/-- The variables take their entries. -/
theorem out_sound {c : Cx} {st : List Fact} {e : Env} {a : Act} {w : World} {vt : VT} {mask : Nat} {out : List (Option Nat)} (h : Holds c (· ∈ st) e.E a w) (ho : outOf st mask 0 vt = some out)
    (hn : (ownOut out vt).Nodup) (hd : ∀ n ∈ ownOut out vt, n ∉ rdOut out vt) : Holds c (· ∈ stOf vt mask) (Env.E (outE out e)) a w := by
  obtain ⟨⟨vs, Bs, H⟩, hfix⟩ := h
  refine ⟨?_, hfix⟩
  obtain ⟨_, hspec⟩ := outOf_spec ho
  -- what a variable in its shape owns
  let ix : Nat → Nat := fun i => match out[i]? with | some (some n) => n | _ => 0
  let own? : Nat → Bool := fun i => match vt[i]? with | some (_, .o _) => true | _ => false
  have get : ∀ i t s, vt[i]? = some (t, s) → mask.testBit i = true → ∃ n s', out[i]? = some (some n) ∧ ix i = n ∧ Fact.sl t (.is n []) ∈ st ∧ Fact.en n s' ∈ st ∧ (s' = s ∨ (s = .v ∧ okR s' = true) ∨ (s = .y ∧ okR s' = true)) := by
    intro i t s h1 h2
    obtain ⟨n, s', q1, q2, q3, q4⟩ := hspec i t s h1 (by simpa using h2)
    exact ⟨n, s', q1, by simp [ix, q1], q2, q3, q4⟩
  let Bs' : Nat → List Nat := fun i => if own? i then Bs (ix i) else []
  have ownB : ∀ i t s, vt[i]? = some (t, .o s) → Bs' i = Bs (ix i) := by
    intro i t s h; simp [Bs', own?, h]
  have rdB : ∀ i t s, vt[i]? = some (t, s) → s = .v ∨ s = .y → Bs' i = [] := by
    intro i t s h hs; rcases hs with rfl | rfl <;> simp [Bs', own?, h]
  have hO : ∀ b, OB (· ∈ stOf vt mask) Bs' b → OB (· ∈ st) Bs b := by
    rintro b ⟨i, s, hf, hb⟩
    obtain ⟨i', t, s', h1, h2, h3⟩ := mem_stOf.1 hf
    rcases h3 with h3 | h3
    · simp at h3
    · injection h3 with e1 e2
      subst e1 e2
      cases s with
      | v => rw [rdB i t _ h1 (.inl rfl)] at hb; simp at hb
      | y => rw [rdB i t _ h1 (.inr rfl)] at hb; simp at hb
      | o s =>
        rw [ownB i t s h1] at hb
        obtain ⟨n, s2, q1, q2, q3, q4, q5⟩ := get i t _ h1 h2
        exact ⟨n, s2, q4, q2 ▸ hb⟩
  refine ⟨fun i => vs (ix i), Bs', ?_, ?_, ?_, ?_, ?_, H.agr, H.os, H.tape, H.output, H.defers, H.size⟩
  · intro i s hf
    obtain ⟨i', t, s', h1, h2, h3⟩ := mem_stOf.1 hf
    rcases h3 with h3 | h3
    · simp at h3
    · injection h3 with e1 e2
      subst e1 e2
      obtain ⟨n, s2, q1, q2, q3, q4, q5⟩ := get i t _ h1 h2
      rw [outE_get q1, q2]
      have hown := H.own n s2 q4
      have fz : s = .v ∨ s = .y → okR s2 = true → Rd c.fid w.heap (fun b => OB (· ∈ stOf vt mask) Bs' b ∨ c.Xb b) (e.E n) (vs n) := by
        intro hs q5
        refine Own.freeze (fun b _ q => q.imp (hO b) id) s2 _ _ _ q5 ?_ hown
        rintro b hb (⟨j, s3, hf3, hb3⟩ | hx)
        · obtain ⟨j', t3, s4, k1, k2, k3⟩ := mem_stOf.1 hf3
          rcases k3 with k3 | k3
          · simp at k3
          · injection k3 with e1 e2
            subst e1 e2
            cases s3 with
            | v => rw [rdB j t3 _ k1 (.inl rfl)] at hb3; simp at hb3
            | y => rw [rdB j t3 _ k1 (.inr rfl)] at hb3; simp at hb3
            | o s3 =>
              rw [ownB j t3 s3 k1] at hb3
              obtain ⟨m, s5, r1, r2, r3, r4, r5⟩ := get j t3 _ k1 k2
              rw [r2] at hb3
              have hne : n ≠ m := by
                rintro rfl
                exact hd n (ownOut_mem r1 k1) (rdOut_mem q1 h1 hs)
              exact H.apart n s2 m s5 q4 r4 hne b hb hb3
        · have := c.hX b hx
          rcases H.mine n s2 q4 b hb with q | q
          · omega
          · exact this.2 q
      rcases q5 with rfl | ⟨rfl, q5⟩ | ⟨rfl, q5⟩
      · have := Own.ext (Agr.refl (fun _ => False) _) (fun _ _ q => q.elim) (fun b _ => hO b) _ _ _ _ (fun _ _ q => q) hown
        cases s2 with
        | v => rw [rdB i t _ h1 (.inl rfl)]; simp only [Own] at this ⊢; exact ⟨trivial, this.2⟩
        | y => rw [rdB i t _ h1 (.inr rfl)]; simp only [Own] at this ⊢; exact ⟨trivial, this.2⟩
        | o s => rw [ownB i t s h1, q2]; exact this
      · rw [rdB i t _ h1 (.inl rfl)]
        simp only [Own]
        exact ⟨trivial, fz (.inl rfl) q5⟩
      · rw [rdB i t _ h1 (.inr rfl)]
        simp only [Own]
        exact ⟨trivial, (fz (.inr rfl) q5).mono fun b _ q => .inl q⟩
  · intro i s hf
    obtain ⟨i', t, s', h1, h2, h3⟩ := mem_stOf.1 hf
    rcases h3 with h3 | h3
    · simp at h3
    · injection h3 with e1 e2
      subst e1 e2
      obtain ⟨n, s2, q1, q2, q3, q4, q5⟩ := get i t _ h1 h2
      cases s with
      | v => rw [rdB i t _ h1 (.inl rfl)]; exact List.nodup_nil
      | y => rw [rdB i t _ h1 (.inr rfl)]; exact List.nodup_nil
      | o s => rw [ownB i t s h1, q2]; exact H.nodup n s2 q4
  · intro i s hf b hb
    obtain ⟨n, s2, q4, hb2⟩ := hO b ⟨i, s, hf, hb⟩
    exact H.mine n s2 q4 b hb2
  · intro i s j r hf hg hne b hb hb2
    obtain ⟨i', t, s', h1, h2, h3⟩ := mem_stOf.1 hf
    obtain ⟨j', t2, r', k1, k2, k3⟩ := mem_stOf.1 hg
    rcases h3 with h3 | h3
    · simp at h3
    rcases k3 with k3 | k3
    · simp at k3
    injection h3 with e1 e2
    subst e1 e2
    injection k3 with e1 e2
    subst e1 e2
    obtain ⟨n, s2, q1, q2, q3, q4, q5⟩ := get i t _ h1 h2
    obtain ⟨m, r2, p1, p2, p3, p4, p5⟩ := get j t2 _ k1 k2
    cases s with
    | v => rw [rdB i t _ h1 (.inl rfl)] at hb; simp at hb
    | y => rw [rdB i t _ h1 (.inr rfl)] at hb; simp at hb
    | o s =>
      cases r with
      | v => rw [rdB j t2 _ k1 (.inl rfl)] at hb2; simp at hb2
      | y => rw [rdB j t2 _ k1 (.inr rfl)] at hb2; simp at hb2
      | o r =>
        rw [ownB i t s h1, q2] at hb
        rw [ownB j t2 r k1, p2] at hb2
        have : n ≠ m := by
          rintro rfl
          exact hne (ownOut_inj hn q1 h1 p1 k1)
        exact H.apart n s2 m r2 q4 p4 this b hb hb2
  · intro t l hf
    obtain ⟨i, t', s', h1, h2, h3⟩ := mem_stOf.1 hf
    rcases h3 with h3 | h3
    · injection h3 with e1 e2
      subst e1 e2
      obtain ⟨n, s2, q1, q2, q3, q4, q5⟩ := get i t _ h1 h2
      have := H.loc t _ q3
      refine ⟨fun _ => ?_, fun q => (q (by simp [gdOK])).elim⟩
      show a.tmps[t]? = some (vs (ix i))
      rw [q2]; exact this.1 (by simp [gdOK])
    · simp at h3

section
variable {cf : CF} {sg : Nat → Option Sg} {c : Cx} {K : Nat → List D → List D → Prop}

theorem reg_sound (hs : Sound cf sg K) (hc : cf.Fits c) (hm : cf.P.follows .mixedOrders = true) {vt : VT} {ops : Array Oper} {draw : Bool} {L : Nat} {h : Nat × List Nat} {s : S} (ht : trReg cf sg vt ops draw L h = some s)
    {Q : X → Env → Prop} {e : Env} (hQ : wpS K s Q e) (hl : e.length = vt.length) {a : Act} {w : World} (H : Holds c (· ∈ stOf vt L) e.E a w) {id : Nat} {Qc : Exit → Act → World → Prop}
    (hk : ∀ e' a' w', e'.length = vt.length → Q .n e' → Holds c (· ∈ stOf vt h.1) e'.E a' w' → Qc .normal a' w') : (Code.region id ops draw).wp c.P Qc a w := by
  unfold trReg at ht
  simp only [Option.bind_eq_some_iff] at ht
  obtain ⟨⟨qs, st', cnt'⟩, h1, out, h2, ht⟩ := ht
  simp only at h2 ht
  split at ht
  · rename_i hcond
    obtain ⟨hments, hdraw, hnd, hdis⟩ := hcond
    simp only [Option.some.injEq] at ht
    subst ht
    simp only [wpS] at hQ
    obtain ⟨t, q1, q2, q3⟩ := wpIts_ok _ e (by rw [hl]; exact hments) hQ
    rw [hl] at q3
    have H1 : Holds c (· ∈ stOf vt L) (Env.E (e ++ t)) a w := H.congr fun i tt s hi _ => by
      have : i < e.length := by
        rw [hl]
        rcases Nat.lt_or_ge i vt.length with q | q
        · exact q
        · rw [List.getElem?_eq_none q] at hi; simp at hi
      exact E_append this
    have fin : ∀ a' w', Holds c (· ∈ st') (Env.E (e ++ t)) a' w' → Qc .normal a' w' := by
      intro a' w' H'
      refine hk _ a' w' ?_ q1 (out_sound H' h2 hnd ?_)
      · rw [← (outOf_spec h2).1]; simp [outE]
      · intro n hn
        simp only [List.all_eq_true, Bool.not_eq_true', List.contains_eq_mem, decide_eq_false_iff_not] at hdis
        exact hdis n hn
    cases draw with
    | false =>
      refine wp_region ?_
      have := seq_sound hs hc (Q := Qc) ops.toList 0 _ _ _ _ _ _ h1 (fun j o hj => by simpa using hj) q3 a w H1 fin
      rw [List.range_eq_range']
      simpa using this
    | true =>
      simp only [Bool.not_true, Bool.false_or] at hdraw
      refine wp_region_any (by rw [hc.P]; exact hm) ?_
      obtain ⟨⟨vs, Bs, H2⟩, hfix⟩ := H1
      have H3 : Holds c (· ∈ stOf vt L) (Env.E (e ++ t)) a { w with drawn := w.drawn + 1 } :=
        ⟨⟨vs, Bs, H2.own, H2.nodup, H2.mine, H2.apart, H2.loc, H2.agr, H2.os, H2.tape, H2.output, H2.defers, H2.size⟩, hfix⟩
      refine draw_sound hs hc h1 hdraw q3 fin ops.size _ a _ (by simp) ?_ ?_ (H3.mono fun f hf => ?_)
      · exact Nat.le_trans (List.length_filter_le _ _) (by simp)
      · intro k o hk
        rw [Array.getD_eq_getD_getElem?, Array.getElem?_replicate] at hk
        split at hk <;> simp at hk
      · rcases hf with ⟨f1, _⟩ | ⟨j, r, f1, _⟩
        · exact f1
        · have f1' : (Array.replicate ops.size false).getD j false = true := f1
          rw [Array.getD_eq_getD_getElem?, Array.getElem?_replicate] at f1'
          split at f1' <;> simp at f1'
  · simp at ht
end
end Go.Cat
