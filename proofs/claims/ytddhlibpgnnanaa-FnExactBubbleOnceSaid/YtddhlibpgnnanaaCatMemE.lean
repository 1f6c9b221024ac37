/-
  New rows: make, and literals; what is put into them.
-/
import Derived.Test.YtddhlibpgnnanaaCatMemD
namespace Go.Cat

section
variable (cf : CF) (st : List Fact) (cnt : Nat) (o : Oper) (g : Gd)

/-- An operand that is put into an element of shape es: what it is, which entry is given up with it, what it needs. -/
def trPut (es : Sh) (x : Operand) : Option (A × List Nat × List Fact) :=
  (opA cf st g x).bind fun a =>
    if es = .v then
      if a.2.1 = .v then some (a.1, [], a.2.2)
      else if a.2.1 = .o .v then match a.1 with
        | .e n => if g = [] then some (a.1, [n], a.2.2) else none
        | .c _ => none
      else none
    else match a.1 with
      | .e n => if a.2.1 = es ∧ es ≠ .y ∧ g = [] then some (a.1, [n], a.2.2) else none
      | .c (.l []) => (match es with | .o _ => some (.c (.l []), [], []) | _ => none)
      | .c _ => none

def elemSh (k : Nat) : Sh := match k with
  | 2 => .o .v
  | 3 => .o (.o .v)
  | _ => .v

def isNilD : D → Bool
  | .l [] => true
  | _ => false

def trMk (k : Nat) (t : TypeId) (l c : Operand) : Option (Pr × Sm) :=
  match elem1 cf.P t with
  | some (_, ti) => match ti.zero with
    | some z => (constD z).bind fun d => if ti.bytes ≤ 128 ∧ z.oneCell' = true ∧ inB o.dst cf.nt = true ∧ (elemSh k = .v ∨ isNilD d = true) then
        (opA cf st g l).bind fun a => (opA cf st g c).bind fun b => some (.mk d a.1 b.1, ⟨a.2.2 ++ b.2.2, [], one cnt (.o (elemSh k)) o.dst (.is cnt g)⟩)
      else none
    | none => none
  | none => none

def trPuts (es : Sh) : List Operand → Option (List A × List Nat × List Fact)
  | [] => some ([], [], [])
  | x :: xs => (trPut cf st g es x).bind fun a => (trPuts es xs).map fun r => (a.1 :: r.1, a.2.1 ++ r.2.1, a.2.2 ++ r.2.2)

def trLi (k : Nat) (t : TypeId) (len : Nat) (ps : Array (Nat × Operand)) : Option (Pr × Sm) :=
  match elem1 cf.P t with
  | some (_, ti) => if ti.zero.isSome ∧ len ≤ 4096 ∧ ps.toList.map (·.1) = List.range len ∧ inB o.dst cf.nt = true then
      (trPuts cf st g (elemSh k) (ps.toList.map (·.2))).bind fun r => if r.2.1.Nodup then
        some (.li (.o (elemSh k)) r.1, ⟨r.2.2, r.2.1, one cnt (.o (elemSh k)) o.dst (.is cnt g)⟩) else none
    else none
  | none => none
end

theorem Each.nil_of {R : D → Value → List Nat → Prop} {d : D} {v : Value} (h : R d v []) : ∀ (n m : Nat), n ≤ m → Each R (List.replicate n d) (List.replicate m v) []
  | 0, m, _ => by simp [Each]
  | n + 1, 0, h => by omega
  | n + 1, m + 1, hn => by
    simp only [List.replicate_succ, Each]
    exact ⟨[], [], rfl, h, Each.nil_of h n m (by omega)⟩

theorem Own.nil {fid : Nat → Nat} {h : Array Obj} {O X : Nat → Prop} {s : Sh} : Own fid h O X s (.l []) (.slice none 0 0) [] := by
  cases s with
  | v => simp [Own, Rd]
  | y => simp [Own, Rd]
  | o s => simp [Own]

section
variable {cf : CF} {c : Cx} {F : Fact → Prop} {E : Nat → D} {a : Act} {w : World} {vs : Nat → Value} {Bs : Nat → List Nat} {cnt : Nat} {g : Gd} {sm : Sm} {st : List Fact} {o : Oper} {p : Pr}
  {K : Nat → List D → List D → Prop}

theorem opA_const {x : Operand} {d : D} {s : Sh} {ns : List Fact} (h : opA cf st g x = some (.c d, s, ns)) : ns = [] := by
  cases x with
  | const v =>
    simp only [opA, Option.map_eq_some_iff, Prod.mk.injEq] at h
    obtain ⟨_, _, _, _, rfl⟩ := h; rfl
  | func v =>
    simp only [opA, Option.map_eq_some_iff, Prod.mk.injEq] at h
    obtain ⟨_, _, _, _, rfl⟩ := h; rfl
  | global f => simp [opA] at h
  | tmp t =>
    simp only [opA] at h
    split at h
    · split at h
      · simp only [Option.map_eq_some_iff, Prod.mk.injEq] at h
        obtain ⟨_, _, h, _⟩ := h
        cases h
      · cases h
    · cases h

/-- What is put into an element is that element's. -/
theorem trPut_sound {es : Sh} {x : Operand} {α : A} {ks : List Nat} {ns : List Fact} (ht : trPut cf st g es x = some (α, ks, ns)) (h : At cf c F E a w vs Bs cnt g p sm) (hn : ∀ f ∈ ns, f ∈ sm.needs)
    {O' : Nat → Prop} (hO : ∀ b, b < w.heap.size → O' b → OB F Bs b) (hfr : es = .v → ∀ n ∈ ks, ∀ b ∈ Bs n, ¬ O' b) :
    ∃ B, Own c.fid w.heap O' c.Xb es (ev E α) (a.eval x) B ∧ ((ks = [] ∨ es = .v) ∧ B = [] ∨ ∃ n, ks = [n] ∧ B = Bs n ∧ es ≠ .v) ∧ (∀ n ∈ ks, alive F n) := by
  unfold trPut at ht
  simp only [Option.bind_eq_some_iff] at ht
  obtain ⟨⟨α1, s1, n1⟩, h1, ht⟩ := ht
  simp only at ht
  split at ht
  · rename_i hes
    subst hes
    split at ht
    · rename_i hs; subst hs
      simp only [Option.some.injEq, Prod.mk.injEq] at ht
      obtain ⟨rfl, rfl, rfl⟩ := ht
      obtain ⟨B, hB, _⟩ := h.opA h1 hn
      refine ⟨[], ?_, .inl ⟨.inl rfl, rfl⟩, by simp⟩
      simp only [Own] at hB ⊢
      exact ⟨trivial, hB.2.mono fun b hb q => q.imp (hO b hb) id⟩
    · split at ht
      · rename_i hs; subst hs
        split at ht
        · rename_i n
          split at ht
          · simp only [Option.some.injEq, Prod.mk.injEq] at ht
            obtain ⟨rfl, rfl, rfl⟩ := ht
            obtain ⟨B, hB, hn'⟩ := h.opA h1 hn
            obtain ⟨k1, k2, k3⟩ := hn' n rfl
            refine ⟨[], ?_, .inl ⟨.inr rfl, rfl⟩, by simp; exact ⟨_, k1⟩⟩
            rw [k3] at hB
            have hX : ∀ b ∈ Bs n, ¬ c.Xb b := fun b hb q => by
              obtain ⟨q1, q2⟩ := c.hX b q
              rcases h.H.mine n _ k1 b hb with m | m
              · omega
              · exact q2 m
            have := Own.frozen hO (.o .v) _ _ _ (by simp) (fun b hb => ⟨hfr rfl n (by simp) b hb, hX b hb⟩) hB (fun s' e => by injection e with e; exact e.symm)
            simp only [Own]
            exact ⟨trivial, this⟩
          · cases ht
        · cases ht
      · cases ht
  · rename_i hes
    split at ht
    · rename_i n
      split at ht
      · rename_i hs
        obtain ⟨hs1, hs2, _⟩ := hs
        subst hs1
        simp only [Option.some.injEq, Prod.mk.injEq] at ht
        obtain ⟨rfl, rfl, rfl⟩ := ht
        obtain ⟨B, hB, hn'⟩ := h.opA h1 hn
        obtain ⟨k1, k2, k3⟩ := hn' n rfl
        refine ⟨Bs n, ?_, .inr ⟨n, rfl, rfl, hes⟩, by simp; exact ⟨_, k1⟩⟩
        rw [← k3]
        exact Own.ext (Agr.refl (fun _ => False) _) (fun _ _ q => q.elim) hO _ _ _ _ (fun _ _ q => q) hB
      · cases ht
    · split at ht
      · rename_i es' 
        simp only [Option.some.injEq, Prod.mk.injEq] at ht
        obtain ⟨rfl, rfl, rfl⟩ := ht
        refine ⟨[], ?_, .inl ⟨.inl rfl, rfl⟩, by simp⟩
        obtain ⟨B, hB, _⟩ := opA_sound h.fits h1 h.H (fun f hf => by rw [opA_const h1] at hf; cases hf) h.g
        · have hv : a.eval x = .slice none 0 0 := by
            cases x with
            | const v =>
              simp only [opA, Option.map_eq_some_iff] at h1
              obtain ⟨d, hd, h1⟩ := h1
              simp only [Prod.mk.injEq] at h1
              obtain ⟨h1, _, _⟩ := h1
              injection h1 with h1
              subst h1
              unfold constD at hd
              split at hd <;> try (injection hd with hd; cases hd)
              · split at hd
                · injection hd with hd; cases hd
                · cases hd
              · rfl
              · cases hd
            | func f =>
              simp only [opA, Option.map_eq_some_iff, Prod.mk.injEq] at h1
              obtain ⟨k, hk, h1, _⟩ := h1
              simp at h1
            | global f => simp [opA] at h1
            | tmp t =>
              simp only [opA] at h1
              split at h1
              · split at h1
                · simp only [Option.map_eq_some_iff, Prod.mk.injEq] at h1
                  obtain ⟨_, _, h1, _⟩ := h1
                  cases h1
                · cases h1
              · cases h1
          rw [hv]
          exact Own.nil
      · cases ht
    · cases ht

theorem agr_alloc (w : World) (o : Obj) (S : Nat → Prop) : Agr S w.heap (w.alloc o).heap := by
  refine ⟨by simp, fun b hb _ => heap_alloc_old w o b hb⟩

theorem trMk_sound {k : Nat} {t : TypeId} {l q : Operand} (ho : o.op = .makeSlice t l q) (ht : trMk cf st cnt o g k t l q = some (p, sm)) (h : At cf c F E a w vs Bs cnt g p sm) (hE : EvP K E cnt p) : StepOK c o sm F E a w := by
  unfold trMk at ht
  split at ht
  · rename_i e ti hel
    split at ht
    · rename_i z hz
      simp only [Option.bind_eq_some_iff] at ht
      obtain ⟨d, hd, ht⟩ := ht
      split at ht
      · rename_i hc
        obtain ⟨hby, hz1, hin, hsh⟩ := hc
        have hzc : z.cells = #[z] := by cases z <;> simp_all [Value.cells, Value.oneCell']
        simp only [Option.bind_eq_some_iff] at ht
        obtain ⟨⟨α, s1, n1⟩, h1, ⟨β, s2, n2⟩, h2, ht⟩ := ht
        simp only [Option.some.injEq, Prod.mk.injEq] at ht
        obtain ⟨rfl, rfl⟩ := ht
        obtain ⟨B1, o1, _⟩ := h.opA h1 (fun f hf => List.mem_append_left _ hf)
        obtain ⟨B2, o2, _⟩ := h.opA h2 (fun f hf => List.mem_append_right _ hf)
        have hE' : mkD d (ev E α) (ev E β) = some (E cnt) := hE
        unfold mkD at hE'
        split at hE'
        · rename_i k1 n k2 m he1 he2
          split at hE'
          · rename_i hb
            obtain ⟨hb1, hb2, hb3⟩ := hb
            injection hE' with hE'
            rw [he1] at o1
            rw [he2] at o2
            obtain ⟨g1, g2, g3⟩ := elem1_spec hel
            have hP : c.P = cf.P := h.fits.P
            obtain ⟨n', rfl⟩ := Int.eq_ofNat_of_zero_le hb1
            obtain ⟨m', rfl⟩ := Int.eq_ofNat_of_zero_le (show (0 : Int) ≤ m by omega)
            have hmb : (m' : Int) ≤ 1099511627776 := hb3
            have hr := run_make (P := c.P) w t e ti z (by rw [hP]; exact g1) (by rw [hP]; exact g2) hz k1 k2 n' m' (by omega) hb2 (by
              have : (ti.bytes : Int) * (m' : Int) ≤ 128 * 1099511627776 := Int.mul_le_mul (by omega) hmb (by omega) (by omega)
              omega) (by omega)
            simp only [Int.toNat_natCast, g3, Nat.mul_one, hzc] at hr
            have hrun : (execOp a.eval o).run c.P w = .ok (.value (.slice (some ⟨w.heap.size, 0, none⟩) n' m')) (w.alloc (.cells (madeCells #[z] m') e)) := by
              simp only [execOp, ho]
              refine run_v ?_
              rw [o1.int, o2.int]
              exact hr
            refine StepOK.of_value hrun ⟨upd vs cnt (.slice (some ⟨w.heap.size, 0, none⟩) n' m'), upd Bs cnt [w.heap.size], ?_⟩
            refine h.H.put (by simpa using h.fresh 0 (by simp [Pr.np])) (by rw [h.fits.nt]; exact hin) [] (agr_alloc _ _ _) rfl rfl rfl ?_ (by simp) (by simp) h.g
            rw [← hE']
            simp only [Own]
            refine .inr ⟨_, rfl, .inr ⟨w.heap.size, 0, m', madeCells #[z] m', e, (0, 0), [], rfl, ?_, ?_, rfl, ?_, ?_, ?_, ?_⟩⟩
            · simp
            · exact heap_alloc_new w _
            · simp; omega
            · simp [madeCells]
            · simp; omega
            · simp only [List.drop_zero, toList_madeCells_one, Int.toNat_natCast]
              refine Each.nil_of ?_ n' m' (by omega)
              rcases hsh with hsh | hsh
              · rw [hsh]; simp only [Own]; exact ⟨trivial, constD_rd hd⟩
              · unfold isNilD at hsh
                split at hsh
                · have hv : z = .slice none 0 0 := by
                    unfold constD at hd
                    split at hd <;> try (injection hd with hd; cases hd)
                    · split at hd
                      · injection hd with hd; cases hd
                      · cases hd
                    · rfl
                    · cases hd
                  rw [hv]; exact Own.nil
                · cases hsh
          · cases hE'
        · cases hE'
      · cases ht
    · cases ht
  · cases ht

end
end Go.Cat
