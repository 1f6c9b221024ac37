/-
  The operations that only reckon: each keeps what is known, and makes what the data say.
-/
import Derived.Test.YtddhlibpgnnanaaCatOpB
namespace Go.Cat

/-- What is at hand where an operation is met. -/
structure At (cf : CF) (c : Cx) (F : Fact → Prop) (E : Nat → D) (a : Act) (w : World) (vs : Nat → Value) (Bs : Nat → List Nat) (cnt : Nat) (g : Gd) (p : Pr) (sm : Sm) : Prop where
  fits : cf.Fits c
  H : HoldsG c F E a w vs Bs
  fresh : ∀ j, j < p.np → Fresh F (cnt + j)
  needs : ∀ f ∈ sm.needs, F f
  g : gdOK E g

theorem At.opA {cf : CF} {c : Cx} {F : Fact → Prop} {E : Nat → D} {a : Act} {w : World} {vs : Nat → Value} {Bs : Nat → List Nat} {cnt : Nat} {g : Gd} {p : Pr} {sm : Sm}
    (h : At cf c F E a w vs Bs cnt g p sm) {st : List Fact} {x : Operand} {A : A} {s : Sh} {ns : List Fact} (hx : opA cf st g x = some (A, s, ns)) (hn : ∀ f ∈ ns, f ∈ sm.needs) :
    ∃ B, Own c.fid w.heap (OB F Bs) c.Xb s (ev E A) (a.eval x) B ∧ (∀ n, A = .e n → F (.en n s) ∧ a.eval x = vs n ∧ B = Bs n) :=
  opA_sound h.fits hx h.H (fun f hf => h.needs f (hn f hf)) h.g

theorem leafS_eq {cf : CF} {cnt : Nat} {o : Oper} {g : Gd} {p p' : Pr} {s : Sh} {ns : List Fact} {sm : Sm} (h : leafS cf cnt o g p s ns = some (p', sm)) :
    p' = p ∧ (inB o.dst cf.nt = true ∧ p.np = 1) ∧ sm = ⟨ns, [], one cnt s o.dst (.is cnt g)⟩ := by
  unfold leafS at h
  split at h
  · rename_i hi
    simp only [Option.some.injEq, Prod.mk.injEq] at h
    exact ⟨h.1.symm, hi, h.2.symm⟩
  · simp at h

/-- An operation that gives a value which owns nothing. -/
theorem leaf_step {cf : CF} {c : Cx} {F : Fact → Prop} {E : Nat → D} {a : Act} {w w' : World} {vs : Nat → Value} {Bs : Nat → List Nat} {cnt : Nat} {g : Gd} {s : Sh} {ns : List Fact} {o : Oper} {p : Pr}
    (h : At cf c F E a w vs Bs cnt g p ⟨ns, [], one cnt s o.dst (.is cnt g)⟩) (hi : inB o.dst cf.nt = true ∧ p.np = 1) {v : Value}
    (hw : w'.heap = w.heap ∧ w'.os = w.os ∧ w'.tape = w.tape ∧ w'.output = w.output)
    (hr : (execOp a.eval o).run c.P w = .ok (.value v) w') (hown : Own c.fid w.heap (OB F Bs) c.Xb s (E cnt) v []) :
    StepOK c o ⟨ns, [], one cnt s o.dst (.is cnt g)⟩ F E a w :=
  StepOK.of_value hr (h.H.leaf_is (by simpa using h.fresh 0 (by omega)) (by rw [h.fits.nt]; exact hi.1) hw hown [] h.g)

theorem same_world (w : World) : w.heap = w.heap ∧ w.os = w.os ∧ w.tape = w.tape ∧ w.output = w.output := ⟨rfl, rfl, rfl, rfl⟩

theorem Own.of_rd {fid : Nat → Nat} {h : Array Obj} {O X : Nat → Prop} {d : D} {v : Value} (r : ∀ Z, Rd fid h Z d v) : Own fid h O X .v d v [] := by
  simp only [Own]; exact ⟨trivial, r _⟩

section
variable {cf : CF} {c : Cx} {F : Fact → Prop} {E : Nat → D} {a : Act} {w : World} {vs : Nat → Value} {Bs : Nat → List Nat} {cnt : Nat} {g : Gd} {sm : Sm} {st : List Fact} {o : Oper} {p : Pr}
  {K : Nat → List D → List D → Prop}

theorem tr2_sound {x y : Operand} {q : A → A → Pr} (ht : tr2 cf st cnt o g x y q = some (p, sm)) (h : At cf c F E a w vs Bs cnt g p sm)
    (hq : ∀ (α β : A) (s r : Sh) (B1 B2 : List Nat), EvP K E cnt (q α β) → Own c.fid w.heap (OB F Bs) c.Xb s (ev E α) (a.eval x) B1 → Own c.fid w.heap (OB F Bs) c.Xb r (ev E β) (a.eval y) B2 →
      ∃ v, (execOp a.eval o).run c.P w = .ok (.value v) w ∧ ∀ Z, Rd c.fid w.heap Z (E cnt) v) (hE : EvP K E cnt p) : StepOK c o sm F E a w := by
  unfold tr2 at ht
  simp only [Option.bind_eq_some_iff] at ht
  obtain ⟨⟨A1, s1, n1⟩, h1, ⟨A2, s2, n2⟩, h2, h3⟩ := ht
  obtain ⟨rfl, hi, rfl⟩ := leafS_eq h3
  obtain ⟨B1, o1, _⟩ := h.opA h1 (fun f hf => List.mem_append_left _ hf)
  obtain ⟨B2, o2, _⟩ := h.opA h2 (fun f hf => List.mem_append_right _ hf)
  obtain ⟨v, hr, hd⟩ := hq A1 A2 s1 s2 B1 B2 hE o1 o2
  exact leaf_step h hi (same_world w) hr (Own.of_rd hd)

theorem tr1_sound {x : Operand} {q : A → Pr} (ht : tr1 cf st cnt o g x q = some (p, sm)) (h : At cf c F E a w vs Bs cnt g p sm)
    (hq : ∀ (α : A) (s : Sh) (B1 : List Nat), EvP K E cnt (q α) → Own c.fid w.heap (OB F Bs) c.Xb s (ev E α) (a.eval x) B1 →
      ∃ v, (execOp a.eval o).run c.P w = .ok (.value v) w ∧ ∀ Z, Rd c.fid w.heap Z (E cnt) v) (hE : EvP K E cnt p) : StepOK c o sm F E a w := by
  unfold tr1 at ht
  simp only [Option.bind_eq_some_iff] at ht
  obtain ⟨⟨A1, s1, n1⟩, h1, h3⟩ := ht
  obtain ⟨rfl, hi, rfl⟩ := leafS_eq h3
  obtain ⟨B1, o1, _⟩ := h.opA h1 (fun f hf => hf)
  obtain ⟨v, hr, hd⟩ := hq A1 s1 B1 hE o1
  exact leaf_step h hi (same_world w) hr (Own.of_rd hd)

theorem binD_sound {op : BinOp} {t : TypeId} {x y : Operand} {s r : Sh} {B1 B2 : List Nat} {d1 d2 d : D} {v1 v2 : Value} (he : binD op d1 d2 = some d)
    (o1 : Own c.fid w.heap (OB F Bs) c.Xb s d1 v1 B1) (o2 : Own c.fid w.heap (OB F Bs) c.Xb r d2 v2 B2) :
    (do eqGuard op t x y v1 v2; binOp op t v1 v2 : Sem Value).run c.P w = .ok (valD d) w ∧ ∀ Z, Rd c.fid w.heap Z d (valD d) := by
  unfold binD at he
  split at he
  · rename_i k1 n1 k2 n2
    rw [o1.int, o2.int]
    have he' : binD op (.i k1 n1) (.i k2 n2) = some d := by unfold binD; exact he
    obtain ⟨h1, h2⟩ := run_bin_int (P := c.P) w (t := t) he'
    exact ⟨by rw [Sem.run_bind, run_eqGuard_int]; exact h1, fun Z => h2 _ _ Z⟩
  · rename_i x1 x2
    obtain ⟨e1, b1, _⟩ := o1.str
    obtain ⟨e2, b2, _⟩ := o2.str
    rw [e1, e2]
    obtain ⟨h1, h2⟩ := run_bin_str (P := c.P) w (t := t) b1 b2 he
    exact ⟨by rw [Sem.run_bind]; unfold strV; rw [run_eqGuard_str]; exact h1, fun Z => h2 _ _ Z⟩
  · simp at he

theorem boolD_sound {op : BinOp} {t : TypeId} {x y : Operand} {s r : Sh} {B1 B2 : List Nat} {d1 d2 d : D} {v1 v2 : Value} (ht : c.P.underlying t = some .bool) (he : boolD op d1 d2 = some d)
    (o1 : Own c.fid w.heap (OB F Bs) c.Xb s d1 v1 B1) (o2 : Own c.fid w.heap (OB F Bs) c.Xb r d2 v2 B2) :
    (do eqGuard op t x y v1 v2; binOp op t v1 v2 : Sem Value).run c.P w = .ok (valD d) w ∧ ∀ Z, Rd c.fid w.heap Z d (valD d) := by
  unfold boolD at he
  split at he
  · rename_i x1 x2
    rw [o1.bool, o2.bool]
    have he' : boolD op (.b x1) (.b x2) = some d := by unfold boolD; exact he
    obtain ⟨h1, h2⟩ := run_bin_bool (P := c.P) w ht he'
    exact ⟨by rw [Sem.run_bind, run_eqGuard_bool]; exact h1, fun Z => h2 _ _ Z⟩
  · simp at he

theorem run_v {x : Sem Value} {P : Program} {w w' : World} {v : Value} (h : x.run P w = .ok v w') : (do pure (Next.value (← x)) : Sem Next).run P w = .ok (.value v) w' := by
  rw [Sem.run_bind, h]; rfl

end

/-! ### The translation of what only reckons -/
section
variable (cf : CF) (st : List Fact) (cnt : Nat) (o : Oper) (g : Gd)

def isBool (P : Program) (t : TypeId) : Bool := match P.underlying t with | some .bool => true | _ => false
def intK (P : Program) (t : TypeId) : Option IntKind := match P.underlying t with | some (.int k) => some k | _ => none
def isStr (P : Program) (t : TypeId) : Bool := match P.underlying t with | some .string => true | _ => false
def sliceE (P : Program) (t : TypeId) : Option TypeId := match P.underlying t with | some (.slice e) => some e | _ => none

/-- Operations that only reckon. -/
def trPure (k : Nat) : Option (Pr × Sm) :=
  match o.op with
  | .move x => trMove cf st cnt o g x k
  | .assign x => trMove cf st cnt o g x k
  | .pick c x y => trPick cf st cnt o g c x y
  | .binOp op t x y _ => if isBool cf.P t then tr2 cf st cnt o g x y (.bb op) else tr2 cf st cnt o g x y (.bi op)
  | .unOp op _ x => tr1 cf st cnt o g x (.un op)
  | .convert s d x => match intK cf.P s, intK cf.P d with
    | some _, some kd => tr1 cf st cnt o g x (.cv kd)
    | _, _ => none
  | .index t x i => if isStr cf.P t then tr2 cf st cnt o g x i .sx else none
  | .call { callee := .builtin .len, args, argTypes } => match args.toList, argTypes.toList with
    | [x], [t] => if isStr cf.P t then tr1 cf st cnt o g x .sn else match sliceE cf.P t with
      | some _ => tr1 cf st cnt o g x (.ln · [])
      | none => none
    | _, _ => none
  | .call { callee := .builtin .max, args, .. } => match args.toList with
    | [x, y] => tr2 cf st cnt o g x y .mx
    | _ => none
  | .call { callee := .builtin .min, args, .. } => match args.toList with
    | [x, y] => tr2 cf st cnt o g x y .mn
    | _ => none
  | _ => none
end

theorem findSl_mem {st : List Fact} {t : Nat} {l : Loc} (h : findSl st t = some l) : Fact.sl t l ∈ st := by
  induction st with
  | nil => simp [findSl] at h
  | cons f r ih =>
    cases f with
    | en n s => simp only [findSl] at h; exact List.mem_cons_of_mem _ (ih h)
    | sl u k =>
      simp only [findSl] at h
      split at h
      · rename_i e; injection h with h; subst e h; exact List.mem_cons_self ..
      · exact List.mem_cons_of_mem _ (ih h)

section
variable {cf : CF} {c : Cx} {F : Fact → Prop} {E : Nat → D} {a : Act} {w : World} {vs : Nat → Value} {Bs : Nat → List Nat} {cnt : Nat} {g : Gd} {sm : Sm} {st : List Fact} {o : Oper} {p : Pr}
  {K : Nat → List D → List D → Prop}

theorem trMove_sound {x : Operand} {k : Nat} (ht : trMove cf st cnt o g x k = some (p, sm)) (h : At cf c F E a w vs Bs cnt g p sm)
    (hx : (execOp a.eval o).run c.P w = .ok (.value (a.eval x)) w) (hE : EvP K E cnt p) : StepOK c o sm F E a w := by
  cases x with
  | tmp t =>
    simp only [trMove] at ht
    split at ht
    · rename_i d hd
      split at ht
      · rename_i hlt
        split at ht
        · rename_i n g' hl
          split at ht
          · rename_i hg'
            split at ht
            · obtain ⟨rfl, hi, rfl⟩ := leafS_eq ht
              have hf := h.needs (.sl t (.is n g')) (by simp)
              have he := h.needs (.en n .v) (by simp)
              have hl1 : a.tmps[t]? = some (vs n) := (h.H.loc t _ hf).1 (fun x hx => h.g x ((List.isPrefixOf_iff_prefix.1 hg').subset hx))
              have hev : a.eval (.tmp t) = vs n := by simp [Act.eval, hl1]
              have ho := h.H.own n .v he
              simp only [Own] at ho
              simp only [EvP, evP, ev, Option.some.injEq] at hE
              refine leaf_step h hi (same_world w) hx ?_
              simp only [Own]
              rw [hev, ← hE]
              exact ⟨trivial, ho.2⟩
            simp only [Option.some.injEq, Prod.mk.injEq] at ht
            obtain ⟨_, rfl⟩ := ht
            refine StepOK.of_value hx ⟨vs, Bs, ?_⟩
            have hf := h.needs (.sl t (.is n g')) (by simp)
            have hl1 : a.tmps[t]? = some (vs n) := (h.H.loc t _ hf).1 (fun x hx => h.g x ((List.isPrefixOf_iff_prefix.1 hg').subset hx))
            have hev : a.eval (.tmp t) = vs n := by simp [Act.eval, hl1]
            rw [hev, hd]
            refine HoldsG.step (fun _ => False) (fun _ => False) (fun _ => False) (some d) h.H (fun _ _ => rfl) (fun _ _ => rfl) (fun _ _ _ _ _ q => q) (fun _ q => q.elim) (Agr.refl _ _) rfl rfl rfl
              (fun t ht => put_get ht) put_size put_defers ?_ (fun _ _ q => q.elim) (fun _ _ q => q.elim) (fun _ _ q => q.elim) (fun _ _ _ _ q => q.elim) ?_
            · rintro f (⟨h1, h2⟩ | h1)
              · left
                refine ⟨h1, ?_⟩
                cases f with
                | en n s => exact fun q => q
                | sl u l => exact h2
              · simp at h1; subst h1; right; rfl
            · rintro u l hu (⟨_, h2⟩ | h2)
              · exact (h2 hu).elim
              · simp at h2
                obtain ⟨rfl, rfl⟩ := h2
                exact ⟨fun _ => put_self (by rw [h.H.size, h.fits.nt]; exact hlt), fun q => (q h.g).elim⟩
          · simp at ht
        · simp at ht
      · simp at ht
    · simp at ht
  | const v =>
    simp only [trMove] at ht
    split at ht
    · rename_i hc
      obtain ⟨rfl, hi, rfl⟩ := leafS_eq ht
      have e : E cnt = .l [] := by simp only [EvP, evP, Option.some.injEq] at hE; exact hE.symm
      have hv : v = .slice none 0 0 := by
        have := constD_rd (fid := c.fid) (h := #[]) (Z := fun _ => False) hc
        simpa [Rd] using this
      refine leaf_step h hi (same_world w) hx ?_
      rw [e]
      simp only [Own, Act.eval, hv]
      exact .inr ⟨[], rfl, .inl (by simp)⟩
    · rename_i hc
      obtain ⟨rfl, hi, rfl⟩ := leafS_eq ht
      have e : E cnt = .l [] := by simp only [EvP, evP, Option.some.injEq] at hE; exact hE.symm
      have hv : v = .slice none 0 0 := by
        have := constD_rd (fid := c.fid) (h := #[]) (Z := fun _ => False) hc
        simpa [Rd] using this
      refine leaf_step h hi (same_world w) hx ?_
      rw [e]
      simp only [Own, Act.eval, hv]
      exact .inr ⟨[], rfl, .inl (by simp)⟩
    · rename_i d _ hc _ _
      obtain ⟨rfl, hi, rfl⟩ := leafS_eq ht
      simp only [EvP, evP, Option.some.injEq] at hE
      exact leaf_step h hi (same_world w) hx (Own.of_rd fun Z => hE ▸ constD_rd hc)
    · simp at ht
  | func f =>
    simp only [trMove, Option.bind_eq_some_iff] at ht
    obtain ⟨k, hk, ht⟩ := ht
    obtain ⟨rfl, hi, rfl⟩ := leafS_eq ht
    simp only [EvP, evP, Option.some.injEq] at hE
    refine leaf_step h hi (same_world w) hx (Own.of_rd fun Z => ?_)
    rw [← hE]
    simp only [Rd]
    refine ⟨#[], ?_, rfl, by simp [RdL]⟩
    rw [h.fits.fid, h.fits.gof f k hk]
    rfl
  | global _ => simp [trMove] at ht

theorem trPick_sound {x y z : Operand} (ho : o.op = .pick x y z) (ht : trPick cf st cnt o g x y z = some (p, sm)) (h : At cf c F E a w vs Bs cnt g p sm) (hE : EvP K E cnt p) : StepOK c o sm F E a w := by
  unfold trPick at ht
  simp only [Option.bind_eq_some_iff] at ht
  obtain ⟨⟨A1, s1, n1⟩, h1, ht⟩ := ht
  cases A1 with
  | c d => simp at ht
  | e n =>
    simp only [Option.bind_eq_some_iff] at ht
    obtain ⟨⟨A2, s2, n2⟩, h2, ⟨A3, s3, n3⟩, h3, ht⟩ := ht
    simp only at ht
    split at ht
    · rename_i hv
      obtain ⟨hv1, hv2⟩ := hv
      subst hv1 hv2
      obtain ⟨rfl, hi, rfl⟩ := leafS_eq ht
      obtain ⟨B1, o1, _⟩ := h.opA h1 (fun f hf => List.mem_append_left _ hf)
      simp only [EvP, evP, ev] at hE
      simp only [ev] at o1
      split at hE
      · rename_i hb
        have hr : (execOp a.eval o).run c.P w = .ok (.value (a.eval y)) w := by
          simp only [execOp, ho]
          rw [Sem.run_bind, show a.eval x = .bool true from by rw [hb] at o1; exact o1.bool]
          rfl
        obtain ⟨B2, o2, _⟩ := opA_sound h.fits h2 h.H (fun f hf => h.needs f (List.mem_append_right _ (List.mem_append_left _ hf))) (by intro x hx; rcases List.mem_append.1 hx with hx | hx; exact h.g x hx; simp at hx; subst hx; exact hb)
        simp only [Own] at o2
        injection hE with hE
        refine leaf_step h hi (same_world w) hr ?_
        simp only [Own]
        exact ⟨trivial, hE ▸ o2.2⟩
      · rename_i hb
        have hr : (execOp a.eval o).run c.P w = .ok (.value (a.eval z)) w := by
          simp only [execOp, ho]
          rw [Sem.run_bind, show a.eval x = .bool false from by rw [hb] at o1; exact o1.bool]
          rfl
        obtain ⟨B2, o2, _⟩ := opA_sound h.fits h3 h.H (fun f hf => h.needs f (List.mem_append_right _ (List.mem_append_right _ hf))) (by intro x hx; rcases List.mem_append.1 hx with hx | hx; exact h.g x hx; simp at hx; subst hx; exact hb)
        simp only [Own] at o2
        injection hE with hE
        refine leaf_step h hi (same_world w) hr ?_
        simp only [Own]
        exact ⟨trivial, hE ▸ o2.2⟩
      · simp at hE
    · simp at ht

theorem run_underlying {P : Program} {t : TypeId} {d : TypeDesc} (h : P.underlying t = some d) (w : World) : (underlying t).run P w = .ok d w := by
  simp [underlying, h]

theorem isBool_eq {P : Program} {t : TypeId} (h : isBool P t = true) : P.underlying t = some .bool := by
  unfold isBool at h; split at h <;> simp_all
theorem isStr_eq {P : Program} {t : TypeId} (h : isStr P t = true) : P.underlying t = some .string := by
  unfold isStr at h; split at h <;> simp_all
theorem intK_eq {P : Program} {t : TypeId} {k : IntKind} (h : intK P t = some k) : P.underlying t = some (.int k) := by
  unfold intK at h; split at h <;> simp_all
theorem sliceE_eq {P : Program} {t e : TypeId} (h : sliceE P t = some e) : P.underlying t = some (.slice e) := by
  unfold sliceE at h; split at h <;> simp_all

theorem evP_bi {op : BinOp} {α β : A} (h : EvP K E cnt (.bi op α β)) : binD op (ev E α) (ev E β) = some (E cnt) := h
theorem evP_bb {op : BinOp} {α β : A} (h : EvP K E cnt (.bb op α β)) : boolD op (ev E α) (ev E β) = some (E cnt) := h

theorem resolve_builtin (ρ : Operand → Value) (b : Builtin) (args : Array Operand) (ts : Array TypeId) (type : TypeId) :
    resolve ρ { callee := .builtin b, args, argTypes := ts } type = (Pure.pure { target := .builtin b ts type (args.map fun | .const _ => true | _ => false), args := args.map ρ } : Sem Deferred) := rfl

theorem exec_builtin {o : Oper} {b : Builtin} {args : Array Operand} {ts : Array TypeId} (ho : o.op = .call { callee := .builtin b, args, argTypes := ts }) (P : Program) (w : World) (ρ : Operand → Value) :
    (execOp ρ o).run P w = (builtin b ts o.type (args.map fun | .const _ => true | _ => false) (args.map ρ)).run P w := by
  simp only [execOp, ho, resolve_builtin]
  rw [Sem.run_bind]
  rfl

theorem trPure_sound {k : Nat} (ht : trPure cf st cnt o g k = some (p, sm)) (h : At cf c F E a w vs Bs cnt g p sm) (hE : EvP K E cnt p) : StepOK c o sm F E a w := by
  unfold trPure at ht
  split at ht
  · rename_i x ho
    exact trMove_sound ht h (by simp only [execOp, ho]; rfl) hE
  · rename_i x ho
    exact trMove_sound ht h (by simp only [execOp, ho]; rfl) hE
  · rename_i x y z ho
    exact trPick_sound ho ht h hE
  · rename_i op t x y yt ho
    split at ht
    · rename_i hb
      refine tr2_sound ht h (fun α β s r B1 B2 he o1 o2 => ?_) hE
      have hb' : c.P.underlying t = some .bool := by rw [h.fits.P]; exact isBool_eq hb
      obtain ⟨h1, h2⟩ := boolD_sound (x := x) (y := y) (w := w) hb' (evP_bb he) o1 o2
      exact ⟨_, by simp only [execOp, ho]; exact run_v h1, h2⟩
    · refine tr2_sound ht h (fun α β s r B1 B2 he o1 o2 => ?_) hE
      obtain ⟨h1, h2⟩ := binD_sound (x := x) (y := y) (t := t) (w := w) (evP_bi he) o1 o2
      exact ⟨_, by simp only [execOp, ho]; exact run_v h1, h2⟩
  · rename_i op t x ho
    refine tr1_sound ht h (fun α s B1 he o1 => ?_) hE
    have he' : unD op (ev E α) = some (E cnt) := he
    unfold unD at he'
    split at he'
    · rename_i b hb
      rw [hb] at o1
      split at he'
      · injection he' with he'
        exact ⟨.bool !b, by simp only [execOp, ho]; rw [o1.bool]; exact run_v rfl, fun Z => by rw [← he']; simp only [Rd]⟩
      · simp at he'
    · rename_i kk n hn
      rw [hn] at o1
      split at he'
      · injection he' with he'
        exact ⟨.int kk (kk.wrap (0 - n)), by simp only [execOp, ho]; rw [o1.int]; exact run_v rfl, fun Z => by rw [← he']; simp only [Rd]⟩
      · simp at he'
    · simp at he'
  · rename_i t1 t2 x ho
    split at ht
    · rename_i k1 k2 e1 e2
      refine tr1_sound ht h (fun α s B1 he o1 => ?_) hE
      have he' : evP E (.cv k2 α) = some (E cnt) := he
      simp only [evP] at he'
      split at he'
      · rename_i kk n hn
        rw [hn] at o1
        injection he' with he'
        refine ⟨.int k2 (k2.wrap n), ?_, fun Z => by rw [← he']; simp only [Rd]⟩
        simp only [execOp, ho]
        refine run_v ?_
        rw [o1.int]
        unfold convert
        rw [Sem.run_bind, run_underlying (h.fits.P ▸ intK_eq e1)]
        simp only [Result.andThen]
        rw [Sem.run_bind, run_underlying (h.fits.P ▸ intK_eq e2)]
        rfl
      · simp at he'
    · simp at ht
  · rename_i t x i ho
    split at ht
    · rename_i hs
      refine tr2_sound ht h (fun α β s r B1 B2 he o1 o2 => ?_) hE
      have he' : sxD (ev E α) (ev E β) = some (E cnt) := he
      have hs' : c.P.underlying t = some .string := by rw [h.fits.P]; exact isStr_eq hs
      unfold sxD at he'
      split at he'
      · rename_i xs kk n hx hn
        rw [hx] at o1; rw [hn] at o2
        obtain ⟨hv, hb, hl⟩ := o1.str
        split at he'
        · rename_i h0
          cases hg : xs[n.toNat]? with
          | none => rw [hg] at he'; simp at he'
          | some z =>
            rw [hg] at he'
            simp only [Option.map_some, Option.some.injEq] at he'
            refine ⟨.int .u8 z, ?_, fun Z => by rw [← he']; simp only [Rd]⟩
            simp only [execOp, ho]
            refine run_v ?_
            rw [hv, o2.int]
            unfold Instr.index strV
            simp only [asIntOf]
            rw [Sem.run_bind, Sem.run_pure]
            simp only [Result.andThen]
            rw [Sem.run_bind, run_underlying hs']
            have hz : z < 256 := hb z (List.mem_of_getElem? hg)
            have hlt : n.toNat < xs.length := by
              rcases Nat.lt_or_ge n.toNat xs.length with q | q
              · exact q
              · rw [List.getElem?_eq_none q] at hg; simp at hg
            have : (⟨(xs.map fun c => UInt8.ofNat c).toArray⟩ : ByteArray)[n.toNat]? = some (UInt8.ofNat z) := by
              rw [getElem?_pos (h := by show n.toNat < (xs.map fun c => UInt8.ofNat c).toArray.size; simpa using hlt)]
              congr 1
              show ((xs.map fun c => UInt8.ofNat c).toArray)[n.toNat]'_ = _
              have h1 : xs[n.toNat] = z := by
                have := hg
                rw [List.getElem?_eq_getElem hlt] at this
                injection this
              simp [h1]
            simp only [Result.andThen, if_pos h0, this, Sem.run_pure]
            congr 2
            simp
            omega
        · simp at he'
      · simp at he'
    · simp at ht
  · rename_i args ts ho
    split at ht
    · rename_i x t hx htt
      have hargs : args = #[x] := by
        apply Array.ext'; simpa using hx
      have hts : ts = #[t] := by
        apply Array.ext'; simpa using htt
      subst hargs hts
      split at ht
      · rename_i hs
        refine tr1_sound ht h (fun α s B1 he o1 => ?_) hE
        have he' : snD (ev E α) = some (E cnt) := he
        unfold snD at he'
        split at he'
        · rename_i xs hxs
          injection he' with he'
          rw [hxs] at o1
          obtain ⟨hv, _, _⟩ := o1.str
          refine ⟨.int .i64 xs.length, ?_, fun Z => by rw [← he']; simp only [Rd]⟩
          rw [exec_builtin ho]
          simp only [List.map_toArray, List.map_cons, List.map_nil]
          show (Bind.bind (Builtin.len_ #[t] o.type #[a.eval x]) _).run c.P w = _
          refine run_v ?_
          rw [hv]
          unfold Builtin.len_ strV
          simp only [List.getElem?_toArray, List.getElem?_cons_zero]
          rw [Sem.run_bind, run_underlying (h.fits.P ▸ isStr_eq hs)]
          simp only [Result.andThen, Sem.run_pure, goInt, strV_size]
        · simp at he'
      · split at ht
        · rename_i e hs
          refine tr1_sound ht h (fun α s B1 he o1 => ?_) hE
          have he' : evP E (.ln α []) = some (E cnt) := he
          simp only [evP, pathD, List.mapM_nil, Option.pure_def, Option.bind_some, getP] at he'
          unfold lenD at he'
          split at he'
          · rename_i xs hxs
            injection he' with he'
            rw [hxs] at o1
            obtain ⟨ad, cap, hv, _⟩ := o1.len
            refine ⟨.int .i64 xs.length, ?_, fun Z => by rw [← he']; simp only [Rd]⟩
            rw [exec_builtin ho]
            simp only [List.map_toArray, List.map_cons, List.map_nil]
            show (Bind.bind (Builtin.len_ #[t] o.type #[a.eval x]) _).run c.P w = _
            refine run_v ?_
            rw [hv]
            unfold Builtin.len_
            simp only [List.getElem?_toArray, List.getElem?_cons_zero]
            rw [Sem.run_bind, run_underlying (h.fits.P ▸ sliceE_eq hs)]
            rfl
          · simp at he'
        · simp at ht
    · simp at ht
  · rename_i args ts ho
    split at ht
    · rename_i x y hx
      have hargs : args = #[x, y] := by
        apply Array.ext'; simpa using hx
      subst hargs
      refine tr2_sound ht h (fun α β s r B1 B2 he o1 o2 => ?_) hE
      have he' : evP E (.mx α β) = some (E cnt) := he
      simp only [evP] at he'
      split at he'
      · rename_i k1 n1 k2 n2 e1 e2
        split at he'
        · rename_i hk
          subst hk
          injection he' with he'
          rw [e1] at o1; rw [e2] at o2
          refine ⟨.int k1 (if n2 > n1 then n2 else n1), ?_, fun Z => by rw [← he']; simp only [Rd]⟩
          rw [exec_builtin ho]
          simp only [List.map_toArray, List.map_cons, List.map_nil]
          show (Bind.bind (Builtin.max_ ts o.type #[a.eval x, a.eval y]) _).run c.P w = _
          refine run_v ?_
          rw [o1.int, o2.int]
          rfl
        · simp at he'
      · simp at he'
    · simp at ht
  · rename_i args ts ho
    split at ht
    · rename_i x y hx
      have hargs : args = #[x, y] := by
        apply Array.ext'; simpa using hx
      subst hargs
      refine tr2_sound ht h (fun α β s r B1 B2 he o1 o2 => ?_) hE
      have he' : evP E (.mn α β) = some (E cnt) := he
      simp only [evP] at he'
      split at he'
      · rename_i k1 n1 k2 n2 e1 e2
        split at he'
        · rename_i hk
          subst hk
          injection he' with he'
          rw [e1] at o1; rw [e2] at o2
          refine ⟨.int k1 (if n2 < n1 then n2 else n1), ?_, fun Z => by rw [← he']; simp only [Rd]⟩
          rw [exec_builtin ho]
          simp only [List.map_toArray, List.map_cons, List.map_nil]
          show (Bind.bind (Builtin.min_ ts o.type #[a.eval x, a.eval y]) _).run c.P w = _
          refine run_v ?_
          rw [o1.int, o2.int]
          rfl
        · simp at he'
      · simp at he'
    · simp at ht
  · simp at ht
end
end Go.Cat
