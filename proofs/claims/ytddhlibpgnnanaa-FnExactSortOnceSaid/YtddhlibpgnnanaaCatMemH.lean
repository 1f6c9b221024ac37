/-
  Append to an owned slice whose elements are readable.
-/
import Derived.Test.YtddhlibpgnnanaaCatMemG
namespace Go.Cat
set_option linter.unusedVariables false

section
variable (cf : CF) (st : List Fact) (cnt : Nat) (o : Oper) (g : Gd)

def zeroOne (ti : TypeInfo) : Bool := match ti.zero with
  | some z => z.oneCell'
  | none => false

/-- The slice that is given up to a change: an owned entry, or nil. -/
def trRoot (s : Operand) : Option (A × List Nat × List Fact) :=
  (opA cf st g s).bind fun a =>
    match a.1 with
    | .e n => if a.2.1 = .o .v then some (a.1, [n], a.2.2) else none
    | .c (.l []) => some (a.1, [], a.2.2)
    | .c _ => none

def notKilled (ks : List Nat) : A → Bool
  | .e n => !ks.contains n
  | .c _ => true

def trAp (t : TypeId) (s x : Operand) : Option (Pr × Sm) :=
  match elem1 cf.P t with
  | some (_, ti) => if zeroOne ti = true ∧ ti.bytes ≤ 128 ∧ inB o.dst cf.nt = true ∧ g = [] then
      (trRoot cf st g s).bind fun r => (opA cf st g x).bind fun b =>
        if notKilled r.2.1 b.1 = true ∧ (b.2.1 = .v ∨ b.2.1 = .o .v ∨ b.2.1 = .y) then
          some (.ap (b.2.1 == .y) r.1 b.1, ⟨r.2.2 ++ b.2.2, r.2.1, one cnt (.o .v) o.dst (.is cnt g)⟩)
        else none
    else none
  | none => none
end

section
variable {fid : Nat → Nat} {h : Array Obj} {Z : Nat → Prop}

theorem RdL.append : ∀ {ds es : List D} {vs us : List Value}, vs.length = ds.length → RdL fid h Z ds vs → RdL fid h Z es us → RdL fid h Z (ds ++ es) (vs ++ us)
  | [], es, [], us, _, _, r => by simpa using r
  | [], es, _ :: _, us, hl, _, _ => by simp at hl
  | d :: ds, es, [], us, hl, _, _ => by simp at hl
  | d :: ds, es, v :: vs, us, hl, r, q => by
    simp only [RdL, List.cons_append] at r ⊢
    exact ⟨r.1, RdL.append (by simpa using hl) r.2 q⟩

theorem RdL.congr : ∀ {ds : List D} {vs us : List Value}, (∀ (j : Nat) (v : Value), vs[j]? = some v → us[j]? = some v) → RdL fid h Z ds vs → RdL fid h Z ds us
  | [], _, _, _, _ => by simp [RdL]
  | d :: ds, [], us, _, r => by simp [RdL] at r
  | d :: ds, v :: vs, [], hj, _ => by have := hj 0 v (by simp); simp at this
  | d :: ds, v :: vs, u :: us, hj, r => by
    simp only [RdL] at r ⊢
    have h0 := hj 0 v (by simp)
    simp at h0
    subst h0
    exact ⟨r.1, RdL.congr (fun j v hv => by simpa using hj (j + 1) v (by simpa using hv)) r.2⟩

theorem RdL.take : ∀ {ds : List D} {vs : List Value}, RdL fid h Z ds vs → RdL fid h Z ds (vs.take ds.length) ∧ (vs.take ds.length).length = ds.length
  | [], _, _ => by simp [RdL]
  | d :: ds, [], r => by simp [RdL] at r
  | d :: ds, v :: vs, r => by
    simp only [RdL] at r
    have := RdL.take r.2
    simp only [List.length_cons, List.take_succ_cons, RdL]
    exact ⟨⟨r.1, this.1⟩, by simpa using this.2⟩

theorem RdL.flat {Z' : Nat → Prop} : ∀ {ds : List D} {vs : List Value}, ds.all D.flat = true → RdL fid h Z ds vs → RdL fid h Z' ds vs
  | [], _, _, _ => by simp [RdL]
  | d :: ds, [], _, r => by simp [RdL] at r
  | d :: ds, v :: vs, hf, r => by
    simp only [RdL] at r ⊢
    simp only [List.all_cons, Bool.and_eq_true] at hf
    exact ⟨Rd.flat hf.1 r.1, RdL.flat hf.2 r.2⟩

theorem RdL.one : ∀ {ds : List D} {vs : List Value}, ds.all D.one = true → vs.length = ds.length → RdL fid h Z ds vs → ∀ v ∈ vs, v.oneCell' = true
  | [], [], _, _, _ => by simp
  | [], _ :: _, _, hl, _ => by simp at hl
  | d :: ds, [], _, _, r => by simp [RdL] at r
  | d :: ds, v :: vs, hf, hl, r => by
    simp only [RdL] at r
    simp only [List.all_cons, Bool.and_eq_true] at hf
    intro u hu
    rcases List.mem_cons.1 hu with rfl | hu
    · exact Rd.one hf.1 r.1
    · exact RdL.one hf.2 (by simpa using hl) r.2 u hu

theorem D.flat_one {d : D} (h : d.flat = true) : d.one = true := by cases d <;> simp_all [D.flat, D.one]

theorem all_flat_one : ∀ {ds : List D}, ds.all D.flat = true → ds.all D.one = true
  | [], _ => rfl
  | d :: ds, hf => by
    simp only [List.all_cons, Bool.and_eq_true] at hf ⊢
    exact ⟨D.flat_one hf.1, all_flat_one hf.2⟩

theorem eachV {O X : Nat → Prop} : ∀ {ds : List D} {vs : List Value} {B : List Nat}, Each (Own fid h O X .v) ds vs B ↔ B = [] ∧ RdL fid h (fun b => O b ∨ X b) ds vs
  | [], vs, B => by simp [Each, RdL]
  | d :: ds, [], B => by simp [Each, RdL]
  | d :: ds, v :: vs, B => by
    simp only [Each, RdL]
    constructor
    · rintro ⟨B1, B2, rfl, h1, h2⟩
      simp only [Own] at h1
      obtain ⟨rfl, h3⟩ := eachV.1 h2
      exact ⟨by simp [h1.1], h1.2, h3⟩
    · rintro ⟨rfl, h1, h2⟩
      exact ⟨[], [], rfl, by simp only [Own]; exact ⟨trivial, h1⟩, eachV.2 ⟨rfl, h2⟩⟩

/-- The elements of what is readable, as a row of values. -/
theorem Rd.news {ys : List D} {v : Value} (r : Rd fid h Z (.l ys) v) : ∃ news : List Value, ((v = .slice none 0 0 ∧ news = []) ∨ ∃ b off cap cs e fz, v = .slice (some ⟨b, off, none⟩) news.length cap ∧ ¬ Z b ∧ h[b]? = some (.cells cs e fz) ∧ ∀ (j : Nat) (u : Value), news[j]? = some u → cs[off + j]? = some u) ∧
    news.length = ys.length ∧ RdL fid h Z ys news := by
  simp only [Rd] at r
  rcases r with ⟨rfl, rfl⟩ | ⟨b, off, cap, cs, e, fz, rfl, hb, hz, hl, hn⟩
  · exact ⟨[], .inl ⟨rfl, rfl⟩, rfl, by simp [RdL]⟩
  · obtain ⟨h1, h2⟩ := RdL.take hl
    refine ⟨_, .inr ⟨b, off, cap, cs, e, fz, by rw [h2], hz, hb, ?_⟩, h2, h1⟩
    intro j u hj
    rw [List.getElem?_take] at hj
    split at hj
    · rwa [drop_get] at hj
    · cases hj
end

section
variable {cf : CF} {c : Cx} {F : Fact → Prop} {E : Nat → D} {a : Act} {w : World} {vs : Nat → Value} {Bs : Nat → List Nat} {cnt : Nat} {g : Gd} {sm : Sm} {st : List Fact} {o : Oper} {p : Pr}
  {K : Nat → List D → List D → Prop}

/-- The owned row of an entry. -/
def RowOf (h : Array Obj) (xs : List D) (sv : Value) (B : List Nat) (olds : List Value) : Prop :=
  (sv = .slice none 0 0 ∧ olds = [] ∧ B = []) ∨ ∃ b off cap cs e, B = [b] ∧ sv = .slice (some ⟨b, off, none⟩) olds.length cap ∧ h[b]? = some (.cells cs e (0, 0)) ∧ olds.length ≤ cap ∧ off + cap ≤ cs.size ∧ ∀ (j : Nat) (v : Value), olds[j]? = some v → cs[off + j]? = some v

theorem Own.olds {fid : Nat → Nat} {h : Array Obj} {O X : Nat → Prop} {xs : List D} {sv : Value} {B : List Nat} (r : Own fid h O X (.o .v) (.l xs) sv B) :
    ∃ olds : List Value, RowOf h xs sv B olds ∧ olds.length = xs.length ∧ RdL fid h (fun b => O b ∨ X b) xs olds := by
  simp only [Own] at r
  rcases r with ⟨r, _⟩ | ⟨ys, hy, r⟩
  · cases r
  injection hy with hy; subst hy
  rcases r with ⟨rfl, rfl, rfl⟩ | ⟨b, off, cap, cs, e, fz, B', rfl, rfl, hb, ht, h1, h2, h3, he⟩
  · exact ⟨[], .inl ⟨rfl, rfl, rfl⟩, rfl, by simp [RdL]⟩
  · obtain ⟨rfl, hr⟩ := eachV.1 he
    obtain ⟨k1, k2⟩ := RdL.take hr
    have hfz : fz = (0, 0) := ht
    subst hfz
    refine ⟨_, .inr ⟨b, off, cap, cs, e, rfl, by rw [k2], hb, by rw [k2]; exact h1, h2, ?_⟩, k2, k1⟩
    intro j u hj
    rw [List.getElem?_take] at hj
    split at hj
    · rwa [drop_get] at hj
    · cases hj

theorem nil_val {x : Operand} {s : Sh} {ns : List Fact} (h : opA cf st g x = some (.c (.l []), s, ns)) : a.eval x = .slice none 0 0 := by
  cases x with
  | const v =>
    simp only [opA, Option.map_eq_some_iff] at h
    obtain ⟨d, hd, h⟩ := h
    simp only [Prod.mk.injEq] at h
    obtain ⟨h1, _, _⟩ := h
    injection h1 with h1
    subst h1
    unfold constD at hd
    split at hd <;> try (injection hd with hd; cases hd)
    · split at hd
      · injection hd with hd; cases hd
      · cases hd
    · rfl
    · cases hd
  | func f =>
    simp only [opA, Option.map_eq_some_iff, Prod.mk.injEq] at h
    obtain ⟨k, hk, h1, _⟩ := h
    simp at h1
  | global f => simp [opA] at h
  | tmp t =>
    simp only [opA] at h
    split at h
    · split at h
      · simp only [Option.map_eq_some_iff, Prod.mk.injEq] at h
        obtain ⟨_, _, h1, _⟩ := h
        cases h1
      · cases h
    · cases h

/-- What is given up to a change. -/
theorem trRoot_sound {s : Operand} {α : A} {ks : List Nat} {ns : List Fact} (ht : trRoot cf st g s = some (α, ks, ns)) (h : At cf c F E a w vs Bs cnt g p sm) (hn : ∀ f ∈ ns, f ∈ sm.needs) {xs : List D} (hx : ev E α = .l xs) :
    ∃ B, Own c.fid w.heap (OB F Bs) c.Xb (.o .v) (.l xs) (a.eval s) B ∧ ((ks = [] ∧ B = []) ∨ ∃ n, ks = [n] ∧ α = .e n ∧ F (.en n (.o .v)) ∧ B = Bs n) := by
  unfold trRoot at ht
  simp only [Option.bind_eq_some_iff] at ht
  obtain ⟨⟨α1, s1, n1⟩, h1, ht⟩ := ht
  simp only at ht
  split at ht
  · rename_i n
    split at ht
    · rename_i hs
      subst hs
      simp only [Option.some.injEq, Prod.mk.injEq] at ht
      obtain ⟨rfl, rfl, rfl⟩ := ht
      obtain ⟨B, hB, hn'⟩ := h.opA h1 hn
      obtain ⟨k1, k2, k3⟩ := hn' n rfl
      rw [hx] at hB
      exact ⟨B, hB, .inr ⟨n, rfl, rfl, k1, k3⟩⟩
    · cases ht
  · simp only [Option.some.injEq, Prod.mk.injEq] at ht
    obtain ⟨rfl, rfl, rfl⟩ := ht
    have hv := nil_val (a := a) h1
    simp only [ev] at hx
    injection hx with hx
    subst hx
    rw [hv]
    exact ⟨[], Own.nil, .inl ⟨rfl, rfl⟩⟩
  · cases ht

theorem appD_spec {fl : Bool} {d1 d2 d : D} (h : appD fl d1 d2 = some d) : ∃ xs ys, d1 = .l xs ∧ d2 = .l ys ∧ d = .l (xs ++ ys) ∧ xs.length + ys.length ≤ 1099511627776 ∧ ys.all D.one = true ∧ (fl = true → ys.all D.flat = true) := by
  unfold appD at h
  split at h
  · rename_i xs ys
    by_cases hc : xs.length + ys.length ≤ big ∧ ys.all (if fl = true then D.flat else D.one) = true
    · rw [if_pos hc] at h
      obtain ⟨h1, h2⟩ := hc
      injection h with h
      refine ⟨xs, ys, rfl, rfl, h.symm, h1, ?_, ?_⟩
      · cases fl with
        | true => exact all_flat_one (by simpa using h2)
        | false => simpa using h2
      · rintro rfl; simpa using h2
    · rw [if_neg hc] at h; cases h
  · cases h

theorem trAp_sound {t : TypeId} {s x : Operand} (ho : o.op = .call { callee := .builtin .append, args := #[s, x], argTypes := #[t, t] }) (ht : trAp cf st cnt o g t s x = some (p, sm)) (h : At cf c F E a w vs Bs cnt g p sm) (hE : EvP K E cnt p) : StepOK c o sm F E a w := by
  unfold trAp at ht
  split at ht
  · rename_i e ti hel
    split at ht
    · rename_i hc
      obtain ⟨hz, hby, hin, hg⟩ := hc
      simp only [Option.bind_eq_some_iff] at ht
      obtain ⟨⟨α, ks, n1⟩, h1, ⟨β, s2, n2⟩, h2, ht⟩ := ht
      simp only at ht
      split at ht
      · rename_i hc2
        obtain ⟨hnk, hs2⟩ := hc2
        simp only [Option.some.injEq, Prod.mk.injEq] at ht
        obtain ⟨rfl, rfl⟩ := ht
        have hE' : appD (s2 == .y) (ev E α) (ev E β) = some (E cnt) := hE
        obtain ⟨xs, ys, e1, e2, e3, e4, e5, e6⟩ := appD_spec hE'
        obtain ⟨B, hB, hks⟩ := trRoot_sound h1 h (fun f hf => List.mem_append_left _ hf) e1
        obtain ⟨B2, hB2, hn2⟩ := h.opA h2 (fun f hf => List.mem_append_right _ hf)
        rw [e2] at hB2
        obtain ⟨olds, hrow, hol, hro⟩ := hB.olds
        have hlt : ∀ n s, F (.en n s) → ∀ b ∈ Bs n, b < w.heap.size := fun n s hs => Own.blocks_lt s _ _ _ (h.H.own n s hs)
        have hBO : ∀ b ∈ B, OB F Bs b := by
          intro b hb
          rcases hks with ⟨_, rfl⟩ | ⟨n, _, _, hn, rfl⟩
          · simp at hb
          · exact ⟨n, _, hn, hb⟩
        -- the elements that come
        obtain ⟨news, hnv, hnl, hnr⟩ : ∃ news : List Value, ((a.eval x = .slice none 0 0 ∧ news = []) ∨ ∃ b off cap cs e fz, a.eval x = .slice (some ⟨b, off, none⟩) news.length cap ∧ b ∉ B ∧ w.heap[b]? = some (.cells cs e fz) ∧ ∀ (j : Nat) (u : Value), news[j]? = some u → cs[off + j]? = some u) ∧
            news.length = ys.length ∧ RdL c.fid w.heap (fun b => OB F Bs b ∨ c.Xb b) ys news := by
          rcases hs2 with hs2 | hs2 | hs2
          · subst hs2
            simp only [Own] at hB2
            obtain ⟨news, k1, k2, k3⟩ := hB2.2.news
            refine ⟨news, ?_, k2, k3⟩
            rcases k1 with k1 | ⟨b, off, cap, cs, e, fz, q1, q2, q3, q4⟩
            · exact .inl k1
            · exact .inr ⟨b, off, cap, cs, e, fz, q1, fun hb => q2 (.inl (hBO b hb)), q3, q4⟩
          · subst hs2
            obtain ⟨news, k1, k2, k3⟩ := hB2.olds
            refine ⟨news, ?_, k2, k3⟩
            rcases k1 with ⟨q1, q2, _⟩ | ⟨b, off, cap, cs, e, q0, q1, q2, _, _, q4⟩
            · exact .inl ⟨q1, q2⟩
            · refine .inr ⟨b, off, cap, cs, e, _, q1, fun hb => ?_, q2, q4⟩
              cases hβ : β with
              | c d =>
                subst hβ
                have := opA_const h2
                cases x with
                | const v =>
                  simp only [opA, Option.map_eq_some_iff, Prod.mk.injEq] at h2
                  obtain ⟨_, _, _, q, _⟩ := h2; cases q
                | func v =>
                  simp only [opA, Option.map_eq_some_iff, Prod.mk.injEq] at h2
                  obtain ⟨_, _, _, q, _⟩ := h2; cases q
                | global v => simp [opA] at h2
                | tmp t =>
                  simp only [opA] at h2
                  split at h2
                  · split at h2
                    · simp only [Option.map_eq_some_iff, Prod.mk.injEq] at h2
                      obtain ⟨_, _, q, _⟩ := h2; cases q
                    · cases h2
                  · cases h2
              | e m =>
                obtain ⟨m1, m2, m3⟩ := hn2 m hβ
                rcases hks with ⟨_, rfl⟩ | ⟨n, rfl, _, hn, rfl⟩
                · simp at hb
                · have hne : m ≠ n := by
                    rintro rfl
                    rw [hβ] at hnk
                    simp [notKilled] at hnk
                  have hbm : b ∈ Bs m := by rw [← m3, q0]; simp
                  exact h.H.apart m _ n _ m1 hn hne b hbm hb
          · subst hs2
            simp only [Own] at hB2
            obtain ⟨news, k1, k2, k3⟩ := hB2.2.news
            refine ⟨news, ?_, k2, RdL.flat (e6 rfl) k3⟩
            rcases k1 with k1 | ⟨b, off, cap, cs, e, fz, q1, q2, q3, q4⟩
            · exact .inl k1
            · exact .inr ⟨b, off, cap, cs, e, fz, q1, fun hb => q2 (hBO b hb), q3, q4⟩
        have hP : c.P = cf.P := h.fits.P
        unfold zeroOne at hz
        split at hz
        · rename_i z hzz
          have hrow' := hrow
          unfold RowOf at hrow'
          obtain ⟨v', w', hr, w1, w2, w3, hres⟩ := run_app (P := c.P) (w := w) (ty := o.type) (hP ▸ hel) hzz (cells_one hz) hby (olds := olds) (news := news) (sv := a.eval s) (xv := a.eval x)
            (by
              rcases hrow' with ⟨q1, q2, _⟩ | ⟨b, off, cap, cs, e, _, q1, q2, q3, q4, q5⟩
              · exact .inl ⟨q1, q2⟩
              · exact .inr ⟨b, off, cap, cs, e, q1, q2, q3, q4, q5⟩)
            (by
              rcases hnv with q | ⟨b, off, cap, cs, e, fz, q1, _, q3, q4⟩
              · exact .inl q
              · exact .inr ⟨b, off, cap, q1, fun j v hj => by simp [World.cell?, q3, q4 j v hj]⟩)
            (RdL.one e5 hnl hnr) (by rw [hol, hnl]; exact e4)
          have hrun : (execOp a.eval o).run c.P w = .ok (.value v') w' := by
            rw [exec_builtin ho]
            show (Bind.bind (Builtin.append_ #[t, t] o.type (#[s, x].map a.eval)) _).run c.P w = _
            refine run_v ?_
            simpa using hr
          have hall := RdL.append hol hro hnr
          have hlen : (xs ++ ys).length = olds.length + news.length := by simp [hol, hnl]
          have hin' : inB o.dst c.nt = true := by rw [h.fits.nt]; exact hin
          have hfr : Fresh F cnt := by simpa using h.fresh 0 (by simp [Pr.np])
          have hkb : ∀ b ∈ B, ∃ n r, F (.en n r) ∧ n ∈ ks ∧ b ∈ Bs n := by
            intro b hb
            rcases hks with ⟨_, rfl⟩ | ⟨n, rfl, _, hn, rfl⟩
            · simp at hb
            · exact ⟨n, _, hn, by simp, hb⟩
          have hOk : ∀ N : Nat → Prop, (∀ b, b < w.heap.size → N b → b ∈ B) → ∀ b, b < w.heap.size → ((OBk F Bs (fun n => n ∈ ks) b ∨ N b) ∨ c.Xb b) → (OB F Bs b ∨ c.Xb b) := by
            rintro N hN b hb ((⟨n, s, q1, _, q3⟩ | q) | q)
            · exact .inl ⟨n, s, q1, q3⟩
            · exact .inl (hBO b (hN b hb q))
            · exact .inr q
          rcases hres with ⟨rfl, q1, q2, q3⟩ | ⟨gb, off, cap, cs, e', cs', q1, q2, rfl, q4, q5, q6, q7, q8, q9⟩ | ⟨cap, cs', rfl, q4, q5, q6, q9⟩
          · -- nil stays nil
            refine StepOK.of_value hrun ⟨upd vs cnt (.slice none 0 0), upd Bs cnt [], ?_⟩
            refine h.H.put hfr hin' ks (by rw [q3]; exact Agr.refl _ _) w1 w2 w3 ?_ (by simp) (by simp) h.g
            rw [e3]
            have hx0 : xs = [] := List.eq_nil_of_length_eq_zero (by rw [← hol, q1]; rfl)
            have hy0 : ys = [] := List.eq_nil_of_length_eq_zero (by rw [← hnl, q2]; rfl)
            subst hx0 hy0
            exact Own.nil
          · -- in place
            have hBg : B = [gb] := by
              rcases hrow with ⟨r1, _, _⟩ | ⟨b, off2, cap2, cs2, e2', r0, r1, r2, r3, r4, r5⟩
              · rw [q1] at r1; cases r1
              · rw [q1] at r1
                injection r1 with r1 _ _
                injection r1 with r1
                injection r1 with r1 _ _
                rw [r0, r1]
            have hoc : off + cap ≤ cs.size := by
              rcases hrow with ⟨r1, _, _⟩ | ⟨b, off2, cap2, cs2, e2', r0, r1, r2, r3, r4, r5⟩
              · rw [q1] at r1; cases r1
              · rw [q1] at r1
                injection r1 with r1 _ r1c
                injection r1 with r1
                injection r1 with r1 r1o _
                subst r1 r1c r1o
                rw [q2] at r2
                injection r2 with r2
                injection r2 with r2 _ _
                subst r2
                exact r4
            have hagr : Agr (fun b => b = gb) w.heap w'.heap := ⟨by rw [q8]; exact Nat.le_refl _, fun b _ hb => q7 b hb⟩
            refine StepOK.of_value hrun ⟨upd vs cnt (.slice (some ⟨gb, off, none⟩) (olds.length + news.length) cap), upd Bs cnt [gb], ?_⟩
            refine h.H.put hfr hin' ks (hagr.mono fun b _ hb => ?_) w1 w2 w3 ?_ (by simp) (fun b hb => .inl (hkb b (by rw [hBg]; exact hb))) h.g
            · subst hb; exact hkb b (by rw [hBg]; simp)
            · rw [e3]
              simp only [Own]
              refine .inr ⟨_, rfl, .inr ⟨gb, off, cap, cs', e', (0, 0), [], rfl, by rw [hlen], q6, rfl, by rw [hlen]; exact q4, by rw [q5]; exact hoc, by rw [hlen]; omega, eachV.2 ⟨rfl, ?_⟩⟩⟩
              refine RdL.ext (S := fun b => b = gb) (Z := fun b => OB F Bs b ∨ c.Xb b) hagr (fun b _ hb => .inl (hBO b (by rw [hBg, hb]; simp))) (hOk _ fun b _ hb => by rw [hBg]; exact hb) _ _ ?_
              refine RdL.congr (fun j v hj => ?_) hall
              rw [drop_get]; exact q9 j v hj
          · -- a new block
            have hagr : Agr (fun _ => False) w.heap w'.heap := by rw [q6]; exact Agr.push _ _
            have hnewb : w'.heap[w.heap.size]? = some (.cells cs' e (0, 0)) := by rw [q6]; simp
            refine StepOK.of_value hrun ⟨upd vs cnt (.slice (some ⟨w.heap.size, 0, none⟩) (olds.length + news.length) cap), upd Bs cnt [w.heap.size], ?_⟩
            refine h.H.put hfr hin' ks (hagr.mono fun _ _ q => q.elim) w1 w2 w3 ?_ (by simp) (fun b hb => .inr (by simp at hb; omega)) h.g
            rw [e3]
            simp only [Own]
            refine .inr ⟨_, rfl, .inr ⟨w.heap.size, 0, cap, cs', e, (0, 0), [], rfl, by rw [hlen], hnewb, rfl, by rw [hlen]; exact q4, by omega, by rw [hlen]; omega, eachV.2 ⟨rfl, ?_⟩⟩⟩
            refine RdL.ext (S := fun _ => False) (Z := fun b => OB F Bs b ∨ c.Xb b) hagr (fun _ _ q => q.elim) (hOk _ fun b hb q => by simp at q; omega) _ _ ?_
            refine RdL.congr (fun j v hj => ?_) hall
            rw [drop_get, Nat.zero_add]; exact q9 j v hj
        · cases hz
      · cases ht
    · cases ht
  · cases ht

end
end Go.Cat
