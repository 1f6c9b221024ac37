/-
  Parts of strings and of slices; bytes to a string; a tuple moved.
-/
import Derived.Test.YtddhlibpgnnanaaCatMemJ
import Derived.Laws.BytesString
import Derived.Laws.Slices
namespace Go.Cat
set_option linter.unusedVariables false

section
variable (cf : CF) (st : List Fact) (cnt : Nat) (o : Oper) (g : Gd)

def trO : Option Operand → Option (Option A × List Fact)
  | none => some (none, [])
  | some x => (opA cf st g x).map fun a => (some a.1, a.2.2)

def trSl (t : TypeId) (x : Operand) (lo hi mx : Option Operand) : Option (Pr × Sm) :=
  if mx.isSome then none else
  (opA cf st g x).bind fun a => (trO cf st g lo).bind fun l => (trO cf st g hi).bind fun h =>
    if isStr cf.P t = true then leafS cf cnt o g (.ss a.1 l.1 h.1) .v (a.2.2 ++ (l.2 ++ h.2))
    else if (elem1 cf.P t).isSome = true then
      if a.2.1 = .v then leafS cf cnt o g (.sb false a.1 l.1 h.1) .v (a.2.2 ++ (l.2 ++ h.2))
      else if a.2.1 = .y then leafS cf cnt o g (.sb false a.1 l.1 h.1) .y (a.2.2 ++ (l.2 ++ h.2))
      else if a.2.1 = .o .v ∧ g = [] ∧ inB o.dst cf.nt = true then match a.1 with
        | .e n => some (.sb true a.1 l.1 h.1, ⟨a.2.2 ++ (l.2 ++ h.2), [n], one cnt (.o .v) o.dst (.is cnt g)⟩)
        | .c _ => none
      else none
    else none

def isBytes (P : Program) (t : TypeId) : Bool := match elem1 P t with
  | some (e, _) => match P.underlying e with
    | some (.int .u8) => true
    | _ => false
  | none => false

def trBs (s d : TypeId) (x : Operand) : Option (Pr × Sm) :=
  if isBytes cf.P s = true ∧ isStr cf.P d = true then (opA cf st g x).bind fun a => leafS cf cnt o g (.bs a.1) .v a.2.2
  else none

def trTu (x : Operand) : Option (Pr × Sm) :=
  match x, o.dst with
  | .tmp t, some d => if d < cf.nt then match findSl st t with
    | some (.tu ns g') => if g'.isPrefixOf g then some (.nop, ⟨[.sl t (.tu ns g')], [], [.sl d (.tu ns g)]⟩) else none
    | _ => none
    else none
  | _, _ => none
end

section
variable {P : Program} {w : World}

theorem run_bounds {isS : Bool} {len cap : Nat} {lo hi : Option Value} {l h : Nat} (hlo : (lo = none ∧ l = 0) ∨ ∃ k, lo = some (.int k (l : Int))) (hhi : (hi = none ∧ h = len) ∨ ∃ k, hi = some (.int k (h : Int)))
    (h1 : l ≤ h) (h2 : h ≤ cap) : (Instr.sliceBounds isS len cap lo hi none).run P w = .ok (l, h, cap) w := by
  rcases hlo with ⟨rfl, rfl⟩ | ⟨k1, rfl⟩ <;> rcases hhi with ⟨rfl, rfl⟩ | ⟨k2, rfl⟩
  · simp [Instr.sliceBounds]
  · simp [Instr.sliceBounds, run_sliceBound, h2]
  · simp [Instr.sliceBounds, run_sliceBound, h1]
  · simp [Instr.sliceBounds, run_sliceBound, h1, h2]

theorem run_sl {t e : TypeId} {ti : TypeInfo} (hel : elem1 P t = some (e, ti)) {a : Option Addr} {len cap : Nat} {lo hi : Option Value} {l h : Nat}
    (hlo : (lo = none ∧ l = 0) ∨ ∃ k, lo = some (.int k (l : Int))) (hhi : (hi = none ∧ h = len) ∨ ∃ k, hi = some (.int k (h : Int))) (h1 : l ≤ h) (h2 : h ≤ cap) :
    (Instr.sliceAt t (.slice a len cap) lo hi none).run P w = .ok (.slice (if cap = l then a else a.map (·.add l)) (h - l) (cap - l)) w := by
  obtain ⟨g1, g2, g3⟩ := elem1_spec hel
  have := run_bounds (P := P) (w := w) (isS := true) hlo hhi h1 h2
  simp [Instr.sliceAt, Instr.slice, run_underlying g1, this, sizeOf, typeInfo, g2, g3]

theorem run_ss {t : TypeId} (ht : P.underlying t = some .string) {s : ByteArray} {lo hi : Option Value} {l h : Nat}
    (hlo : (lo = none ∧ l = 0) ∨ ∃ k, lo = some (.int k (l : Int))) (hhi : (hi = none ∧ h = s.size) ∨ ∃ k, hi = some (.int k (h : Int))) (h1 : l ≤ h) (h2 : h ≤ s.size) :
    (Instr.sliceAt t (.string s) lo hi none).run P w = .ok (.string (s.extract l h)) w := by
  have := run_bounds (P := P) (w := w) (isS := false) hlo hhi h1 h2
  simp [Instr.sliceAt, Instr.slice, run_underlying ht, this]

theorem strV_extract (x : List Nat) (l h : Nat) : Value.string ((⟨(x.map fun c => UInt8.ofNat c).toArray⟩ : ByteArray).extract l h) = strV ((x.take h).drop l) := by
  unfold strV
  congr 1
  apply ByteArray.ext
  simp only [ByteArray.data_extract]
  apply Array.ext'
  simp [List.map_drop, List.map_take, List.drop_take]
end

theorem bound_spec {E : Nat → D} {oa : Option A} {dflt n : Nat} (h : bound (oa.map (ev E)) dflt = some n) : (oa = none ∧ n = dflt) ∨ ∃ α k, oa = some α ∧ ev E α = .i k (n : Int) := by
  cases oa with
  | none => simp [bound] at h; exact .inl ⟨rfl, h.symm⟩
  | some α =>
    simp only [Option.map_some, bound] at h
    split at h
    · rename_i h'; cases h'
    · rename_i k z h'
      split at h
      · rename_i hz
        injection h with h
        injection h' with h'
        exact .inr ⟨α, k, rfl, by rw [h', ← h, Int.toNat_of_nonneg hz]⟩
      · cases h
    · cases h

section
variable {cf : CF} {c : Cx} {F : Fact → Prop} {E : Nat → D} {a : Act} {w : World} {vs : Nat → Value} {Bs : Nat → List Nat} {cnt : Nat} {g : Gd} {sm : Sm} {st : List Fact} {o : Oper} {p : Pr}
  {K : Nat → List D → List D → Prop}

theorem trO_sound {x : Option Operand} {oa : Option A} {ns : List Fact} (ht : trO cf st g x = some (oa, ns)) (h : At cf c F E a w vs Bs cnt g p sm) (hn : ∀ f ∈ ns, f ∈ sm.needs) {dflt n : Nat} (hb : bound (oa.map (ev E)) dflt = some n) :
    (x.map a.eval = none ∧ n = dflt) ∨ ∃ k, x.map a.eval = some (.int k (n : Int)) := by
  cases x with
  | none =>
    simp only [trO, Option.some.injEq, Prod.mk.injEq] at ht
    obtain ⟨rfl, rfl⟩ := ht
    simp [bound] at hb
    exact .inl ⟨rfl, hb.symm⟩
  | some x =>
    simp only [trO, Option.map_eq_some_iff, Prod.mk.injEq] at ht
    obtain ⟨⟨α, s, n1⟩, h1, rfl, rfl⟩ := ht
    rcases bound_spec hb with ⟨q, _⟩ | ⟨α', k, q, he⟩
    · cases q
    · injection q with q; subst q
      obtain ⟨B, hB, _⟩ := h.opA h1 hn
      rw [he] at hB
      exact .inr ⟨k, by simp [hB.int]⟩

theorem RdL.part {fid : Nat → Nat} {h : Array Obj} {Z : Nat → Prop} : ∀ (l : Nat) {ds : List D} {vs : List Value}, RdL fid h Z ds vs → RdL fid h Z (ds.drop l) (vs.drop l)
  | 0, ds, vs, r => by simpa using r
  | l + 1, [], vs, _ => by simp [RdL]
  | l + 1, d :: ds, [], r => by simp [RdL] at r
  | l + 1, d :: ds, v :: vs, r => by
    simp only [RdL] at r
    simpa using RdL.part l r.2

theorem RdL.head {fid : Nat → Nat} {h : Array Obj} {Z : Nat → Prop} : ∀ (l : Nat) {ds : List D} {vs : List Value}, RdL fid h Z ds vs → RdL fid h Z (ds.take l) vs
  | 0, ds, vs, r => by simp [RdL]
  | l + 1, [], vs, _ => by simp [RdL]
  | l + 1, d :: ds, [], r => by simp [RdL] at r
  | l + 1, d :: ds, v :: vs, r => by
    simp only [RdL, List.take_succ_cons] at r ⊢
    exact ⟨r.1, RdL.head l r.2⟩

theorem subD_spec {d d' : D} {lo hi : Option D} (h : subD d lo hi = some d') : ∃ xs l r, d = .l xs ∧ bound lo 0 = some l ∧ bound hi xs.length = some r ∧ l ≤ r ∧ r ≤ xs.length ∧ d' = .l ((xs.take r).drop l) := by
  unfold subD at h
  split at h
  · rename_i xs
    split at h
    · rename_i l r h1 h2
      split at h
      · rename_i hc
        injection h with h
        exact ⟨xs, l, r, rfl, h1, h2, hc.1, hc.2, h.symm⟩
      · cases h
    · cases h
  · cases h

theorem ssD_spec {d d' : D} {lo hi : Option D} (h : ssD d lo hi = some d') : ∃ xs l r, d = .s xs ∧ bound lo 0 = some l ∧ bound hi xs.length = some r ∧ l ≤ r ∧ r ≤ xs.length ∧ d' = .s ((xs.take r).drop l) := by
  unfold ssD at h
  split at h
  · rename_i xs
    split at h
    · rename_i l r h1 h2
      split at h
      · rename_i hc
        injection h with h
        exact ⟨xs, l, r, rfl, h1, h2, hc.1, hc.2, h.symm⟩
      · cases h
    · cases h
  · cases h

theorem Rd.sub {fid : Nat → Nat} {h : Array Obj} {Z : Nat → Prop} {xs : List D} {v : Value} {l r : Nat} (hr : Rd fid h Z (.l xs) v) (h1 : l ≤ r) (h2 : r ≤ xs.length) :
    ∃ ad cap, v = .slice ad xs.length cap ∧ r ≤ cap ∧ Rd fid h Z (.l ((xs.take r).drop l)) (.slice (if cap = l then ad else ad.map (·.add l)) (r - l) (cap - l)) := by
  simp only [Rd] at hr
  rcases hr with ⟨rfl, rfl⟩ | ⟨b, off, cap, cs, e, fz, rfl, hb, hz, hl, hn⟩
  · simp at h2
    subst h2
    have : l = 0 := by omega
    subst this
    exact ⟨none, 0, rfl, by omega, by simp [Rd]⟩
  · refine ⟨_, cap, rfl, by omega, ?_⟩
    simp only [Rd]
    have hlen : ((xs.take r).drop l).length = r - l := by simp; omega
    by_cases hc : cap = l
    · have : r = l := by omega
      subst this
      refine .inr ⟨b, off, 0, cs, e, fz, by simp [hc], hb, hz, ?_, by simp⟩
      have : (xs.take r).drop r = [] := List.eq_nil_of_length_eq_zero (by rw [hlen]; omega)
      rw [this]; simp [RdL]
    · refine .inr ⟨b, off + l, cap - l, cs, e, fz, by simp [hc, Addr.add_lit]; omega, hb, hz, ?_, by rw [hlen]; omega⟩
      have := RdL.part l (RdL.head r hl)
      rwa [List.drop_drop] at this

theorem isStr_und {P : Program} {t : TypeId} (h : isStr P t = true) : P.underlying t = some .string := by
  unfold isStr at h
  split at h
  · assumption
  · cases h

theorem exec_slice {t : TypeId} {x : Operand} {lo hi : Option Operand} (ho : o.op = .slice t x lo hi none) {v : Value} (h : (Instr.sliceAt t (a.eval x) (lo.map a.eval) (hi.map a.eval) none).run c.P w = .ok v w) : (execOp a.eval o).run c.P w = .ok (.value v) w := by
  simp only [execOp, ho]
  exact run_v h

theorem trSl_sound {t : TypeId} {x : Operand} {lo hi mx : Option Operand} (ho : o.op = .slice t x lo hi mx) (ht : trSl cf st cnt o g t x lo hi mx = some (p, sm)) (h : At cf c F E a w vs Bs cnt g p sm) (hE : EvP K E cnt p) : StepOK c o sm F E a w := by
  unfold trSl at ht
  split at ht
  · cases ht
  · rename_i hmx
    have hmx : mx = none := by cases mx <;> simp_all
    subst hmx
    simp only [Option.bind_eq_some_iff] at ht
    obtain ⟨⟨α, sx, n1⟩, h1, ⟨l1, n2⟩, h2, ⟨r1, n3⟩, h3, ht⟩ := ht
    simp only at ht
    have hP : c.P = cf.P := h.fits.P
    split at ht
    · rename_i hstr
      obtain ⟨rfl, hi', rfl⟩ := leafS_eq ht
      have hE' : ssD (ev E α) (l1.map (ev E)) (r1.map (ev E)) = some (E cnt) := hE
      obtain ⟨xs, l, r, e1, e2, e3, e4, e5, e6⟩ := ssD_spec hE'
      obtain ⟨B, hB, _⟩ := h.opA h1 (fun f hf => List.mem_append_left _ hf)
      rw [e1] at hB
      obtain ⟨k1, k2, k3⟩ := hB.str
      have b1 := trO_sound h2 h (fun f hf => List.mem_append_right _ (List.mem_append_left _ hf)) e2
      have b2 := trO_sound h3 h (fun f hf => List.mem_append_right _ (List.mem_append_right _ hf)) e3
      refine leaf_step h hi' (same_world w) (v := strV ((xs.take r).drop l)) (exec_slice ho ?_) (Own.of_rd fun Z => ?_)
      · rw [k1, ← strV_extract]
        exact run_ss (by rw [hP]; exact isStr_und hstr) b1 (by rw [strV_size]; exact b2) e4 (by rw [strV_size]; exact e5)
      · rw [e6]
        simp only [Rd]
        refine ⟨trivial, fun c hc => k2 c (List.mem_of_mem_take (List.mem_of_mem_drop hc)), ?_⟩
        simp; omega
    · split at ht
      · rename_i hel
        obtain ⟨⟨e, ti⟩, hel⟩ := Option.isSome_iff_exists.1 hel
        split at ht
        · rename_i hsx
          subst hsx
          obtain ⟨rfl, hi', rfl⟩ := leafS_eq ht
          have hE' : subD (ev E α) (l1.map (ev E)) (r1.map (ev E)) = some (E cnt) := hE
          obtain ⟨xs, l, r, e1, e2, e3, e4, e5, e6⟩ := subD_spec hE'
          obtain ⟨B, hB, _⟩ := h.opA h1 (fun f hf => List.mem_append_left _ hf)
          rw [e1] at hB
          have b1 := trO_sound h2 h (fun f hf => List.mem_append_right _ (List.mem_append_left _ hf)) e2
          have b2 := trO_sound h3 h (fun f hf => List.mem_append_right _ (List.mem_append_right _ hf)) e3
          simp only [Own] at hB
          obtain ⟨ad, cap, hv, hrc, hr⟩ := hB.2.sub e4 e5
          refine leaf_step h hi' (same_world w) (exec_slice ho (by rw [hv]; exact run_sl (by rw [hP]; exact hel) b1 b2 e4 hrc)) ?_
          rw [e6]; simp only [Own]; exact ⟨trivial, hr⟩
        · split at ht
          · rename_i hsx
            subst hsx
            obtain ⟨rfl, hi', rfl⟩ := leafS_eq ht
            have hE' : subD (ev E α) (l1.map (ev E)) (r1.map (ev E)) = some (E cnt) := hE
            obtain ⟨xs, l, r, e1, e2, e3, e4, e5, e6⟩ := subD_spec hE'
            obtain ⟨B, hB, _⟩ := h.opA h1 (fun f hf => List.mem_append_left _ hf)
            rw [e1] at hB
            have b1 := trO_sound h2 h (fun f hf => List.mem_append_right _ (List.mem_append_left _ hf)) e2
            have b2 := trO_sound h3 h (fun f hf => List.mem_append_right _ (List.mem_append_right _ hf)) e3
            simp only [Own] at hB
            obtain ⟨ad, cap, hv, hrc, hr⟩ := hB.2.sub e4 e5
            refine leaf_step h hi' (same_world w) (exec_slice ho (by rw [hv]; exact run_sl (by rw [hP]; exact hel) b1 b2 e4 hrc)) ?_
            rw [e6]; simp only [Own]; exact ⟨trivial, hr⟩
          · split at ht
            · rename_i hsx
              obtain ⟨hsx, hg0, hin⟩ := hsx
              subst hsx
              split at ht
              · rename_i n
                simp only [Option.some.injEq, Prod.mk.injEq] at ht
                obtain ⟨rfl, rfl⟩ := ht
                have hE' : subD (ev E (.e n)) (l1.map (ev E)) (r1.map (ev E)) = some (E cnt) := hE
                obtain ⟨xs, l, r, e1, e2, e3, e4, e5, e6⟩ := subD_spec hE'
                obtain ⟨B, hB, hn'⟩ := h.opA h1 (fun f hf => List.mem_append_left _ hf)
                obtain ⟨k1, k2, k3⟩ := hn' n rfl
                rw [e1] at hB
                have b1 := trO_sound h2 h (fun f hf => List.mem_append_right _ (List.mem_append_left _ hf)) e2
                have b2 := trO_sound h3 h (fun f hf => List.mem_append_right _ (List.mem_append_right _ hf)) e3
                have hlen : ((xs.take r).drop l).length = r - l := by simp; omega
                have hfr : Fresh F cnt := by simpa using h.fresh 0 (by simp [Pr.np])
                have hin' : inB o.dst c.nt = true := by rw [h.fits.nt]; exact hin
                have hOk : ∀ b, b < w.heap.size → (OBk F Bs (fun k => k ∈ [n]) b ∨ b ∈ B) → OB F Bs b := by
                  rintro b _ (⟨m, s, q1, _, q3⟩ | q)
                  · exact ⟨m, s, q1, q3⟩
                  · exact ⟨n, _, k1, k3 ▸ q⟩
                have hB' := hB
                simp only [Own] at hB
                rcases hB with ⟨q, _⟩ | ⟨ys, hy, hB⟩
                · cases q
                injection hy with hy; subst hy
                rcases hB with ⟨hv, rfl, rfl⟩ | ⟨b, off, cap, cs, e', fz, B', rfl, hv, hb, htw, q1, q2, q3, he⟩
                · simp at e5
                  subst e5
                  have : l = 0 := by omega
                  subst this
                  have hrun := exec_slice (c := c) (w := w) (a := a) ho (by rw [hv]; exact run_sl (by rw [hP]; exact hel) b1 b2 e4 (Nat.le_refl 0))
                  refine StepOK.of_value hrun ⟨upd vs cnt _, upd Bs cnt [], h.H.put hfr hin' [n] (Agr.refl _ _) rfl rfl rfl ?_ (by simp) (by simp) h.g⟩
                  rw [e6]
                  simpa using Own.nil
                · have hrun := exec_slice (c := c) (w := w) (a := a) ho (by rw [hv]; exact run_sl (by rw [hP]; exact hel) b1 b2 e4 (show r ≤ cap by omega))
                  refine StepOK.of_value hrun ⟨upd vs cnt _, upd Bs cnt (b :: B'), h.H.put hfr hin' [n] (Agr.refl _ _) rfl rfl rfl ?_ (by rw [k3]; exact h.H.nodup n _ k1) (fun k hk => .inl ⟨n, _, k1, by simp, k3 ▸ hk⟩) h.g⟩
                  rw [e6]
                  obtain ⟨rfl, hrd⟩ := eachV.1 he
                  have hrd' : RdL c.fid w.heap (fun k => (OBk F Bs (fun k => k ∈ [n]) k ∨ k ∈ [b]) ∨ c.Xb k) xs (cs.toList.drop off) :=
                    RdL.mono hrd fun k hk q => q.imp (hOk k hk) id
                  simp only [Own]
                  refine .inr ⟨_, rfl, .inr ?_⟩
                  by_cases hc : cap = l
                  · have : r = l := by omega
                    subst this
                    have h0 : (xs.take r).drop r = [] := List.eq_nil_of_length_eq_zero (by rw [hlen]; omega)
                    rw [h0]
                    refine ⟨b, off, 0, cs, e', fz, [], rfl, by simp [hc], hb, htw, by simp, by omega, by simp, by simp [Each]⟩
                  · refine ⟨b, off + l, cap - l, cs, e', fz, [], rfl, by rw [hlen]; simp [hc, Addr.add_lit], hb, htw, by rw [hlen]; omega, by omega, by rw [hlen]; omega, eachV.2 ⟨rfl, ?_⟩⟩
                    have := RdL.part l (RdL.head r hrd')
                    rwa [List.drop_drop] at this
              · cases ht
            · cases ht
      · cases ht

end
end Go.Cat
