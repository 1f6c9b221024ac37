/-
  Parts of strings and of slices; bytes to a string; a tuple moved.
-/
import Derived.Test.YtfjkbocblpjpjaaCatOne
import Derived.Laws.BytesString
import Derived.Laws.Slices
import Derived.Laws.Rows
import Derived.Laws.Pointers
namespace Go.Cat
set_option linter.unusedVariables false

section
variable (cf : CF) (st : List Fact) (cnt : Nat) (o : Oper) (g : Gd)

def trO : Option Operand → Option (Option A × List Fact)
  | none => some (none, [])
  | some x => (opA cf st g x).map fun a => (some a.1, a.2.2)

def trSl (t : TypeId) (x : Operand) (lo hi mx : Option Operand) : Option (Pr × Sm) :=
  if mx.isSome then none else
  (opA cf st g x).bind fun a => (trO cf st g lo).bind fun l => (trO cf st g hi).bind fun h =>
    if isStr cf.P t = true then leafS cf cnt o g (.ss a.1 l.1 h.1) .v (a.2.2 ++ (l.2 ++ h.2))
    else if (elem1 cf.P t).isSome = true then
      if a.2.1 = .v then leafS cf cnt o g (.sb false a.1 l.1 h.1) .v (a.2.2 ++ (l.2 ++ h.2))
      else if a.2.1 = .y then leafS cf cnt o g (.sb false a.1 l.1 h.1) .y (a.2.2 ++ (l.2 ++ h.2))
      else if a.2.1 = .o .v ∧ g = [] ∧ inB o.dst cf.nt = true then match a.1 with
        | .e n => some (.sb true a.1 l.1 h.1, ⟨a.2.2 ++ (l.2 ++ h.2), [n], one cnt (.o .v) o.dst (.is cnt g)⟩)
        | .c _ => none
      else none
    else none

def isBytes (P : Program) (t : TypeId) : Bool := match elem1 P t with
  | some (e, _) => match P.underlying e with
    | some (.int .u8) => true
    | _ => false
  | none => false

def trBs (s d : TypeId) (x : Operand) : Option (Pr × Sm) :=
  if isBytes cf.P s = true ∧ isStr cf.P d = true then (opA cf st g x).bind fun a => leafS cf cnt o g (.bs a.1) .v a.2.2
  else none

def trTu (x : Operand) : Option (Pr × Sm) :=
  match x, o.dst with
  | .tmp t, some d => if d < cf.nt then match findSl st t with
    | some (.tu ns g') => if g'.isPrefixOf g then some (.nop, ⟨[.sl t (.tu ns g')], [], [.sl d (.tu ns g)]⟩) else none
    | _ => none
    else none
  | _, _ => none
end

section
variable {P : Program} {w : World}

theorem run_bounds {isS : Bool} {len cap : Nat} {lo hi : Option Value} {l h : Nat} (hlo : (lo = none ∧ l = 0) ∨ ∃ k, lo = some (.int k (l : Int))) (hhi : (hi = none ∧ h = len) ∨ ∃ k, hi = some (.int k (h : Int)))
    (h1 : l ≤ h) (h2 : h ≤ cap) : (Instr.sliceBounds isS len cap lo hi none).run P w = .ok (l, h, cap) w := by
  rcases hlo with ⟨rfl, rfl⟩ | ⟨k1, rfl⟩ <;> rcases hhi with ⟨rfl, rfl⟩ | ⟨k2, rfl⟩
  · simp [Instr.sliceBounds]
  · simp [Instr.sliceBounds, run_sliceBound, h2]
  · simp [Instr.sliceBounds, run_sliceBound, h1]
  · simp [Instr.sliceBounds, run_sliceBound, h1, h2]

theorem run_sl {t e : TypeId} {ti : TypeInfo} (hel : elem1 P t = some (e, ti)) {a : Option Addr} {len cap : Nat} {lo hi : Option Value} {l h : Nat}
    (hlo : (lo = none ∧ l = 0) ∨ ∃ k, lo = some (.int k (l : Int))) (hhi : (hi = none ∧ h = len) ∨ ∃ k, hi = some (.int k (h : Int))) (h1 : l ≤ h) (h2 : h ≤ cap) :
    (Instr.sliceAt t (.slice a len cap) lo hi none).run P w = .ok (.slice (if cap = l then a else a.map (·.add l)) (h - l) (cap - l)) w := by
  obtain ⟨g1, g2, g3⟩ := elem1_spec hel
  have := run_bounds (P := P) (w := w) (isS := true) hlo hhi h1 h2
  simp [Instr.sliceAt, Instr.slice, run_underlying g1, this, sizeOf, typeInfo, g2, g3]

theorem run_ss {t : TypeId} (ht : P.underlying t = some .string) {s : ByteArray} {lo hi : Option Value} {l h : Nat}
    (hlo : (lo = none ∧ l = 0) ∨ ∃ k, lo = some (.int k (l : Int))) (hhi : (hi = none ∧ h = s.size) ∨ ∃ k, hi = some (.int k (h : Int))) (h1 : l ≤ h) (h2 : h ≤ s.size) :
    (Instr.sliceAt t (.string s) lo hi none).run P w = .ok (.string (s.extract l h)) w := by
  have := run_bounds (P := P) (w := w) (isS := false) hlo hhi h1 h2
  simp [Instr.sliceAt, Instr.slice, run_underlying ht, this]

theorem strV_extract (x : List Nat) (l h : Nat) : Value.string ((⟨(x.map fun c => UInt8.ofNat c).toArray⟩ : ByteArray).extract l h) = strV ((x.take h).drop l) := by
  unfold strV
  congr 1
  apply ByteArray.ext
  simp only [ByteArray.data_extract]
  apply Array.ext'
  simp [List.map_drop, List.map_take, List.drop_take]
end

theorem bound_spec {E : Nat → D} {oa : Option A} {dflt n : Nat} (h : bound (oa.map (ev E)) dflt = some n) : (oa = none ∧ n = dflt) ∨ ∃ α k, oa = some α ∧ ev E α = .i k (n : Int) := by
  cases oa with
  | none => simp [bound] at h; exact .inl ⟨rfl, h.symm⟩
  | some α =>
    simp only [Option.map_some, bound] at h
    split at h
    · rename_i h'; cases h'
    · rename_i k z h'
      split at h
      · rename_i hz
        injection h with h
        injection h' with h'
        exact .inr ⟨α, k, rfl, by rw [h', ← h, Int.toNat_of_nonneg hz]⟩
      · cases h
    · cases h

section
variable {cf : CF} {c : Cx} {F : Fact → Prop} {E : Nat → D} {a : Act} {w : World} {vs : Nat → Value} {Bs : Nat → List Nat} {cnt : Nat} {g : Gd} {sm : Sm} {st : List Fact} {o : Oper} {p : Pr}
  {K : Nat → List D → List D → Prop}

theorem trO_sound {x : Option Operand} {oa : Option A} {ns : List Fact} (ht : trO cf st g x = some (oa, ns)) (h : At cf c F E a w vs Bs cnt g p sm) (hn : ∀ f ∈ ns, f ∈ sm.needs) {dflt n : Nat} (hb : bound (oa.map (ev E)) dflt = some n) :
    (x.map a.eval = none ∧ n = dflt) ∨ ∃ k, x.map a.eval = some (.int k (n : Int)) := by
  cases x with
  | none =>
    simp only [trO, Option.some.injEq, Prod.mk.injEq] at ht
    obtain ⟨rfl, rfl⟩ := ht
    simp [bound] at hb
    exact .inl ⟨rfl, hb.symm⟩
  | some x =>
    simp only [trO, Option.map_eq_some_iff, Prod.mk.injEq] at ht
    obtain ⟨⟨α, s, n1⟩, h1, rfl, rfl⟩ := ht
    rcases bound_spec hb with ⟨q, _⟩ | ⟨α', k, q, he⟩
    · cases q
    · injection q with q; subst q
      obtain ⟨B, hB, _⟩ := h.opA h1 hn
      rw [he] at hB
      exact .inr ⟨k, by simp [hB.int]⟩

theorem RdL.part {fid : Nat → Nat} {h : Array Obj} {Z : Nat → Prop} : ∀ (l : Nat) {ds : List D} {vs : List Value}, RdL fid h Z ds vs → RdL fid h Z (ds.drop l) (vs.drop l)
  | 0, ds, vs, r => by simpa using r
  | l + 1, [], vs, _ => by simp [RdL]
  | l + 1, d :: ds, [], r => by simp [RdL] at r
  | l + 1, d :: ds, v :: vs, r => by
    simp only [RdL] at r
    simpa using RdL.part l r.2

theorem RdL.head {fid : Nat → Nat} {h : Array Obj} {Z : Nat → Prop} : ∀ (l : Nat) {ds : List D} {vs : List Value}, RdL fid h Z ds vs → RdL fid h Z (ds.take l) vs
  | 0, ds, vs, r => by simp [RdL]
  | l + 1, [], vs, _ => by simp [RdL]
  | l + 1, d :: ds, [], r => by simp [RdL] at r
  | l + 1, d :: ds, v :: vs, r => by
    simp only [RdL, List.take_succ_cons] at r ⊢
    exact ⟨r.1, RdL.head l r.2⟩

theorem subD_spec {d d' : D} {lo hi : Option D} (h : subD d lo hi = some d') : ∃ xs l r, d = .l xs ∧ bound lo 0 = some l ∧ bound hi xs.length = some r ∧ l ≤ r ∧ r ≤ xs.length ∧ d' = .l ((xs.take r).drop l) := by
  unfold subD at h
  split at h
  · rename_i xs
    split at h
    · rename_i l r h1 h2
      split at h
      · rename_i hc
        injection h with h
        exact ⟨xs, l, r, rfl, h1, h2, hc.1, hc.2, h.symm⟩
      · cases h
    · cases h
  · cases h

theorem ssD_spec {d d' : D} {lo hi : Option D} (h : ssD d lo hi = some d') : ∃ xs l r, d = .s xs ∧ bound lo 0 = some l ∧ bound hi xs.length = some r ∧ l ≤ r ∧ r ≤ xs.length ∧ d' = .s ((xs.take r).drop l) := by
  unfold ssD at h
  split at h
  · rename_i xs
    split at h
    · rename_i l r h1 h2
      split at h
      · rename_i hc
        injection h with h
        exact ⟨xs, l, r, rfl, h1, h2, hc.1, hc.2, h.symm⟩
      · cases h
    · cases h
  · cases h

theorem Rd.sub {fid : Nat → Nat} {h : Array Obj} {Z : Nat → Prop} {xs : List D} {v : Value} {l r : Nat} (hr : Rd fid h Z (.l xs) v) (h1 : l ≤ r) (h2 : r ≤ xs.length) :
    ∃ ad cap, v = .slice ad xs.length cap ∧ r ≤ cap ∧ Rd fid h Z (.l ((xs.take r).drop l)) (.slice (if cap = l then ad else ad.map (·.add l)) (r - l) (cap - l)) := by
  simp only [Rd] at hr
  rcases hr with ⟨rfl, rfl⟩ | ⟨b, off, cap, cs, e, fz, rfl, hb, hz, hl, hn⟩
  · simp at h2
    subst h2
    have : l = 0 := by omega
    subst this
    exact ⟨none, 0, rfl, by omega, by simp [Rd]⟩
  · refine ⟨_, cap, rfl, by omega, ?_⟩
    simp only [Rd]
    have hlen : ((xs.take r).drop l).length = r - l := by simp; omega
    by_cases hc : cap = l
    · have : r = l := by omega
      subst this
      refine .inr ⟨b, off, 0, cs, e, fz, by simp [hc], hb, hz, ?_, by simp⟩
      have : (xs.take r).drop r = [] := List.eq_nil_of_length_eq_zero (by rw [hlen]; omega)
      rw [this]; simp [RdL]
    · refine .inr ⟨b, off + l, cap - l, cs, e, fz, by simp [hc, Addr.add_lit]; omega, hb, hz, ?_, by rw [hlen]; omega⟩
      have := RdL.part l (RdL.head r hl)
      rwa [List.drop_drop] at this

theorem isStr_und {P : Program} {t : TypeId} (h : isStr P t = true) : P.underlying t = some .string := by
  unfold isStr at h
  split at h
  · assumption
  · cases h

theorem exec_slice {t : TypeId} {x : Operand} {lo hi : Option Operand} (ho : o.op = .slice t x lo hi none) {v : Value} (h : (Instr.sliceAt t (a.eval x) (lo.map a.eval) (hi.map a.eval) none).run c.P w = .ok v w) : (execOp a.eval o).run c.P w = .ok (.value v) w := by
  simp only [execOp, ho]
  exact run_v h

theorem trSl_sound {t : TypeId} {x : Operand} {lo hi mx : Option Operand} (ho : o.op = .slice t x lo hi mx) (ht : trSl cf st cnt o g t x lo hi mx = some (p, sm)) (h : At cf c F E a w vs Bs cnt g p sm) (hE : EvP K E cnt p) : StepOK c o sm F E a w := by
  unfold trSl at ht
  split at ht
  · cases ht
  · rename_i hmx
    have hmx : mx = none := by cases mx <;> simp_all
    subst hmx
    simp only [Option.bind_eq_some_iff] at ht
    obtain ⟨⟨α, sx, n1⟩, h1, ⟨l1, n2⟩, h2, ⟨r1, n3⟩, h3, ht⟩ := ht
    simp only at ht
    have hP : c.P = cf.P := h.fits.P
    split at ht
    · rename_i hstr
      obtain ⟨rfl, hi', rfl⟩ := leafS_eq ht
      have hE' : ssD (ev E α) (l1.map (ev E)) (r1.map (ev E)) = some (E cnt) := hE
      obtain ⟨xs, l, r, e1, e2, e3, e4, e5, e6⟩ := ssD_spec hE'
      obtain ⟨B, hB, _⟩ := h.opA h1 (fun f hf => List.mem_append_left _ hf)
      rw [e1] at hB
      obtain ⟨k1, k2, k3⟩ := hB.str
      have b1 := trO_sound h2 h (fun f hf => List.mem_append_right _ (List.mem_append_left _ hf)) e2
      have b2 := trO_sound h3 h (fun f hf => List.mem_append_right _ (List.mem_append_right _ hf)) e3
      refine leaf_step h hi' (same_world w) (v := strV ((xs.take r).drop l)) (exec_slice ho ?_) (Own.of_rd fun Z => ?_)
      · rw [k1, ← strV_extract]
        exact run_ss (by rw [hP]; exact isStr_und hstr) b1 (by rw [strV_size]; exact b2) e4 (by rw [strV_size]; exact e5)
      · rw [e6]
        simp only [Rd]
        refine ⟨trivial, fun c hc => k2 c (List.mem_of_mem_take (List.mem_of_mem_drop hc)), ?_⟩
        simp; omega
    · split at ht
      · rename_i hel
        obtain ⟨⟨e, ti⟩, hel⟩ := Option.isSome_iff_exists.1 hel
        split at ht
        · rename_i hsx
          subst hsx
          obtain ⟨rfl, hi', rfl⟩ := leafS_eq ht
          have hE' : subD (ev E α) (l1.map (ev E)) (r1.map (ev E)) = some (E cnt) := hE
          obtain ⟨xs, l, r, e1, e2, e3, e4, e5, e6⟩ := subD_spec hE'
          obtain ⟨B, hB, _⟩ := h.opA h1 (fun f hf => List.mem_append_left _ hf)
          rw [e1] at hB
          have b1 := trO_sound h2 h (fun f hf => List.mem_append_right _ (List.mem_append_left _ hf)) e2
          have b2 := trO_sound h3 h (fun f hf => List.mem_append_right _ (List.mem_append_right _ hf)) e3
          simp only [Own] at hB
          obtain ⟨ad, cap, hv, hrc, hr⟩ := hB.2.sub e4 e5
          refine leaf_step h hi' (same_world w) (exec_slice ho (by rw [hv]; exact run_sl (by rw [hP]; exact hel) b1 b2 e4 hrc)) ?_
          rw [e6]; simp only [Own]; exact ⟨trivial, hr⟩
        · split at ht
          · rename_i hsx
            subst hsx
            obtain ⟨rfl, hi', rfl⟩ := leafS_eq ht
            have hE' : subD (ev E α) (l1.map (ev E)) (r1.map (ev E)) = some (E cnt) := hE
            obtain ⟨xs, l, r, e1, e2, e3, e4, e5, e6⟩ := subD_spec hE'
            obtain ⟨B, hB, _⟩ := h.opA h1 (fun f hf => List.mem_append_left _ hf)
            rw [e1] at hB
            have b1 := trO_sound h2 h (fun f hf => List.mem_append_right _ (List.mem_append_left _ hf)) e2
            have b2 := trO_sound h3 h (fun f hf => List.mem_append_right _ (List.mem_append_right _ hf)) e3
            simp only [Own] at hB
            obtain ⟨ad, cap, hv, hrc, hr⟩ := hB.2.sub e4 e5
            refine leaf_step h hi' (same_world w) (exec_slice ho (by rw [hv]; exact run_sl (by rw [hP]; exact hel) b1 b2 e4 hrc)) ?_
            rw [e6]; simp only [Own]; exact ⟨trivial, hr⟩
          · split at ht
            · rename_i hsx
              obtain ⟨hsx, hg0, hin⟩ := hsx
              subst hsx
              split at ht
              · rename_i n
                simp only [Option.some.injEq, Prod.mk.injEq] at ht
                obtain ⟨rfl, rfl⟩ := ht
                have hE' : subD (ev E (.e n)) (l1.map (ev E)) (r1.map (ev E)) = some (E cnt) := hE
                obtain ⟨xs, l, r, e1, e2, e3, e4, e5, e6⟩ := subD_spec hE'
                obtain ⟨B, hB, hn'⟩ := h.opA h1 (fun f hf => List.mem_append_left _ hf)
                obtain ⟨k1, k2, k3⟩ := hn' n rfl
                rw [e1] at hB
                have b1 := trO_sound h2 h (fun f hf => List.mem_append_right _ (List.mem_append_left _ hf)) e2
                have b2 := trO_sound h3 h (fun f hf => List.mem_append_right _ (List.mem_append_right _ hf)) e3
                have hlen : ((xs.take r).drop l).length = r - l := by simp; omega
                have hfr : Fresh F cnt := by simpa using h.fresh 0 (by simp [Pr.np])
                have hin' : inB o.dst c.nt = true := by rw [h.fits.nt]; exact hin
                have hOk : ∀ b, b < w.heap.size → (OBk F Bs (fun k => k ∈ [n]) b ∨ b ∈ B) → OB F Bs b := by
                  rintro b _ (⟨m, s, q1, _, q3⟩ | q)
                  · exact ⟨m, s, q1, q3⟩
                  · exact ⟨n, _, k1, k3 ▸ q⟩
                have hB' := hB
                simp only [Own] at hB
                rcases hB with ⟨q | q, _⟩ | ⟨ys, hy, hB⟩
                · cases q
                · simp [D.flat] at q
                injection hy with hy; subst hy
                rcases hB with ⟨hv, rfl, rfl⟩ | ⟨b, off, cap, cs, e', fz, B', rfl, hv, hb, htw, q1, q2, q3, he⟩
                · simp at e5
                  subst e5
                  have : l = 0 := by omega
                  subst this
                  have hrun := exec_slice (c := c) (w := w) (a := a) ho (by rw [hv]; exact run_sl (by rw [hP]; exact hel) b1 b2 e4 (Nat.le_refl 0))
                  refine StepOK.of_value hrun ⟨upd vs cnt _, upd Bs cnt [], h.H.put hfr hin' [n] (Agr.refl _ _) rfl rfl rfl ?_ (by simp) (by simp) h.g⟩
                  rw [e6]
                  simpa using Own.nil
                · have hrun := exec_slice (c := c) (w := w) (a := a) ho (by rw [hv]; exact run_sl (by rw [hP]; exact hel) b1 b2 e4 (show r ≤ cap by omega))
                  refine StepOK.of_value hrun ⟨upd vs cnt _, upd Bs cnt (b :: B'), h.H.put hfr hin' [n] (Agr.refl _ _) rfl rfl rfl ?_ (by rw [k3]; exact h.H.nodup n _ k1) (fun k hk => .inl ⟨n, _, k1, by simp, k3 ▸ hk⟩) h.g⟩
                  rw [e6]
                  obtain ⟨rfl, hrd⟩ := eachV.1 he
                  have hrd' : RdL c.fid w.heap (fun k => (OBk F Bs (fun k => k ∈ [n]) k ∨ k ∈ [b]) ∨ c.Xb k) xs (cs.toList.drop off) :=
                    RdL.mono hrd fun k hk q => q.imp (hOk k hk) id
                  simp only [Own]
                  refine .inr ⟨_, rfl, .inr ?_⟩
                  by_cases hc : cap = l
                  · have : r = l := by omega
                    subst this
                    have h0 : (xs.take r).drop r = [] := List.eq_nil_of_length_eq_zero (by rw [hlen]; omega)
                    rw [h0]
                    refine ⟨b, off, 0, cs, e', fz, [], rfl, by simp [hc], hb, htw, by simp, by omega, by simp, by simp [Each]⟩
                  · refine ⟨b, off + l, cap - l, cs, e', fz, [], rfl, by rw [hlen]; simp [hc, Addr.add_lit], hb, htw, by rw [hlen]; omega, by omega, by rw [hlen]; omega, eachV.2 ⟨rfl, ?_⟩⟩
                    have := RdL.part l (RdL.head r hrd')
                    rwa [List.drop_drop] at this
              · cases ht
            · cases ht
      · cases ht

end
end Go.Cat

/-
  Bytes to a string; a tuple moved.
-/
namespace Go.Cat
set_option linter.unusedVariables false

theorem bytesOf_spec : ∀ {xs : List D} {ns : List Nat}, bytesOf xs = some ns → xs = ns.map (fun (n : Nat) => D.i .u8 (n : Int)) ∧ ∀ n ∈ ns, n < 256
  | [], ns, h => by simp [bytesOf] at h; subst h; simp
  | d :: xs, ns, h => by
    unfold bytesOf at h
    split at h
    · simp_all
    · rename_i n ds heq
      cases heq
      split at h
      · rename_i hb
        simp only [Option.map_eq_some_iff] at h
        obtain ⟨ms, h1, rfl⟩ := h
        obtain ⟨rfl, h2⟩ := bytesOf_spec h1
        refine ⟨?_, ?_⟩
        · simp [Int.toNat_of_nonneg hb.1]
        · intro m hm
          rcases List.mem_cons.1 hm with rfl | hm
          · omega
          · exact h2 m hm
      · cases h
    · cases h

theorem RdL.bytes {fid : Nat → Nat} {h : Array Obj} {Z : Nat → Prop} : ∀ {ns : List Nat} {vs : List Value}, vs.length = ns.length → RdL fid h Z (ns.map (fun (n : Nat) => D.i .u8 (n : Int))) vs → vs = (ns.map (fun (n : Nat) => (n : Int))).map (Value.int .u8)
  | [], [], _, _ => rfl
  | [], _ :: _, hl, _ => by simp at hl
  | n :: ns, [], hl, _ => by simp at hl
  | n :: ns, v :: vs, hl, r => by
    simp only [List.map_cons, RdL, Rd] at r
    rw [r.1, RdL.bytes (by simpa using hl) r.2]
    simp

theorem push_bytes : ∀ (ns : List Nat) (s : ByteArray), (ns.map (fun (n : Nat) => (n : Int))).foldl (fun r n => r.push (UInt8.ofNat n.toNat)) s = ⟨s.data ++ (ns.map fun c => UInt8.ofNat c).toArray⟩
  | [], s => by simp
  | n :: ns, s => by
    simp only [List.map_cons, List.foldl_cons, Int.toNat_natCast]
    rw [push_bytes ns]
    apply ByteArray.ext
    simp

section
variable {cf : CF} {c : Cx} {F : Fact → Prop} {E : Nat → D} {a : Act} {w : World} {vs : Nat → Value} {Bs : Nat → List Nat} {cnt : Nat} {g : Gd} {sm : Sm} {st : List Fact} {o : Oper} {p : Pr}
  {K : Nat → List D → List D → Prop}

/-- The elements of what is readable or owned, as a row of values. -/
theorem Own.news {fid : Nat → Nat} {h : Array Obj} {O X : Nat → Prop} {s : Sh} {ys : List D} {v : Value} {B : List Nat} (hs : s = .v ∨ s = .y ∨ s = .o .v) (r : Own fid h O X s (.l ys) v B) :
    ∃ (news : List Value) (Z : Nat → Prop), ((v = .slice none 0 0 ∧ news = []) ∨ ∃ b off cap cs e fz, v = .slice (some ⟨b, off, none⟩) news.length cap ∧ h[b]? = some (.cells cs e fz) ∧ ∀ (j : Nat) (u : Value), news[j]? = some u → cs[off + j]? = some u) ∧
      news.length = ys.length ∧ RdL fid h Z ys news := by
  rcases hs with rfl | rfl | rfl
  · simp only [Own] at r
    obtain ⟨news, h1, h2, h3⟩ := r.2.news
    refine ⟨news, _, ?_, h2, h3⟩
    rcases h1 with h1 | ⟨b, off, cap, cs, e, fz, q1, q2, q3, q4⟩
    · exact .inl h1
    · exact .inr ⟨b, off, cap, cs, e, fz, q1, q3, q4⟩
  · simp only [Own] at r
    obtain ⟨news, h1, h2, h3⟩ := r.2.news
    refine ⟨news, _, ?_, h2, h3⟩
    rcases h1 with h1 | ⟨b, off, cap, cs, e, fz, q1, q2, q3, q4⟩
    · exact .inl h1
    · exact .inr ⟨b, off, cap, cs, e, fz, q1, q3, q4⟩
  · obtain ⟨news, h1, h2, h3⟩ := r.olds
    refine ⟨news, _, ?_, h2, h3⟩
    rcases h1 with ⟨q1, q2, _⟩ | ⟨b, off, cap, cs, e, _, q1, q2, _, _, q4⟩
    · exact .inl ⟨q1, q2⟩
    · exact .inr ⟨b, off, cap, cs, e, _, q1, q2, q4⟩

theorem isBytes_spec {P : Program} {t : TypeId} (h : isBytes P t = true) : ∃ e, P.underlying t = some (.slice e) ∧ P.underlying e = some (.int .u8) := by
  unfold isBytes at h
  split at h
  · rename_i e ti hel
    split at h
    · rename_i he
      exact ⟨e, (elem1_spec hel).1, he⟩
    · cases h
  · cases h

def okBs : Sh → Bool
  | .v => true
  | .y => true
  | .o .v => true
  | _ => false

theorem trBs_sound {s d : TypeId} {x : Operand} (ho : o.op = .convert s d x) (ht : trBs cf st cnt o g s d x = some (p, sm)) (hok : ∀ α sh ns, opA cf st g x = some (α, sh, ns) → okBs sh = true) (h : At cf c F E a w vs Bs cnt g p sm) (hE : EvP K E cnt p) : StepOK c o sm F E a w := by
  unfold trBs at ht
  split at ht
  · rename_i hc
    obtain ⟨h1, h2⟩ := hc
    simp only [Option.bind_eq_some_iff] at ht
    obtain ⟨⟨α, sh, ns⟩, hx, ht⟩ := ht
    have hsh := hok _ _ _ hx
    obtain ⟨rfl, hi', rfl⟩ := leafS_eq ht
    obtain ⟨B, hB, _⟩ := h.opA hx (fun f hf => hf)
    have hE' : bsD (ev E α) = some (E cnt) := hE
    unfold bsD at hE'
    split at hE'
    · rename_i xs hxs
      simp only [Option.map_eq_some_iff] at hE'
      obtain ⟨ms, hb, hE'⟩ := hE'
      obtain ⟨hxm, hlt⟩ := bytesOf_spec hb
      rw [hxs] at hB
      have hlen := hB.len
      obtain ⟨news, Z, k1, k2, k3⟩ := hB.news (by cases sh with | v => simp | y => simp | b s => simp [okBs] at hsh | a s => simp [okBs] at hsh | o s => cases s <;> simp_all [okBs])
      subst hxm
      have hnv := RdL.bytes (by simpa using k2) k3
      obtain ⟨e, e1, e2⟩ := isBytes_spec h1
      have hP : c.P = cf.P := h.fits.P
      have hrun : (convert s d (a.eval x)).run c.P w = .ok (strV ms) w := by
        rcases k1 with ⟨q1, q2⟩ | ⟨b, off, cap, cs, e', fz, q1, q2, q3⟩
        · rw [q1, run_convert_bytes_string w s d e none 0 0 (by rw [hP]; exact e1) (by rw [hP]; exact e2) (by rw [hP]; exact isStr_und h2)]
          have : ms = [] := List.eq_nil_of_length_eq_zero (by rw [q2] at k2; simpa using k2.symm)
          subst this
          simp [Conv.bytesToString, strV]
          rfl
        · rw [q1, run_convert_bytes_string w s d e _ _ _ (by rw [hP]; exact e1) (by rw [hP]; exact e2) (by rw [hP]; exact isStr_und h2)]
          have hl := run_loadCells_list (P := c.P) w ⟨b, off, none⟩ news (fun j v hj => by rw [Addr.add_lit]; simp [World.cell?, q2, q3 j v hj])
          rw [hnv] at hl
          rw [run_bytesToString w ⟨b, off, none⟩ news.length cap (ms.map fun (n : Nat) => (n : Int)) (by rw [← hl]; congr 2; rw [hnv])]
          rw [push_bytes]
          unfold strV
          congr 2
          apply ByteArray.ext
          simp
      refine leaf_step h hi' (same_world w) (v := strV ms) ?_ (Own.of_rd fun Z => ?_)
      · simp only [execOp, ho]
        exact run_v hrun
      · rw [← hE']
        simp only [Rd]
        refine ⟨trivial, hlt, ?_⟩
        obtain ⟨_, _, _, hl⟩ := hlen
        simpa using hl
    · cases hE'
  · cases ht

theorem trTu_sound {x : Operand} (hx : (execOp a.eval o).run c.P w = .ok (.value (a.eval x)) w) (ht : trTu cf st o g x = some (p, sm)) (h : At cf c F E a w vs Bs cnt g p sm) : StepOK c o sm F E a w := by
  unfold trTu at ht
  split at ht
  · rename_i t d hd
    split at ht
    · rename_i hlt
      split at ht
      · rename_i ns g' hl
        split at ht
        · rename_i hg'
          simp only [Option.some.injEq, Prod.mk.injEq] at ht
          obtain ⟨rfl, rfl⟩ := ht
          have hl1 : a.tmps[t]? = some (.tuple (ns.map vs).toArray) := h.H.loc t (.tu ns g') (h.needs _ (by simp)) (prefix_gd hg' h.g)
          have hev : a.eval (.tmp t) = .tuple (ns.map vs).toArray := by simp [Act.eval, Array.getD_eq_getD_getElem?, hl1]
          refine StepOK.of_value hx ⟨vs, Bs, ?_⟩
          rw [hd]
          refine h.H.slot (same_world w) ?_
          intro _
          rw [hev]
          exact put_self (by rw [h.H.size, h.fits.nt]; exact hlt)
        · cases ht
      · cases ht
    · cases ht
  · cases ht

end
end Go.Cat

/-
  Append to an owned slice whose elements are owned.
-/
namespace Go.Cat
set_option linter.unusedVariables false

/-- Rows of rows. -/
def nested : Sh → Option Sh
  | .o (.o s) => some (.o s)
  | _ => none

theorem nested_spec {s e : Sh} (h : nested s = some e) : s = .o e := by
  unfold nested at h
  split at h
  · cases h; rfl
  · cases h

section
variable (cf : CF) (st : List Fact) (cnt : Nat) (o : Oper) (g : Gd)

def trAp2 (t : TypeId) (s x : Operand) : Option (Pr × Sm) :=
  match elem1 cf.P t with
  | some (_, ti) => if zeroOne ti = true ∧ ti.bytes ≤ 128 ∧ inB o.dst cf.nt = true ∧ g = [] then
      (opA cf st g s).bind fun r => (opA cf st g x).bind fun b => match r.1, b.1 with
        | .e n, .e m => if r.2.1 = b.2.1 ∧ n ≠ m ∧ (nested r.2.1).isSome = true then
            some (.ap false (.e n) (.e m), ⟨r.2.2 ++ b.2.2, [n, m], one cnt r.2.1 o.dst (.is cnt g)⟩) else none
        | _, _ => none
    else none
  | none => none
end

theorem Each.take {R : D → Value → List Nat → Prop} : ∀ {ds : List D} {vs : List Value} {B : List Nat}, Each R ds vs B → Each R ds (vs.take ds.length) B ∧ (vs.take ds.length).length = ds.length
  | [], _, _, h => by simp only [Each] at h; simp [Each, h]
  | d :: ds, [], _, r => by simp [Each] at r
  | d :: ds, v :: vs, B, r => by
    simp only [Each] at r
    obtain ⟨B1, B2, rfl, h1, h2⟩ := r
    have := Each.take h2
    simp only [List.length_cons, List.take_succ_cons, Each]
    exact ⟨⟨B1, B2, rfl, h1, this.1⟩, by simpa using this.2⟩

theorem Each.append {R : D → Value → List Nat → Prop} : ∀ {ds es : List D} {vs us : List Value} {B C : List Nat}, vs.length = ds.length → Each R ds vs B → Each R es us C → Each R (ds ++ es) (vs ++ us) (B ++ C)
  | [], es, [], us, B, C, _, r, q => by simp only [Each] at r; subst r; simpa using q
  | [], es, _ :: _, us, _, _, hl, _, _ => by simp at hl
  | d :: ds, es, [], us, _, _, hl, _, _ => by simp at hl
  | d :: ds, es, v :: vs, us, B, C, hl, r, q => by
    simp only [Each, List.cons_append] at r ⊢
    obtain ⟨B1, B2, rfl, h1, h2⟩ := r
    exact ⟨B1, B2 ++ C, by simp, h1, Each.append (by simpa using hl) h2 q⟩

theorem Each.congr {R : D → Value → List Nat → Prop} : ∀ {ds : List D} {vs us : List Value} {B : List Nat}, (∀ (j : Nat) (v : Value), vs[j]? = some v → us[j]? = some v) → Each R ds vs B → Each R ds us B
  | [], _, _, _, _, h => by simpa [Each] using h
  | d :: ds, [], us, _, _, r => by simp [Each] at r
  | d :: ds, v :: vs, [], _, hj, _ => by have := hj 0 v (by simp); simp at this
  | d :: ds, v :: vs, u :: us, B, hj, r => by
    simp only [Each] at r ⊢
    have h0 := hj 0 v (by simp)
    simp at h0
    subst h0
    obtain ⟨B1, B2, rfl, h1, h2⟩ := r
    exact ⟨B1, B2, rfl, h1, Each.congr (fun j v hv => by simpa using hj (j + 1) v (by simpa using hv)) h2⟩

theorem Own.oneCell {fid : Nat → Nat} {h : Array Obj} {O X : Nat → Prop} {s : Sh} {d : D} {v : Value} {B : List Nat} (r : Own fid h O X (.o s) d v B) (hd : d.one = true) : v.oneCell' = true := by
  simp only [Own] at r
  rcases r with ⟨q | q, _⟩ | ⟨xs, rfl, ⟨rfl, _, _⟩ | ⟨b, off, cap, cs, e, fz, B', _, rfl, _⟩⟩
  · subst q; simp [D.one] at hd
  · exact Rd.one hd q.2
  · rfl
  · rfl

theorem Each.one2 {fid : Nat → Nat} {h : Array Obj} {O X : Nat → Prop} {s : Sh} : ∀ {ds : List D} {vs : List Value} {B : List Nat}, ds.all D.one = true → vs.length = ds.length → Each (Own fid h O X (.o s)) ds vs B → ∀ v ∈ vs, v.oneCell' = true
  | [], [], _, _, _, _ => by simp
  | [], _ :: _, _, _, hl, _ => by simp at hl
  | d :: ds, [], _, _, _, r => by simp [Each] at r
  | d :: ds, v :: vs, B, hf, hl, r => by
    simp only [Each] at r
    obtain ⟨B1, B2, rfl, h1, h2⟩ := r
    simp only [List.all_cons, Bool.and_eq_true] at hf
    intro u hu
    rcases List.mem_cons.1 hu with rfl | hu
    · exact h1.oneCell hf.1
    · exact Each.one2 hf.2 (by simpa using hl) h2 u hu

/-- An owned row of owned rows. -/
theorem Own.rows {fid : Nat → Nat} {h : Array Obj} {O X : Nat → Prop} {s : Sh} {xs : List D} {sv : Value} {B : List Nat} (r : Own fid h O X (.o s) (.l xs) sv B) :
    ∃ (olds : List Value) (B' : List Nat), ((sv = .slice none 0 0 ∧ olds = [] ∧ B = [] ∧ B' = []) ∨ ∃ b off cap cs e, B = b :: B' ∧ sv = .slice (some ⟨b, off, none⟩) olds.length cap ∧ h[b]? = some (.cells cs e (0, 0)) ∧ olds.length ≤ cap ∧ off + cap ≤ cs.size ∧
      ∀ (j : Nat) (v : Value), olds[j]? = some v → cs[off + j]? = some v) ∧ olds.length = xs.length ∧ Each (Own fid h O X s) xs olds B' := by
  simp only [Own] at r
  rcases r with ⟨q | q, _⟩ | ⟨ys, hy, r⟩
  · cases q
  · simp [D.flat] at q
  injection hy with hy; subst hy
  rcases r with ⟨rfl, rfl, rfl⟩ | ⟨b, off, cap, cs, e, fz, B', rfl, rfl, hb, ht, h1, h2, h3, he⟩
  · exact ⟨[], [], .inl ⟨rfl, rfl, rfl, rfl⟩, rfl, by simp [Each]⟩
  · obtain ⟨k1, k2⟩ := Each.take he
    have hfz : fz = (0, 0) := ht
    subst hfz
    refine ⟨_, B', .inr ⟨b, off, cap, cs, e, rfl, by rw [k2], hb, by rw [k2]; exact h1, h2, ?_⟩, k2, k1⟩
    intro j u hj
    rw [List.getElem?_take] at hj
    split at hj
    · rwa [drop_get] at hj
    · cases hj

section
variable {cf : CF} {c : Cx} {F : Fact → Prop} {E : Nat → D} {a : Act} {w : World} {vs : Nat → Value} {Bs : Nat → List Nat} {cnt : Nat} {g : Gd} {sm : Sm} {st : List Fact} {o : Oper} {p : Pr}
  {K : Nat → List D → List D → Prop}

theorem trAp2_sound {t : TypeId} {s x : Operand} (ho : o.op = .call { callee := .builtin .append, args := #[s, x], argTypes := #[t, t] }) (ht : trAp2 cf st cnt o g t s x = some (p, sm)) (h : At cf c F E a w vs Bs cnt g p sm) (hE : EvP K E cnt p) : StepOK c o sm F E a w := by
  unfold trAp2 at ht
  split at ht
  · rename_i e ti hel
    split at ht
    · rename_i hc
      obtain ⟨hz, hby, hin, hg⟩ := hc
      simp only [Option.bind_eq_some_iff] at ht
      obtain ⟨⟨α, s1, n1⟩, h1, ⟨β, s2, n2⟩, h2, ht⟩ := ht
      simp only at ht
      split at ht
      · rename_i n m
        split at ht
        · rename_i hc2
          obtain ⟨hss, hnm, hns⟩ := hc2
          subst hss
          obtain ⟨es, hes⟩ := Option.isSome_iff_exists.1 hns
          obtain rfl := nested_spec hes
          have hes2 : ∃ s3, es = .o s3 := by
            unfold nested at hes
            split at hes
            · rename_i s3 hh; injection hh with hh; exact ⟨s3, hh⟩
            · cases hes
          obtain ⟨s3, rfl⟩ := hes2
          simp only [Option.some.injEq, Prod.mk.injEq] at ht
          obtain ⟨rfl, rfl⟩ := ht
          have hE' : appD false (E n) (E m) = some (E cnt) := hE
          obtain ⟨xs, ys, e1, e2, e3, e4, e5, _⟩ := appD_spec hE'
          obtain ⟨B, hB, hn1⟩ := h.opA h1 (fun f hf => List.mem_append_left _ hf)
          obtain ⟨B2, hB2, hn2⟩ := h.opA h2 (fun f hf => List.mem_append_right _ hf)
          obtain ⟨f1, f2, rfl⟩ := hn1 n rfl
          obtain ⟨g1, g2, rfl⟩ := hn2 m rfl
          simp only [ev] at hB hB2
          rw [e1] at hB
          rw [e2] at hB2
          obtain ⟨olds, Bo, hrow, hol, hro⟩ := hB.rows
          obtain ⟨news, Bn, hnv, hnl, hnr⟩ := hB2.rows
          have hapart := h.H.apart n _ m _ f1 g1 hnm
          have hnd1 := h.H.nodup n _ f1
          have hnd2 := h.H.nodup m _ g1
          have hlt : ∀ n s, F (.en n s) → ∀ b ∈ Bs n, b < w.heap.size := fun n s hs => Own.blocks_lt s _ _ _ (h.H.own n s hs)
          have hBo : ∀ b ∈ Bo, b ∈ Bs n := by
            rcases hrow with ⟨_, _, _, rfl⟩ | ⟨b, off, cap, cs, e, hb, _⟩
            · simp
            · rw [hb]; exact fun b hb => List.mem_cons_of_mem _ hb
          have hBn : ∀ b ∈ Bn, b ∈ Bs m := by
            rcases hnv with ⟨_, _, _, rfl⟩ | ⟨b, off, cap, cs, e, hb, _⟩
            · simp
            · rw [hb]; exact fun b hb => List.mem_cons_of_mem _ hb
          have hndo : Bo.Nodup := by
            rcases hrow with ⟨_, _, _, rfl⟩ | ⟨b, off, cap, cs, e, hb, _⟩
            · simp
            · rw [hb] at hnd1; exact (List.nodup_cons.1 hnd1).2
          have hndn : Bn.Nodup := by
            rcases hnv with ⟨_, _, _, rfl⟩ | ⟨b, off, cap, cs, e, hb, _⟩
            · simp
            · rw [hb] at hnd2; exact (List.nodup_cons.1 hnd2).2
          have hndall : (Bo ++ Bn).Nodup := List.nodup_append.2 ⟨hndo, hndn, fun b hb b' hb' e => by subst e; exact hapart b (hBo b hb) (hBn b hb')⟩
          have hP : c.P = cf.P := h.fits.P
          unfold zeroOne at hz
          split at hz
          · rename_i z hzz
            have hev1 : a.eval s = vs n := f2
            have hev2 : a.eval x = vs m := g2
            obtain ⟨v', w', hr, w1, w2, w3, hres⟩ := run_app (P := c.P) (w := w) (ty := o.type) (hP ▸ hel) hzz (cells_one hz) hby (olds := olds) (news := news) (sv := a.eval s) (xv := a.eval x)
              (by
                rcases hrow with ⟨q1, q2, _⟩ | ⟨b, off, cap, cs, e, _, q1, q2, q3, q4, q5⟩
                · exact .inl ⟨q1, q2⟩
                · exact .inr ⟨b, off, cap, cs, e, q1, q2, q3, q4, q5⟩)
              (by
                rcases hnv with ⟨q1, q2, _⟩ | ⟨b, off, cap, cs, e, _, q1, q2, q3, q4, q5⟩
                · exact .inl ⟨q1, q2⟩
                · exact .inr ⟨b, off, cap, q1, fun j v hj => by simp [World.cell?, q2, q5 j v hj]⟩)
              (Each.one2 e5 hnl hnr) (by rw [hol, hnl]; exact e4)
            have hrun : (execOp a.eval o).run c.P w = .ok (.value v') w' := by
              rw [exec_builtin ho]
              show (Bind.bind (Builtin.append_ #[t, t] o.type (#[s, x].map a.eval)) _).run c.P w = _
              refine run_v ?_
              simpa using hr
            have hall := Each.append hol hro hnr
            have hlen : (xs ++ ys).length = olds.length + news.length := by simp [hol, hnl]
            have hin' : inB o.dst c.nt = true := by rw [h.fits.nt]; exact hin
            have hfr : Fresh F cnt := by simpa using h.fresh 0 (by simp [Pr.np])
            have hkall : ∀ b ∈ Bo ++ Bn, ∃ k r, F (.en k r) ∧ k ∈ [n, m] ∧ b ∈ Bs k := by
              intro b hb
              rcases List.mem_append.1 hb with hb | hb
              · exact ⟨n, _, f1, by simp, hBo b hb⟩
              · exact ⟨m, _, g1, by simp, hBn b hb⟩
            have hOall : ∀ N : List Nat, (∀ b ∈ N, b < w.heap.size → b ∈ Bs n ∨ b ∈ Bs m) → ∀ b, b < w.heap.size → (OBk F Bs (fun k => k ∈ [n, m]) b ∨ b ∈ N) → OB F Bs b := by
              rintro N hN b hb (⟨k, s, q1, _, q3⟩ | q)
              · exact ⟨k, s, q1, q3⟩
              · rcases hN b q hb with q | q
                · exact ⟨n, _, f1, q⟩
                · exact ⟨m, _, g1, q⟩
            rcases hres with ⟨rfl, q1, q2, q3⟩ | ⟨gb, off, cap, cs, e', cs', q1, q2, rfl, q4, q5, q6, q7, q8, q9⟩ | ⟨cap, cs', rfl, q4, q5, q6, q9⟩
            · -- nil stays nil
              refine StepOK.of_value hrun ⟨upd vs cnt (.slice none 0 0), upd Bs cnt [], ?_⟩
              refine h.H.put hfr hin' [n, m] (by rw [q3]; exact Agr.refl _ _) w1 w2 w3 ?_ (by simp) (by simp) h.g
              rw [e3]
              have hx0 : xs = [] := List.eq_nil_of_length_eq_zero (by rw [← hol, q1]; rfl)
              have hy0 : ys = [] := List.eq_nil_of_length_eq_zero (by rw [← hnl, q2]; rfl)
              subst hx0 hy0
              exact Own.nil
            · -- in place
              have hBg : Bs n = gb :: Bo ∧ off + cap ≤ cs.size := by
                rcases hrow with ⟨r1, _, _⟩ | ⟨b, off2, cap2, cs2, e2', r0, r1, r2, r3, r4, r5⟩
                · rw [q1] at r1; cases r1
                · rw [q1] at r1
                  injection r1 with r1 _ r1c
                  injection r1 with r1
                  injection r1 with r1 r1o _
                  subst r1 r1c r1o
                  rw [q2] at r2
                  injection r2 with r2
                  injection r2 with r2 _ _
                  subst r2
                  exact ⟨r0, r4⟩
              obtain ⟨hBg, hoc⟩ := hBg
              have hgo : gb ∉ Bo := by rw [hBg] at hnd1; exact (List.nodup_cons.1 hnd1).1
              have hgn : gb ∉ Bn := fun q => hapart gb (by rw [hBg]; simp) (hBn gb q)
              have hagr : Agr (fun b => b = gb) w.heap w'.heap := ⟨by rw [q8]; exact Nat.le_refl _, fun b _ hb => q7 b hb⟩
              refine StepOK.of_value hrun ⟨upd vs cnt (.slice (some ⟨gb, off, none⟩) (olds.length + news.length) cap), upd Bs cnt (gb :: (Bo ++ Bn)), ?_⟩
              refine h.H.put hfr hin' [n, m] (hagr.mono fun b _ hb => ⟨n, _, f1, by simp, by rw [hb, hBg]; simp⟩) w1 w2 w3 ?_ (List.nodup_cons.2 ⟨by simp [hgo, hgn], hndall⟩) (fun b hb => .inl ?_) h.g
              · rw [e3]
                simp only [Own]
                refine .inr ⟨_, rfl, .inr ⟨gb, off, cap, cs', e', (0, 0), Bo ++ Bn, rfl, by rw [hlen], q6, rfl, by rw [hlen]; exact q4, by rw [q5]; exact hoc, by rw [hlen]; omega, ?_⟩⟩
                have hall2 := Each.congr (us := cs'.toList.drop off) (fun j v hj => by rw [drop_get]; exact q9 j v hj) hall
                refine Each.imp (fun d v B1 hb1 => ?_) hall2
                refine Own.ext hagr (fun b _ hb => ?_) (hOall _ fun b hb _ => ?_) _ d v B1 (fun b hb e => ?_)
                · rw [hb]; exact ⟨n, _, f1, by rw [hBg]; simp⟩
                · rcases List.mem_cons.1 hb with rfl | hb
                  · left; rw [hBg]; simp
                  · exact (List.mem_append.1 hb).imp (hBo b) (hBn b)
                · subst e
                  rcases List.mem_append.1 (hb1 b hb) with q | q
                  · exact hgo q
                  · exact hgn q
              · rcases List.mem_cons.1 hb with rfl | hb
                · exact ⟨n, _, f1, by simp, by rw [hBg]; simp⟩
                · exact hkall b hb
            · -- a new block
              have hagr : Agr (fun _ => False) w.heap w'.heap := by rw [q6]; exact Agr.push _ _
              have hnewb : w'.heap[w.heap.size]? = some (.cells cs' e (0, 0)) := by rw [q6]; simp
              have hnotin : w.heap.size ∉ Bo ++ Bn := by
                intro q
                obtain ⟨k, r, q1, _, q2⟩ := hkall _ q
                have := hlt k r q1 _ q2
                omega
              refine StepOK.of_value hrun ⟨upd vs cnt (.slice (some ⟨w.heap.size, 0, none⟩) (olds.length + news.length) cap), upd Bs cnt (w.heap.size :: (Bo ++ Bn)), ?_⟩
              refine h.H.put hfr hin' [n, m] (hagr.mono fun _ _ q => q.elim) w1 w2 w3 ?_ (List.nodup_cons.2 ⟨hnotin, hndall⟩) (fun b hb => ?_) h.g
              · rw [e3]
                simp only [Own]
                refine .inr ⟨_, rfl, .inr ⟨w.heap.size, 0, cap, cs', e, (0, 0), Bo ++ Bn, rfl, by rw [hlen], hnewb, rfl, by rw [hlen]; exact q4, by omega, by rw [hlen]; omega, ?_⟩⟩
                have hall2 := Each.congr (us := cs'.toList.drop 0) (fun j v hj => by rw [drop_get, Nat.zero_add]; exact q9 j v hj) hall
                refine Each.imp (fun d v B1 hb1 => ?_) hall2
                refine Own.ext hagr (fun _ _ q => q.elim) (hOall _ fun b hb hlt2 => ?_) _ d v B1 (fun _ _ q => q)
                rcases List.mem_cons.1 hb with rfl | hb
                · omega
                · exact (List.mem_append.1 hb).imp (hBo b) (hBn b)
              · rcases List.mem_cons.1 hb with rfl | hb
                · exact .inr (Nat.le_refl _)
                · exact .inl (hkall b hb)
          · cases hz
        · cases ht
      · cases ht
    · cases ht
  · cases ht
end
end Go.Cat

/-
  Structs: types, what the model's operations give there.
-/
namespace Go.Cat
set_option linter.unusedVariables false

/-- A struct type each of whose fields fills one cell: how many. -/
def structN (P : Program) (t : TypeId) : Option Nat :=
  match P.underlying t with
  | some (.struct fs) => match P.info? t with
    | some i => if (i.size = fs.size ∧ 0 < fs.size) ∧ (fs.toList.zipIdx.all fun x => x.1.offset == x.2 && (match P.info? x.1.type with | some j => j.size == 1 | none => false)) = true then some fs.size else none
    | none => none
  | _ => none

theorem structN_spec {P : Program} {t : TypeId} {n : Nat} (h : structN P t = some n) : ∃ fs i, P.underlying t = some (.struct fs) ∧ P.info? t = some i ∧ i.size = n ∧ (fs.size = n ∧ 0 < n) ∧
    ∀ (f : Nat) (fl : Field), fs[f]? = some fl → fl.offset = f ∧ ∃ j, P.info? fl.type = some j ∧ j.size = 1 := by
  unfold structN at h
  split at h
  · rename_i fs hu
    split at h
    · rename_i i hi
      split at h
      · rename_i hc
        injection h with h
        refine ⟨fs, i, hu, hi, by omega, ⟨h, by omega⟩, fun f fl hf => ?_⟩
        have := List.all_eq_true.1 hc.2 (fl, f) (by
          rw [List.mem_iff_getElem?]
          exact ⟨f, by simp [List.getElem?_zipIdx, hf]⟩)
        simp only [Bool.and_eq_true, beq_iff_eq] at this
        refine ⟨this.1, ?_⟩
        have h2 := this.2
        split at h2
        · rename_i j hj; exact ⟨j, hj, by simpa using h2⟩
        · cases h2
      · cases h
    · cases h
  · cases h

theorem run_fieldAt1 {P : Program} {w : World} {t : TypeId} {n : Nat} (h : structN P t = some n) {b o f : Nat} (hf : f < n) :
    (Instr.fieldAt t (.pointer (some ⟨b, o, none⟩)) f).run P w = .ok (.pointer (some ⟨b, o + f, none⟩)) w := by
  obtain ⟨fs, i, h1, h2, h3, ⟨h4, h40⟩, h5⟩ := structN_spec h
  have hfs : ∃ fl, fs[f]? = some fl := ⟨fs[f]'(by omega), by simp [h4, hf]⟩
  obtain ⟨fl, hfl⟩ := hfs
  obtain ⟨q1, j, q2, q3⟩ := h5 f fl hfl
  simp [Instr.fieldAt, run_underlying h1, hfl, Instr.sureAddr, fieldPlace, sizeOf, typeInfo, q2, q3, q1, Addr.add_lit]

theorem run_box {P : Program} {w : World} {t : TypeId} {v : Value} : (Instr.box t v).run P w = .ok (.pointer (some ⟨w.heap.size, 0, none⟩)) (w.alloc (.cells v.cells t)) := by
  simp [Instr.box, newVar, newRow]

theorem run_alloc {P : Program} {w : World} {t : TypeId} {i : TypeInfo} {z : Value} (hi : P.info? t = some i) (hz : i.zero = some z) :
    (Instr.alloc t true (.tuple #[])).run P w = .ok (.pointer (some ⟨w.heap.size, 0, none⟩)) (w.alloc (.cells z.cells t)) := by
  simp [Instr.alloc, zeroValue, typeInfo, hi, hz, newVar, newRow]

theorem run_loadAtN {P : Program} {w : World} {t : TypeId} {n : Nat} (h : structN P t = some n) {b : Nat} {cs : Array Value} {e : TypeId} {fz : Nat × Nat} (hb : w.heap[b]? = some (.cells cs e fz)) (hn : cs.size = n) :
    (Instr.loadAt t (.pointer (some ⟨b, 0, none⟩))).run P w = .ok (.agg cs) w := by
  obtain ⟨fs, i, h1, h2, h3, ⟨h4, h40⟩, h5⟩ := structN_spec h
  simp only [Instr.loadAt, Instr.sureAddr, Sem.run_bind, Sem.run_pure, Result.andThen_ok]
  exact run_loadVar_row w b e t cs fz (.struct fs) hb h1 rfl (by simp [h2, h3, hn])

theorem run_loadAtO {P : Program} {w : World} {t : TypeId} {n : Nat} (h : structN P t = some n) {b o : Nat} {cs : Array Value} {e : TypeId} {fz : Nat × Nat} (hb : w.heap[b]? = some (.cells cs e fz)) (hn : o + n ≤ cs.size) :
    (Instr.loadAt t (.pointer (some ⟨b, o, none⟩))).run P w = .ok (.agg ((cs.toList.drop o).take n).toArray) w := by
  obtain ⟨fs, i, h1, h2, h3, ⟨h4, h40⟩, h5⟩ := structN_spec h
  simp only [Instr.loadAt, Instr.sureAddr, Sem.run_bind, Sem.run_pure, Result.andThen_ok]
  have hl : ((cs.toList.drop o).take n).length = n := by simp; omega
  have := run_loadCells_list (P := P) w ⟨b, o, none⟩ ((cs.toList.drop o).take n) (fun j v hv => by
    rw [Addr.add_lit, cell_of_row w b (o + j) cs e fz hb]
    rw [List.getElem?_take] at hv
    split at hv
    · rwa [drop_get] at hv
    · cases hv)
  rw [hl] at this
  have hagg : (isAgg t).run P w = .ok true w := by
    unfold isAgg
    rw [Sem.run_bind, run_underlying h1 w]
    rfl
  simp [loadVar, Sem.run_bind, hagg, sizeOf, typeInfo, h2, h3, this]

theorem run_storeAtN {P : Program} {w : World} {t : TypeId} {n : Nat} (h : structN P t = some n) {b : Nat} {old cs : Array Value} {e : TypeId} (hb : w.heap[b]? = some (.cells old e (0, 0))) (ho : old.size = n) (hn : cs.size = n) (h1 : ∀ v ∈ cs.toList, v.oneCell' = true) :
    (Instr.storeAt t (.pointer (some ⟨b, 0, none⟩)) (.agg cs)).run P w = .ok () (w.setRow b cs) := by
  obtain ⟨fs, i, k1, k2, k3, ⟨k4, k40⟩, k5⟩ := structN_spec h
  simp only [Instr.storeAt, Instr.sureAddr, Sem.run_bind, Sem.run_pure, Result.andThen_ok]
  refine run_storeVar_row w b e t old cs hb (by simp [k2, k3, hn]) (by omega) ?_
  rw [Array.all_eq_true_iff_forall_mem]
  intro v hv
  exact h1 v (by simpa using hv)

/-! ### The zero value, and parts put into it -/

def zeroD (P : Program) (t : TypeId) : Option (List D) :=
  match P.info? t with
  | some i => match i.zero with
    | some (.agg zs) => zs.toList.mapM constD
    | _ => none
  | none => none

theorem mapM_get {α β : Type} {f : α → Option β} : ∀ {xs : List α} {ys : List β}, xs.mapM f = some ys → ys.length = xs.length ∧ ∀ (i : Nat) (y : β), ys[i]? = some y → ∃ x, xs[i]? = some x ∧ f x = some y
  | [], ys, h => by simp at h; subst h; simp
  | x :: xs, ys, h => by
    simp only [List.mapM_cons, Option.bind_eq_bind, Option.bind_eq_some_iff, Option.pure_def, Option.some.injEq] at h
    obtain ⟨y, h1, zs, h2, rfl⟩ := h
    obtain ⟨k1, k2⟩ := mapM_get h2
    refine ⟨by simp [k1], fun i z hz => ?_⟩
    cases i with
    | zero => simp at hz; subst hz; exact ⟨x, by simp, h1⟩
    | succ i => simpa using k2 i z (by simpa using hz)

def setAll {α : Type} (zs : List α) (ps : List (Nat × α)) : List α := ps.foldl (fun cs p => cs.set p.1 p.2) zs

theorem setAll_map {α β : Type} (f : α → β) : ∀ (ps : List (Nat × α)) (zs : List α), (setAll zs ps).map f = setAll (zs.map f) (ps.map fun p => (p.1, f p.2))
  | [], zs => rfl
  | p :: ps, zs => by
    simp only [setAll, List.foldl_cons, List.map_cons]
    have := setAll_map f ps (zs.set p.1 p.2)
    simp only [setAll, List.map_set] at this
    exact this

theorem setAll_length {α : Type} : ∀ (ps : List (Nat × α)) (zs : List α), (setAll zs ps).length = zs.length
  | [], zs => rfl
  | p :: ps, zs => by
    simp only [setAll, List.foldl_cons]
    have := setAll_length ps (zs.set p.1 p.2)
    simpa [setAll] using this

theorem setAll_other {α : Type} : ∀ (ps : List (Nat × α)) (zs : List α) (i : Nat), (∀ p ∈ ps, p.1 ≠ i) → (setAll zs ps)[i]? = zs[i]?
  | [], zs, i, _ => rfl
  | p :: ps, zs, i, h => by
    simp only [setAll, List.foldl_cons]
    have := setAll_other ps (zs.set p.1 p.2) i fun q hq => h q (List.mem_cons_of_mem _ hq)
    simp only [setAll] at this
    rw [this, List.getElem?_set_ne (h p (List.mem_cons_self ..))]

theorem setAll_get {α : Type} : ∀ (ps : List (Nat × α)) (zs : List α), (ps.map (·.1)).Nodup → ∀ p ∈ ps, p.1 < zs.length → (setAll zs ps)[p.1]? = some p.2
  | [], zs, _, p, hp, _ => by simp at hp
  | q :: ps, zs, hn, p, hp, hl => by
    simp only [List.map_cons, List.nodup_cons] at hn
    simp only [setAll, List.foldl_cons]
    rcases List.mem_cons.1 hp with rfl | hp
    · have := setAll_other ps (zs.set p.1 p.2) p.1 fun r hr e => hn.1 (List.mem_map.2 ⟨r, hr, e⟩)
      simp only [setAll] at this
      rw [this, List.getElem?_set_self hl]
    · have := setAll_get ps (zs.set q.1 q.2) hn.2 p hp (by simpa using hl)
      simpa [setAll] using this

theorem fill_setAll {n : Nat} {pl : Nat → Option (Nat × Nat)} (hpl : ∀ i, i < n → pl i = some (i, 1)) : ∀ (ps : List (Nat × Value)) (cells : Array Value), cells.size = n → (∀ p ∈ ps, p.1 < n ∧ p.2.oneCell' = true) →
    Instr.fill pl cells ps = some (setAll cells.toList ps).toArray
  | [], cells, _, _ => by simp [Instr.fill, setAll]
  | (i, v) :: ps, cells, hc, h => by
    obtain ⟨h1, h2⟩ := h (i, v) (List.mem_cons_self ..)
    have hv : v.cells = #[v] := cells_one h2
    simp only [Instr.fill]
    rw [hpl i h1]
    simp only [hv]
    rw [if_neg (by simp only [hc]; simp; omega)]
    have := fill_setAll hpl ps (cells.setIfInBounds i v) (by simp [hc]) fun p hp => h p (List.mem_cons_of_mem _ hp)
    have e : ((#[v] : Array Value).zipIdx.foldl (fun cs (x : Value × Nat) => cs.setIfInBounds (i + x.2) x.1) cells) = cells.setIfInBounds i v := by
      simp [Array.zipIdx]
    have e2 : ((#[v] : Array Value).zipIdx.foldl (fun cs x => match x with | (c, j) => cs.setIfInBounds (i + j) c) cells) = cells.setIfInBounds i v := e
    rw [e2, this]
    simp [setAll]

theorem run_build1 {P : Program} {w : World} {t : TypeId} {n : Nat} (h : structN P t = some n) {i : TypeInfo} {zs : Array Value} (hi : P.info? t = some i) (hz : i.zero = some (.agg zs)) (hzn : zs.size = n)
    {ps : Array (Nat × Value)} (hp : ∀ p ∈ ps.toList, p.1 < n ∧ p.2.oneCell' = true) :
    (Instr.build t ps).run P w = .ok (.agg (setAll zs.toList ps.toList).toArray) w := by
  obtain ⟨fs, i', h1, h2, h3, ⟨h4, h40⟩, h5⟩ := structN_spec h
  refine run_build w t ps _ ?_
  have hm : fs.toList.mapM (fun f => (P.info? f.type).map fun i => (f.offset, i.size)) = some ((List.range n).map fun j => (j, 1)) := by
    have key : ∀ (l : List Field) (k : Nat), (∀ j fl, l[j]? = some fl → fl.offset = k + j ∧ ∃ i, P.info? fl.type = some i ∧ i.size = 1) →
        l.mapM (fun f => (P.info? f.type).map fun i => (f.offset, i.size)) = some ((List.range' k l.length).map fun j => (j, 1)) := by
      intro l
      induction l with
      | nil => intro k _; simp
      | cons f l ih =>
        intro k hk
        obtain ⟨q1, i, q2, q3⟩ := hk 0 f (by simp)
        have := ih (k + 1) fun j fl hj => by
          have := hk (j + 1) fl (by simpa using hj)
          refine ⟨by omega, this.2⟩
        simp only [List.mapM_cons, q2, Option.map_some, this, List.length_cons, List.range'_succ, List.map_cons, q3]
        simp at q1
        simp [q1]
    have := key fs.toList 0 fun j fl hj => by
      have := h5 j fl (by simpa using hj)
      simpa using this
    rw [this]
    simp [h4, List.range_eq_range']
  simp only [Program.built, hi, h1, hz, hm]
  rw [fill_setAll (n := n) (fun j hj => by simp [hj]) ps.toList (Value.agg zs).cells (by simpa [Value.cells] using hzn) hp]
  rfl

end Go.Cat

/-
  Structs: the operations, and that they are sound.
-/
namespace Go.Cat
set_option linter.unusedVariables false

def ow : Nat → Sh
  | 0 => .v
  | k + 1 => .o (ow k)

def owK : Sh → Option Nat
  | .v => some 0
  | .o s => (owK s).map (· + 1)
  | _ => none

theorem owK_spec : ∀ {s : Sh} {k : Nat}, owK s = some k → s = ow k
  | .v, k, h => by simp [owK] at h; subst h; rfl
  | .o s, k, h => by
    simp only [owK, Option.map_eq_some_iff] at h
    obtain ⟨j, h1, rfl⟩ := h
    rw [owK_spec h1]; rfl
  | .y, k, h => by simp [owK] at h
  | .a s, k, h => by simp [owK] at h
  | .b s, k, h => by simp [owK] at h

section
variable {fid : Nat → Nat} {h : Array Obj} {O X : Nat → Prop}

theorem Own.flatB {s : Sh} {d : D} {v : Value} {B : List Nat} (hd : d.flat = true) (r : Own fid h O X s d v B) : B = [] := by
  cases s with
  | v => simp only [Own] at r; exact r.1
  | y => simp only [Own] at r; exact r.1
  | o s =>
    simp only [Own] at r
    rcases r with ⟨_, q⟩ | ⟨xs, rfl, _⟩
    · exact q
    · simp [D.flat] at hd
  | a s => simp only [Own] at r; obtain ⟨xs, cs, rfl, _⟩ := r; simp [D.flat] at hd
  | b s => simp only [Own] at r; obtain ⟨xs, b, cs, e, fz, B', rfl, _⟩ := r; simp [D.flat] at hd

theorem Own.of_flat {k : Nat} {d : D} {v : Value} {Z : Nat → Prop} (hd : d.flat = true) (r : Rd fid h Z d v) : Own fid h O X (ow k) d v [] := by
  cases k with
  | zero => simp only [ow, Own]; exact ⟨trivial, r.flat hd⟩
  | succ k => simp only [ow, Own]; exact .inl ⟨.inr ⟨hd, r.flat hd⟩, trivial⟩

theorem Each.impMem {R R' : D → Value → List Nat → Prop} : ∀ {ds : List D} {vs : List Value} {B : List Nat}, (∀ d ∈ ds, ∀ v B1, R d v B1 → R' d v B1) → Each R ds vs B → Each R' ds vs B
  | [], _, _ => fun _ h => by simpa [Each] using h
  | d :: ds, v :: vs, B => fun f h => by
    simp only [Each] at h ⊢
    obtain ⟨B1, B2, rfl, h1, h2⟩ := h
    exact ⟨B1, B2, rfl, f d (List.mem_cons_self ..) v B1 h1, Each.impMem (fun d hd v B => f d (List.mem_cons_of_mem _ hd) v B) h2⟩
  | _ :: _, [], _ => fun _ h => h

theorem Own.lift : ∀ (i j : Nat) (d : D) (v : Value) (B : List Nat), Own fid h O X (ow i) d v B → depB (min i j) d = true → Own fid h O X (ow j) d v B
  | 0, j, d, v, B => fun r hd => by
    simp only [Nat.zero_min, depB] at hd
    have hB := r.flatB hd
    subst hB
    exact Own.of_flat hd (r.rdFlat hd)
  | i + 1, 0, d, v, B => fun r hd => by
    simp only [Nat.min_zero, depB] at hd
    have hB := r.flatB hd
    subst hB
    exact Own.of_flat (k := 0) hd (r.rdFlat hd)
  | i + 1, j + 1, d, v, B => fun r hd => by
    by_cases hf : d.flat = true
    · have hB := r.flatB hf
      subst hB
      exact Own.of_flat (k := j + 1) hf (r.rdFlat hf)
    · rw [Nat.succ_min_succ] at hd
      simp only [depB, hf, Bool.false_or] at hd
      cases d with
      | l xs =>
        simp only [List.all_eq_true] at hd
        simp only [ow, Own] at r ⊢
        rcases r with ⟨q | q, _⟩ | ⟨ys, hy, r⟩
        · cases q
        · simp [D.flat] at q
        · injection hy with hy; subst hy
          refine .inr ⟨_, rfl, ?_⟩
          rcases r with r | ⟨b, off, cap, cs, e, fz, B', hB, hv, hb, ht, h1, h2, h3, he⟩
          · exact .inl r
          · exact .inr ⟨b, off, cap, cs, e, fz, B', hB, hv, hb, ht, h1, h2, h3, Each.impMem (fun d hd' v B1 q => Own.lift i j d v B1 q (hd d hd')) he⟩
      | _ => simp at hd

theorem Own.of_const {k : Nat} {d : D} {v : Value} (hd : constD v = some d) (hk : k = 0 ∨ d.flat = true ∨ isNilD d = true) : Own fid h O X (ow k) d v [] := by
  rcases hk with rfl | hk | hk
  · simp only [ow, Own]; exact ⟨trivial, constD_rd hd⟩
  · exact Own.of_flat (Z := fun _ => False) hk (constD_rd hd)
  · unfold isNilD at hk
    split at hk
    · have hv : v = .slice none 0 0 := by
        unfold constD at hd
        split at hd <;> try (injection hd with hd; cases hd)
        · split at hd
          · injection hd with hd; cases hd
          · cases hd
        · rfl
        · cases hd
      rw [hv]
      cases k with
      | zero => exact Own.nil
      | succ k => exact Own.nil
    · cases hk

/-- Each thing in its place. -/
theorem Each.of_fn {R : D → Value → List Nat → Prop} {bf : Nat → List Nat} : ∀ {ds : List D} {vs : List Value}, ds.length = vs.length → (∀ j d v, ds[j]? = some d → vs[j]? = some v → R d v (bf j)) → Each R ds vs ((List.range ds.length).flatMap bf) := by
  intro ds
  induction ds generalizing bf with
  | nil => intro vs _ _; simp [Each]
  | cons d ds ih =>
    intro vs hl hR
    cases vs with
    | nil => simp at hl
    | cons v vs =>
      have := ih (bf := fun j => bf (j + 1)) (vs := vs) (by simpa using hl) fun j d' v' h1 h2 => hR (j + 1) d' v' (by simpa using h1) (by simpa using h2)
      simp only [Each, List.length_cons, List.range_succ_eq_map, List.flatMap_cons, List.flatMap_map]
      exact ⟨bf 0, _, rfl, hR 0 d v (by simp) (by simp), this⟩
end

theorem range_flat_nodup {bf : Nat → List Nat} (h1 : ∀ j, (bf j).Nodup) (h2 : ∀ i j, i ≠ j → ∀ b ∈ bf i, b ∉ bf j) (n : Nat) : ((List.range n).flatMap bf).Nodup := by
  have : ∀ l : List Nat, l.Nodup → (l.flatMap bf).Nodup := by
    intro l
    induction l with
    | nil => intro _; simp
    | cons x l ih =>
      intro hn
      obtain ⟨n1, n2⟩ := List.nodup_cons.1 hn
      simp only [List.flatMap_cons]
      refine List.nodup_append.2 ⟨h1 x, ih n2, fun b hb b' hb' e => ?_⟩
      subst e
      obtain ⟨y, hy, hb2⟩ := List.mem_flatMap.1 hb'
      exact h2 x y (fun e => n1 (e ▸ hy)) b hb hb2
  exact this _ List.nodup_range

section
variable (cf : CF) (st : List Fact) (cnt : Nat) (o : Oper) (g : Gd)

/-- A part of a new struct: what it is, how deep it is owned, which entry is given up with it. -/
def trPart (k : Nat) (x : Operand) : Option ((A × Nat) × List Nat × List Fact) :=
  if k = 0 then (trPut cf st g .v x).map fun r => ((r.1, 0), r.2.1, r.2.2)
  else (opA cf st g x).bind fun a => match a.1 with
    | .c (.l []) => some ((a.1, 1), [], a.2.2)
    | .c _ => some ((a.1, 0), [], a.2.2)
    | .e n => match owK a.2.1 with
      | some (i + 1) => if g = [] then some ((a.1, i + 1), [n], a.2.2) else none
      | _ => some ((a.1, 0), [], a.2.2)

def trParts (k : Nat) : List (Nat × Operand) → Option (List (Nat × A × Nat) × List Nat × List Fact)
  | [] => some ([], [], [])
  | (i, x) :: ps => (trPart cf st g k x).bind fun a => (trParts k ps).map fun r => ((i, a.1) :: r.1, a.2.1 ++ r.2.1, a.2.2 ++ r.2.2)

def zeroA (d : D) : A × Nat := (.c d, if isNilD d then 1 else 0)

def structSh (k : Nat) : Sh := if k = 0 then .v else .a (ow k)

def trBd (k : Nat) (t : TypeId) (ps : Array (Nat × Operand)) : Option (Pr × Sm) :=
  (structN cf.P t).bind fun n => (zeroD cf.P t).bind fun zs => (trParts cf st g k ps.toList).bind fun r =>
    if inB o.dst cf.nt = true ∧ zs.length = n ∧ r.2.1.Nodup ∧ (ps.toList.map (·.1)).Nodup ∧ (ps.toList.all fun p => decide (p.1 < n)) = true ∧ (zs.all fun d => d.one && (k == 0 || d.flat || isNilD d)) = true then
      some (.bg k (setAll (zs.map zeroA) r.1), ⟨r.2.2, r.2.1, one cnt (structSh k) o.dst (.is cnt g)⟩)
    else none

def trAl (k : Nat) (t : TypeId) : Option (Pr × Sm) :=
  (structN cf.P t).bind fun n => (zeroD cf.P t).bind fun zs =>
    if inB o.dst cf.nt = true ∧ zs.length = n ∧ g = [] ∧ (zs.all fun d => k == 0 || d.flat || isNilD d) = true then
      some (.cs (.b (ow k)) (.g zs), ⟨[], [], one cnt (.b (ow k)) o.dst (.is cnt g)⟩)
    else none

/-- A box: frozen (k = 0), or owned. -/
def trBx (k : Nat) (t : TypeId) (x : Operand) : Option (Pr × Sm) :=
  (structN cf.P t).bind fun n => (opA cf st g x).bind fun a =>
    if inB o.dst cf.nt = true ∧ g = [] then match a.2.1 with
      | .v => if k = 0 then some (.bp a.1, ⟨a.2.2, [], one cnt .v o.dst (.is cnt g)⟩) else some (.wl n a.1, ⟨a.2.2, [], one cnt (.b .v) o.dst (.is cnt g)⟩)
      | .y => some (.bp a.1, ⟨a.2.2, [], one cnt .y o.dst (.is cnt g)⟩)
      | .a s => match a.1 with
        | .e m => some (.wl n a.1, ⟨a.2.2, [m], one cnt (.b s) o.dst (.is cnt g)⟩)
        | .c _ => none
      | _ => none
    else none
end

section
variable {cf : CF} {c : Cx} {F : Fact → Prop} {E : Nat → D} {a : Act} {w : World} {vs : Nat → Value} {Bs : Nat → List Nat} {cnt : Nat} {g : Gd} {sm : Sm} {st : List Fact} {o : Oper} {p : Pr}
  {K : Nat → List D → List D → Prop}

theorem putB_one {k : Nat} {x : D × Nat} (h : putB k x = true) : x.1.one = true := by
  unfold putB at h; simp only [Bool.and_eq_true] at h; exact h.1

theorem trPart_sound {k : Nat} {x : Operand} {α : A × Nat} {ks : List Nat} {ns : List Fact} (ht : trPart cf st g k x = some (α, ks, ns)) (h : At cf c F E a w vs Bs cnt g p sm) (hn : ∀ f ∈ ns, f ∈ sm.needs)
    {O' : Nat → Prop} (hO : ∀ b, b < w.heap.size → O' b → OB F Bs b) (hfr : k = 0 → ∀ n ∈ ks, ∀ b ∈ Bs n, ¬ O' b) (hp : putB k (ev E α.1, α.2) = true) :
    ∃ B, Own c.fid w.heap O' c.Xb (ow k) (ev E α.1) (a.eval x) B ∧ (B = [] ∨ ∃ n, n ∈ ks ∧ B = Bs n ∧ k ≠ 0) := by
  unfold trPart at ht
  split at ht
  · rename_i hk
    subst hk
    simp only [Option.map_eq_some_iff, Prod.mk.injEq] at ht
    obtain ⟨⟨α1, k1, n1⟩, h1, rfl, rfl, rfl⟩ := ht
    obtain ⟨B, e1, e2, _⟩ := trPut_sound h1 h hn hO (fun _ => hfr rfl)
    refine ⟨B, e1, ?_⟩
    rcases e2 with ⟨_, rfl⟩ | ⟨_, _, _, q⟩
    · exact .inl rfl
    · exact (q rfl).elim
  · rename_i hk
    simp only [Option.bind_eq_some_iff] at ht
    obtain ⟨⟨α1, s1, n1⟩, h1, ht⟩ := ht
    simp only at ht
    have hd : depB (min α.2 k) (ev E α.1) = true := by
      unfold putB at hp
      simp only [Bool.and_eq_true, Bool.or_eq_true, beq_iff_eq, hk, false_or] at hp
      exact hp.2
    split at ht
    · simp only [Option.some.injEq, Prod.mk.injEq] at ht
      obtain ⟨rfl, rfl, rfl⟩ := ht
      refine ⟨[], ?_, .inl rfl⟩
      rw [nil_val h1]
      cases k with
      | zero => exact (hk rfl).elim
      | succ k => exact Own.nil
    · rename_i d _
      simp only [Option.some.injEq, Prod.mk.injEq] at ht
      obtain ⟨rfl, rfl, rfl⟩ := ht
      simp only [Nat.zero_min, depB] at hd
      obtain ⟨B, hB, _⟩ := h.opA h1 hn
      exact ⟨[], Own.of_flat hd (hB.rdFlat hd), .inl rfl⟩
    · rename_i n
      split at ht
      · rename_i i hi
        split at ht
        · simp only [Option.some.injEq, Prod.mk.injEq] at ht
          obtain ⟨rfl, rfl, rfl⟩ := ht
          obtain ⟨B, hB, hn'⟩ := h.opA h1 hn
          obtain ⟨k1, k2, k3⟩ := hn' n rfl
          refine ⟨Bs n, ?_, .inr ⟨n, by simp, rfl, hk⟩⟩
          rw [owK_spec hi, k3] at hB
          exact Own.lift (i + 1) k _ _ _ (Own.ext (Agr.refl (fun _ => False) _) (fun _ _ q => q.elim) hO _ _ _ _ (fun _ _ q => q) hB) hd
        · cases ht
      · simp only [Option.some.injEq, Prod.mk.injEq] at ht
        obtain ⟨rfl, rfl, rfl⟩ := ht
        simp only [Nat.zero_min, depB] at hd
        obtain ⟨B, hB, _⟩ := h.opA h1 hn
        exact ⟨[], Own.of_flat hd (hB.rdFlat hd), .inl rfl⟩

theorem trPart_alive {k : Nat} {x : Operand} {α : A × Nat} {ks : List Nat} {ns : List Fact} (ht : trPart cf st g k x = some (α, ks, ns)) (h : At cf c F E a w vs Bs cnt g p sm) (hn : ∀ f ∈ ns, f ∈ sm.needs) : ∀ n ∈ ks, alive F n := by
  unfold trPart at ht
  split at ht
  · simp only [Option.map_eq_some_iff, Prod.mk.injEq] at ht
    obtain ⟨⟨α1, k1, n1⟩, h1, rfl, rfl, rfl⟩ := ht
    obtain ⟨_, _, _, k⟩ := trPut_sound (O' := fun _ => False) h1 h hn (fun _ _ q => q.elim) (fun _ _ _ _ _ q => q)
    exact k
  · simp only [Option.bind_eq_some_iff] at ht
    obtain ⟨⟨α1, s1, n1⟩, h1, ht⟩ := ht
    simp only at ht
    split at ht
    · simp only [Option.some.injEq, Prod.mk.injEq] at ht
      obtain ⟨_, rfl, _⟩ := ht
      simp
    · simp only [Option.some.injEq, Prod.mk.injEq] at ht
      obtain ⟨_, rfl, _⟩ := ht
      simp
    · rename_i n
      split at ht
      · split at ht
        · simp only [Option.some.injEq, Prod.mk.injEq] at ht
          obtain ⟨rfl, rfl, rfl⟩ := ht
          obtain ⟨B, hB, hn'⟩ := h.opA h1 hn
          intro m hm
          simp at hm
          subst hm
          exact ⟨_, (hn' m rfl).1⟩
        · cases ht
      · simp only [Option.some.injEq, Prod.mk.injEq] at ht
        obtain ⟨_, rfl, _⟩ := ht
        simp

theorem trParts_alive {k : Nat} (h : At cf c F E a w vs Bs cnt g p sm) : ∀ {l : List (Nat × Operand)} {αs : List (Nat × A × Nat)} {ks : List Nat} {ns : List Fact}, trParts cf st g k l = some (αs, ks, ns) → (∀ f ∈ ns, f ∈ sm.needs) → ∀ n ∈ ks, alive F n
  | [], αs, ks, ns, ht, _ => by
    simp only [trParts, Option.some.injEq, Prod.mk.injEq] at ht
    obtain ⟨rfl, rfl, rfl⟩ := ht
    simp
  | (i, x) :: l, αs, ks, ns, ht, hn => by
    simp only [trParts, Option.bind_eq_some_iff, Option.map_eq_some_iff, Prod.mk.injEq] at ht
    obtain ⟨⟨α, k1, n1⟩, h1, ⟨αs', k2, n2⟩, h2, rfl, rfl, rfl⟩ := ht
    intro n hnn
    rcases List.mem_append.1 hnn with hnn | hnn
    · exact trPart_alive h1 h (fun f hf => hn f (List.mem_append_left _ hf)) n hnn
    · exact trParts_alive h h2 (fun f hf => hn f (List.mem_append_right _ hf)) n hnn

/-- What is known of the cells while parts are put in. -/
structure Filled (c : Cx) (F : Fact → Prop) (w : World) (Bs : Nat → List Nat) (O' : Nat → Prop) (k : Nat) (ds : List D) (us : List Value) (bf : Nat → List Nat) (used : List Nat) : Prop where
  own : ∀ j d v, ds[j]? = some d → us[j]? = some v → Own c.fid w.heap O' c.Xb (ow k) d v (bf j)
  nodup : ∀ j, (bf j).Nodup
  apart : ∀ i j, i ≠ j → ∀ b ∈ bf i, b ∉ bf j
  from_ : ∀ j, ∀ b ∈ bf j, ∃ n ∈ used, alive F n ∧ b ∈ Bs n
  none : k = 0 → ∀ j, bf j = []

theorem trParts_sound {k : Nat} (h : At cf c F E a w vs Bs cnt g p sm) {O' : Nat → Prop} (hO : ∀ b, b < w.heap.size → O' b → OB F Bs b) :
    ∀ {l : List (Nat × Operand)} {αs : List (Nat × A × Nat)} {ks : List Nat} {ns : List Fact} {ds : List D} {us : List Value} {bf : Nat → List Nat} {used : List Nat}, trParts cf st g k l = some (αs, ks, ns) → (∀ f ∈ ns, f ∈ sm.needs) →
    (k = 0 → ∀ n ∈ ks, ∀ b ∈ Bs n, ¬ O' b) → ks.Nodup → (∀ n ∈ ks, n ∉ used) → (∀ q ∈ αs, putB k (ev E q.2.1, q.2.2) = true) → Filled c F w Bs O' k ds us bf used →
    αs.map (·.1) = l.map (·.1) ∧ ∃ bf', Filled c F w Bs O' k (setAll ds (αs.map fun q => (q.1, ev E q.2.1))) (setAll us (l.map fun q => (q.1, a.eval q.2))) bf' (used ++ ks)
  | [], αs, ks, ns, ds, us, bf, used, ht, _, _, _, _, _, hf => by
    simp only [trParts, Option.some.injEq, Prod.mk.injEq] at ht
    obtain ⟨rfl, rfl, rfl⟩ := ht
    exact ⟨rfl, bf, by simpa [setAll] using hf⟩
  | (i, x) :: l, αs, ks, ns, ds, us, bf, used, ht, hn, hfr, hnd, hus, hpb, hf => by
    simp only [trParts, Option.bind_eq_some_iff, Option.map_eq_some_iff, Prod.mk.injEq] at ht
    obtain ⟨⟨α, k1, n1⟩, h1, ⟨αs', k2, n2⟩, h2, rfl, rfl, rfl⟩ := ht
    obtain ⟨hnd1, hnd2, hnd3⟩ := List.nodup_append.1 hnd
    have hal := trPart_alive h1 h (fun f hf => hn f (List.mem_append_left _ hf))
    obtain ⟨B, e1, e2⟩ := trPart_sound h1 h (fun f hf => hn f (List.mem_append_left _ hf)) hO (fun q n hnn => hfr q n (List.mem_append_left _ hnn)) (hpb (i, α) (List.mem_cons_self ..))
    have hBn : ∀ b ∈ B, ∃ n ∈ k1, alive F n ∧ b ∈ Bs n := by
      intro b hb
      rcases e2 with rfl | ⟨n, hn1, rfl, _⟩
      · simp at hb
      · exact ⟨n, hn1, hal n hn1, hb⟩
    have hBold : ∀ b ∈ B, ∀ j, b ∉ bf j := by
      intro b hb j hbj
      obtain ⟨n, hn1, ⟨s1, hs1⟩, hb1⟩ := hBn b hb
      obtain ⟨m, hm, ⟨s2, hs2⟩, hb2⟩ := hf.from_ j b hbj
      exact h.H.apart n s1 m s2 hs1 hs2 (fun e => hus n (List.mem_append_left _ hn1) (e ▸ hm)) b hb1 hb2
    have hf2 : Filled c F w Bs O' k (ds.set i (ev E α.1)) (us.set i (a.eval x)) (upd bf i B) (used ++ k1) := by
      constructor
      · intro j d v hd hv
        by_cases hij : i = j
        · subst hij
          rw [upd_same]
          have hd' : d = ev E α.1 := by
            rw [List.getElem?_set] at hd
            simp only [if_true] at hd
            split at hd
            · exact (Option.some.inj hd).symm
            · cases hd
          have hv' : v = a.eval x := by
            rw [List.getElem?_set] at hv
            simp only [if_true] at hv
            split at hv
            · exact (Option.some.inj hv).symm
            · cases hv
          rw [hd', hv']; exact e1
        · rw [List.getElem?_set_ne hij] at hd hv
          rw [upd_ne bf B (Ne.symm hij)]
          exact hf.own j d v hd hv
      · intro j
        by_cases hij : j = i
        · subst hij; rw [upd_same]
          rcases e2 with rfl | ⟨n, hn1, rfl, _⟩
          · simp
          · obtain ⟨s, hs⟩ := hal n hn1; exact h.H.nodup n s hs
        · rw [upd_ne bf B hij]; exact hf.nodup j
      · intro j1 j2 hne b hb1 hb2
        by_cases q1 : j1 = i
        · subst q1
          rw [upd_same] at hb1
          rw [upd_ne bf B (Ne.symm hne)] at hb2
          exact hBold b hb1 j2 hb2
        · rw [upd_ne bf B q1] at hb1
          by_cases q2 : j2 = i
          · subst q2
            rw [upd_same] at hb2
            exact hBold b hb2 j1 hb1
          · rw [upd_ne bf B q2] at hb2
            exact hf.apart j1 j2 hne b hb1 hb2
      · intro j b hb
        by_cases hij : j = i
        · subst hij; rw [upd_same] at hb
          obtain ⟨n, q1, q2, q3⟩ := hBn b hb
          exact ⟨n, List.mem_append_right _ q1, q2, q3⟩
        · rw [upd_ne bf B hij] at hb
          obtain ⟨n, q1, q2, q3⟩ := hf.from_ j b hb
          exact ⟨n, List.mem_append_left _ q1, q2, q3⟩
      · intro hk j
        by_cases hij : j = i
        · subst hij; rw [upd_same]
          rcases e2 with rfl | ⟨n, hn1, rfl, q⟩
          · rfl
          · exact (q hk).elim
        · rw [upd_ne bf B hij]; exact hf.none hk j
    obtain ⟨r1, bf', r2⟩ := trParts_sound h hO h2 (fun f hf => hn f (List.mem_append_right _ hf)) (fun q n hnn => hfr q n (List.mem_append_right _ hnn)) hnd2
      (fun n hnn q => by
        rcases List.mem_append.1 q with q | q
        · exact hus n (List.mem_append_right _ hnn) q
        · exact hnd3 n q n hnn rfl) (fun q hq => hpb q (List.mem_cons_of_mem _ hq)) hf2
    refine ⟨by simp [r1], bf', ?_⟩
    simpa [setAll] using r2

theorem zeroD_spec {P : Program} {t : TypeId} {ds : List D} (h : zeroD P t = some ds) : ∃ i zs, P.info? t = some i ∧ i.zero = some (.agg zs) ∧ zs.size = ds.length ∧ ∀ (j : Nat) d, ds[j]? = some d → ∃ v, zs[j]? = some v ∧ constD v = some d := by
  unfold zeroD at h
  split at h
  · rename_i i hi
    split at h
    · rename_i zs hz
      obtain ⟨k1, k2⟩ := mapM_get h
      refine ⟨i, zs, hi, hz, by simpa using k1.symm, fun j d hd => ?_⟩
      obtain ⟨v, q1, q2⟩ := k2 j d hd
      exact ⟨v, by simpa using q1, q2⟩
    · cases h
  · cases h

theorem zero_own {P : Program} {t : TypeId} {ds : List D} {zs : Array Value} {fid : Nat → Nat} {h : Array Obj} {O X : Nat → Prop} {k : Nat} (hz : ∀ (j : Nat) d, ds[j]? = some d → ∃ v, zs[j]? = some v ∧ constD v = some d)
    (hd : (ds.all fun d => k == 0 || d.flat || isNilD d) = true) : ∀ (j : Nat) (d : D) (v : Value), ds[j]? = some d → zs.toList[j]? = some v → Own fid h O X (ow k) d v [] := by
  intro j d v h1 h2
  obtain ⟨u, q1, q2⟩ := hz j d h1
  rw [Array.getElem?_toList, q1] at h2
  injection h2 with h2
  subst h2
  refine Own.of_const q2 ?_
  have := List.all_eq_true.1 hd d (List.mem_of_getElem? h1)
  simp only [Bool.or_eq_true, beq_iff_eq] at this
  rcases this with (q | q) | q
  · exact .inl q
  · exact .inr (.inl q)
  · exact .inr (.inr q)

theorem trAl_sound {k : Nat} {t : TypeId} (ho : o.op = .alloc t) (ht : trAl cf cnt o g k t = some (p, sm)) (h : At cf c F E a w vs Bs cnt g p sm) (hE : EvP K E cnt p) : StepOK c o sm F E a w := by
  unfold trAl at ht
  simp only [Option.bind_eq_some_iff] at ht
  obtain ⟨n, hn, zs, hz, ht⟩ := ht
  split at ht
  · rename_i hc
    obtain ⟨hin, hzl, hg0, hall⟩ := hc
    simp only [Option.some.injEq, Prod.mk.injEq] at ht
    obtain ⟨rfl, rfl⟩ := ht
    obtain ⟨i, zv, z1, z2, z3, z4⟩ := zeroD_spec hz
    have hP : c.P = cf.P := h.fits.P
    have hrun : (execOp a.eval o).run c.P w = .ok (.value (.pointer (some ⟨w.heap.size, 0, none⟩))) (w.alloc (.cells zv t)) := by
      simp only [execOp, ho]
      refine run_v ?_
      have := run_alloc (P := c.P) (w := w) (t := t) (i := i) (z := .agg zv) (by rw [hP]; exact z1) z2
      simpa [Value.cells] using this
    have hE' : D.g zs = E cnt := by
      have : some (D.g zs) = some (E cnt) := hE
      injection this
    refine StepOK.of_value hrun ⟨upd vs cnt (.pointer (some ⟨w.heap.size, 0, none⟩)), upd Bs cnt [w.heap.size], ?_⟩
    refine h.H.put (by simpa using h.fresh 0 (by simp [Pr.np])) (by rw [h.fits.nt]; exact hin) [] (agr_alloc _ _ _) rfl rfl rfl ?_ (by simp) (by simp) h.g
    rw [← hE']
    simp only [Own]
    refine ⟨zs, w.heap.size, zv, t, (0, 0), [], rfl, rfl, rfl, heap_alloc_new w _, rfl, z3, ?_⟩
    have hnb : ((List.range zs.length).flatMap fun _ => ([] : List Nat)) = [] := by simp
    rw [← hnb]
    exact Each.of_fn (bf := fun _ => []) (by simpa using z3.symm) (zero_own (P := cf.P) (t := t) z4 hall)
  · cases ht
end
end Go.Cat

/-
  Structs: a new one, boxes, fields, the whole read and written.
-/
namespace Go.Cat
set_option linter.unusedVariables false

section
variable (cf : CF) (st : List Fact) (cnt : Nat) (o : Oper) (g : Gd)

/-- The field is a number, a bool, a string. -/
def flatF (P : Program) (t : TypeId) (f : Nat) : Bool := match P.underlying t with
  | some (.struct fs) => match fs[f]? with
    | some fl => match P.underlying fl.type with
      | some (.int _) => true
      | some .bool => true
      | some .string => true
      | _ => false
    | none => false
  | _ => false

/-- The address of a field. -/
def trFa (t : TypeId) (x : Operand) (f : Nat) : Option (Pr × Sm) :=
  match o.dst with
  | none => none
  | some d => (structN cf.P t).bind fun n => if d < cf.nt ∧ f < n then
      (rootOf st g x).bind fun r => if r.2.1 = [] then match r.2.2.1 with
        | .b s => some (.gt (.e r.1) [.k f], ⟨r.2.2.2, [], if s = .v then one cnt .v (some d) (.ad r.1 [.k f] cnt g) else [.sl d (.ad r.1 [.k f] cnt g)]⟩)
        | .v => some (.fp false (.e r.1) f, ⟨r.2.2.2, [], one cnt .v (some d) (.vc cnt g)⟩)
        | .y => if flatF cf.P t f = true then some (.fp true (.e r.1) f, ⟨r.2.2.2, [], one cnt .v (some d) (.vc cnt g)⟩)
          else some (.fp false (.e r.1) f, ⟨r.2.2.2, [], one cnt .y (some d) (.vc cnt g)⟩)
        | _ => none
        else none
    else none

/-- The whole of a struct read: a copy; moved out of its box (k = 1); or only lent. -/
def trLw (k : Nat) (t : TypeId) (x : Operand) : Option (Pr × Sm) :=
  match o.dst with
  | none => none
  | some d => (structN cf.P t).bind fun n => if d < cf.nt then
      (rootOf st g x).bind fun r => if r.2.1 = [] then match r.2.2.1 with
        | .b .v => some (.wl n (.e r.1), ⟨r.2.2.2, [], one cnt .v (some d) (.is cnt g)⟩)
        | .b s => if k = 1 ∧ g = [] then some (.wl n (.e r.1), ⟨r.2.2.2, [r.1], one cnt (.a s) (some d) (.is cnt g)⟩)
          else some (.wl n (.e r.1), ⟨r.2.2.2, [], [.sl d (.ia r.1 cnt g)]⟩)
        | .v => some (.gp (.e r.1) n, ⟨r.2.2.2, [], one cnt .v (some d) (.is cnt g)⟩)
        | .y => some (.gp (.e r.1) n, ⟨r.2.2.2, [], one cnt .y (some d) (.is cnt g)⟩)
        | _ => none
        else none
    else none

/-- The whole of a struct written into its box. -/
def trSw (k : Nat) (t : TypeId) (x v : Operand) : Option (Pr × Sm) :=
  match x with
  | .tmp u => if g = [] ∧ o.dst = none then (structN cf.P t).bind fun n => match findSl st u with
    | some (.is r []) => match findEn st r with
      | some (.b s) => (opA cf st g v).bind fun a => match a.1 with
        | .e m => if m ≠ r ∧ (a.2.1 = .a s ∨ a.2.1 = .v ∧ s = .v) then
            some (.ws r n a.1, ⟨[.sl u (.is r []), .en r (.b s)] ++ (a.2.2 ++ (slotsK st k r).map fun x => .sl x.1 (.is r x.2)), r :: (if a.2.1 = .v then [] else [m]),
              .en cnt (.b s) :: (slotsK st k r).map fun x => .sl x.1 (.is cnt x.2)⟩)
          else none
        | .c _ => none
      | _ => none
    | _ => none
    else none
  | _ => none

/-- The nil test of a pointer that is read through. -/
def trNc (x : Operand) : Option (Pr × Sm) :=
  match x, o.dst with
  | .tmp t, some d => if d < cf.nt then match findSl st t with
    | some (.is n g') => if g'.isPrefixOf g then match findEn st n with
      | some (.b s) => some (.nop, ⟨[.sl t (.is n g'), .en n (.b s)], [], [.sl d (.is n g)]⟩)
      | some .v => some (.nn (.e n), ⟨[.sl t (.is n g'), .en n .v], [], one cnt .v (some d) (.is cnt g)⟩)
      | some .y => some (.nn (.e n), ⟨[.sl t (.is n g'), .en n .y], [], one cnt .y (some d) (.is cnt g)⟩)
      | _ => none
      else none
    | _ => none
    else none
  | _, _ => none

def isPtr (P : Program) (t : TypeId) : Bool := match P.underlying t with
  | some (.pointer _) => true
  | _ => false

/-- Is a pointer nil? -/
def trNz (want : Bool) (x : Operand) : Option (Pr × Sm) :=
  (opA cf st g x).bind fun a => if a.2.1 = .v ∨ a.2.1 = .y then leafS cf cnt o g (.nz want a.1) .v a.2.2 else none
end

section
variable {cf : CF} {c : Cx} {F : Fact → Prop} {E : Nat → D} {a : Act} {w : World} {vs : Nat → Value} {Bs : Nat → List Nat} {cnt : Nat} {g : Gd} {sm : Sm} {st : List Fact} {o : Oper} {p : Pr}
  {K : Nat → List D → List D → Prop}

theorem Filled.each {O' : Nat → Prop} {k : Nat} {ds : List D} {us : List Value} {bf : Nat → List Nat} {used : List Nat} (h : Filled c F w Bs O' k ds us bf used) (hl : ds.length = us.length) :
    ∃ B, Each (Own c.fid w.heap O' c.Xb (ow k)) ds us B ∧ B.Nodup ∧ (∀ b ∈ B, ∃ n ∈ used, alive F n ∧ b ∈ Bs n) ∧ (k = 0 → B = []) := by
  refine ⟨_, Each.of_fn hl h.own, range_flat_nodup h.nodup h.apart _, fun b hb => ?_, fun hk => ?_⟩
  · obtain ⟨j, _, hb⟩ := List.mem_flatMap.1 hb
    exact h.from_ j b hb
  · simp [h.none hk]

theorem setAll_mem {α : Type} : ∀ (ps : List (Nat × α)) (zs : List α) (x : α), x ∈ setAll zs ps → x ∈ zs ∨ ∃ p ∈ ps, x = p.2
  | [], zs, x, h => .inl h
  | p :: ps, zs, x, h => by
    simp only [setAll, List.foldl_cons] at h
    rcases setAll_mem ps (zs.set p.1 p.2) x h with h | ⟨q, h1, h2⟩
    · rcases List.mem_or_eq_of_mem_set h with h | h
      · exact .inl h
      · exact .inr ⟨p, List.mem_cons_self .., h⟩
    · exact .inr ⟨q, List.mem_cons_of_mem _ h1, h2⟩

theorem trBd_sound {k : Nat} {t : TypeId} {ps : Array (Nat × Operand)} (ho : o.op = .build t ps) (ht : trBd cf st cnt o g k t ps = some (p, sm)) (h : At cf c F E a w vs Bs cnt g p sm) (hE : EvP K E cnt p) : StepOK c o sm F E a w := by
  unfold trBd at ht
  simp only [Option.bind_eq_some_iff] at ht
  obtain ⟨n, hn, zs, hz, ⟨αs, ks, ns⟩, h1, ht⟩ := ht
  split at ht
  · rename_i hc
    obtain ⟨hin, hzl, hnd, hpn, hpl, hall⟩ := hc
    simp only [Option.some.injEq, Prod.mk.injEq] at ht
    obtain ⟨rfl, rfl⟩ := ht
    simp only at hnd
    have hP : c.P = cf.P := h.fits.P
    obtain ⟨i, zv, z1, z2, z3, z4⟩ := zeroD_spec hz
    have hE0 : (if ((setAll (zs.map zeroA) αs).map fun x => (ev E x.1, x.2)).all (putB k) = true then some (D.g ((setAll (zs.map zeroA) αs).map fun x => ev E x.1)) else none) = some (E cnt) := hE
    split at hE0
    · rename_i hput
      injection hE0 with hE0
      have hlt : ∀ n s, F (.en n s) → ∀ b ∈ Bs n, b < w.heap.size := fun n s hs => Own.blocks_lt s _ _ _ (h.H.own n s hs)
      have hO := Oput_old h.H (ks := ks) (es := ow k) (N := fun _ => False) (fun b hb q => q.elim)
      have hal := trParts_alive h h1 (fun f hf => hf)
      have hidx : αs.map (·.1) = ps.toList.map (·.1) := by
        clear hE0 hput h hal hO
        have : ∀ (l : List (Nat × Operand)) (αs : List (Nat × A × Nat)) ks ns, trParts cf st g k l = some (αs, ks, ns) → αs.map (·.1) = l.map (·.1) := by
          intro l
          induction l with
          | nil => intro αs ks ns h; simp only [trParts, Option.some.injEq, Prod.mk.injEq] at h; obtain ⟨rfl, _⟩ := h; rfl
          | cons x l ih =>
            intro αs ks ns h
            simp only [trParts, Option.bind_eq_some_iff, Option.map_eq_some_iff, Prod.mk.injEq] at h
            obtain ⟨_, _, ⟨αs', k2, n2⟩, h2, rfl, _⟩ := h
            simp [ih _ _ _ h2]
        exact this _ _ _ _ h1
      have hlen : ∀ q ∈ αs, q.1 < n := by
        intro q hq
        have : q.1 ∈ ps.toList.map (·.1) := by rw [← hidx]; exact List.mem_map.2 ⟨q, hq, rfl⟩
        obtain ⟨r, hr, e⟩ := List.mem_map.1 this
        have := List.all_eq_true.1 hpl r hr
        simp only [decide_eq_true_eq] at this
        omega
      have hpb : ∀ q ∈ αs, putB k (ev E q.2.1, q.2.2) = true := by
        intro q hq
        have hg := setAll_get αs (zs.map zeroA) (by rw [hidx]; exact hpn) q hq (by simp [hzl, hlen q hq])
        have := List.all_eq_true.1 hput (ev E q.2.1, q.2.2) (by
          refine List.mem_map.2 ⟨q.2, List.mem_of_getElem? hg, rfl⟩)
        exact this
      have hz0 : Filled c F w Bs (Oput F Bs ks (ow k) fun _ => False) k zs zv.toList (fun _ => []) [] :=
        ⟨zero_own (P := cf.P) (t := t) z4 (by
          rw [List.all_eq_true] at hall ⊢
          intro d hd
          have := hall d hd
          simp only [Bool.and_eq_true] at this
          exact this.2), by simp, by simp, by simp, fun _ _ => rfl⟩
      obtain ⟨_, bf, hfin⟩ := trParts_sound h hO h1 (fun f hf => hf) (fun q => by
        subst q
        exact Oput_fr h.H (fun n hn => hn) hal (fun n hn b hb e => e)) hnd (by simp) hpb hz0
      have hde : (setAll (zs.map zeroA) αs).map (fun x => ev E x.1) = setAll zs (αs.map fun q => (q.1, ev E q.2.1)) := by
        rw [setAll_map]
        congr 1
        rw [List.map_map]
        apply List.ext_getElem?
        intro j
        simp only [List.getElem?_map]
        cases zs[j]? <;> simp [zeroA, ev]
      rw [hde] at hE0
      have hll : (setAll zs (αs.map fun q => (q.1, ev E q.2.1))).length = (setAll zv.toList (ps.toList.map fun q => (q.1, a.eval q.2))).length := by
        rw [setAll_length, setAll_length]; simpa using z3.symm
      obtain ⟨B, f1, f2, f3, f4⟩ := hfin.each hll
      simp only [List.nil_append] at f3
      have hone : (setAll zs (αs.map fun q => (q.1, ev E q.2.1))).all D.one = true := by
        rw [← hde, List.all_eq_true]
        intro d hd
        obtain ⟨x, hx, rfl⟩ := List.mem_map.1 hd
        exact putB_one (List.all_eq_true.1 hput _ (List.mem_map.2 ⟨x, hx, rfl⟩))
      have hv1 := Each.one hone hll.symm f1
      have hpv : ∀ q ∈ (ps.map fun (i, x) => (i, a.eval x)).toList, q.1 < n ∧ q.2.oneCell' = true := by
        intro q hq
        rw [Array.toList_map] at hq
        obtain ⟨r, hr, rfl⟩ := List.mem_map.1 hq
        have h3 := List.all_eq_true.1 hpl r hr
        simp only [decide_eq_true_eq] at h3
        refine ⟨h3, hv1 _ ?_⟩
        have := setAll_get (ps.toList.map fun q => (q.1, a.eval q.2)) zv.toList (by rw [List.map_map]; exact hpn) (r.1, a.eval r.2) (List.mem_map.2 ⟨r, hr, rfl⟩) (by simp; omega)
        exact List.mem_of_getElem? this
      have hrun : (execOp a.eval o).run c.P w = .ok (.value (.agg (setAll zv.toList (ps.toList.map fun q => (q.1, a.eval q.2))).toArray)) w := by
        simp only [execOp, ho]
        refine run_v ?_
        have := run_build1 (P := c.P) (w := w) (t := t) (n := n) (by rw [hP]; exact hn) (by rw [hP]; exact z1) z2 (by omega) hpv
        rw [this, Array.toList_map]
      refine StepOK.of_value hrun ⟨upd vs cnt (.agg (setAll zv.toList (ps.toList.map fun q => (q.1, a.eval q.2))).toArray), upd Bs cnt B, ?_⟩
      refine h.H.put (by simpa using h.fresh 0 (by simp [Pr.np])) (by rw [h.fits.nt]; exact hin) ks (Agr.refl _ _) rfl rfl rfl ?_ f2 (fun b hb => ?_) h.g
      · rw [← hE0]
        have hO2 : ∀ b, b < w.heap.size → (OBk F Bs (fun n => n ∈ ks) b ∨ b ∈ B) → Oput F Bs ks (ow k) (fun _ => False) b := by
          rintro b hb (q | q)
          · exact .inl q
          · by_cases hk : k = 0
            · rw [f4 hk] at q; simp at q
            · refine .inr (.inl ⟨?_, f3 b q⟩)
              cases k with
              | zero => exact (hk rfl).elim
              | succ k => simp [ow]
        have f1' : Each (Own c.fid w.heap (fun b => OBk F Bs (fun n => n ∈ ks) b ∨ b ∈ B) c.Xb (ow k)) (setAll zs (αs.map fun q => (q.1, ev E q.2.1))) (setAll zv.toList (ps.toList.map fun q => (q.1, a.eval q.2))) B :=
          Each.imp (fun d v B1 hB1 r => Own.ext (Agr.refl (fun _ => False) _) (fun _ _ q => q.elim) hO2 _ _ _ _ (fun _ _ q => q) r) f1
        unfold structSh
        split
        · rename_i hk
          subst hk
          have hB0 := f4 rfl
          subst hB0
          have hv := eachV.1 f1'
          simp only [Own, Rd]
          exact ⟨trivial, _, rfl, by simpa using hll.symm, by simpa using hv.2⟩
        · simp only [Own]
          exact ⟨_, _, rfl, rfl, by simpa using hll.symm, by simpa using f1'⟩
      · obtain ⟨n, q1, ⟨s, hs⟩, q3⟩ := f3 b hb
        exact .inl ⟨n, s, hs, q1, q3⟩
    · cases hE0
  · cases ht

theorem bpD_spec {d d' : D} (h : bpD d = some d') : ∃ xs, d = .g xs ∧ d' = .p xs := by
  unfold bpD at h
  split at h
  · rename_i xs; injection h with h; exact ⟨xs, rfl, h.symm⟩
  · cases h

theorem wlD_spec {k : Nat} {d d' : D} (h : wlD k d = some d') : ∃ xs, d = .g xs ∧ d' = .g xs ∧ xs.length = k ∧ xs.all D.one = true := by
  unfold wlD at h
  split at h
  · rename_i xs
    split at h
    · rename_i hc; injection h with h; exact ⟨xs, rfl, h.symm, hc.1, hc.2⟩
    · cases h
  · cases h

theorem gpD_spec {k : Nat} {d d' : D} (h : gpD k d = some d') : ∃ xs, d = .p xs ∧ d' = .g xs ∧ xs.length = k := by
  unfold gpD at h
  split at h
  · rename_i xs
    split at h
    · rename_i hc; injection h with h; exact ⟨xs, rfl, h.symm, hc⟩
    · cases h
  · cases h

theorem notX_new (h : At cf c F E a w vs Bs cnt g p sm) : ¬ c.Xb w.heap.size := fun q => by
  have := (c.hX _ q).1
  have := h.H.agr.size
  omega

theorem notO_new (h : At cf c F E a w vs Bs cnt g p sm) {kill : Nat → Prop} : ¬ OBk F Bs kill w.heap.size := by
  rintro ⟨n, s, h1, _, h3⟩
  have := Own.blocks_lt s _ _ _ (h.H.own n s h1) _ h3
  omega

theorem trBx_sound {k : Nat} {t : TypeId} {x : Operand} (ho : o.op = .box t x) (ht : trBx cf st cnt o g k t x = some (p, sm)) (h : At cf c F E a w vs Bs cnt g p sm) (hE : EvP K E cnt p) : StepOK c o sm F E a w := by
  unfold trBx at ht
  simp only [Option.bind_eq_some_iff] at ht
  obtain ⟨n, hn, ⟨α, s1, ns⟩, h1, ht⟩ := ht
  simp only at ht
  split at ht
  · rename_i hc
    obtain ⟨hin, hg0⟩ := hc
    have hin' : inB o.dst c.nt = true := by rw [h.fits.nt]; exact hin
    have hrun : ∀ cs : Array Value, a.eval x = .agg cs → (execOp a.eval o).run c.P w = .ok (.value (.pointer (some ⟨w.heap.size, 0, none⟩))) (w.alloc (.cells cs t)) := by
      intro cs hcs
      simp only [execOp, ho]
      refine run_v ?_
      rw [hcs, run_box]
      rfl
    have hOz : ∀ b, b < w.heap.size → (OBk F Bs (fun k => k ∈ ([] : List Nat)) b ∨ b ∈ ([] : List Nat)) → OB F Bs b := by
      rintro b _ (⟨n, s, q1, _, q3⟩ | q)
      · exact ⟨n, s, q1, q3⟩
      · simp at q
    split at ht
    · split at ht
      · -- frozen, of what is readable
        simp only [Option.some.injEq, Prod.mk.injEq] at ht
        obtain ⟨rfl, rfl⟩ := ht
        obtain ⟨xs, e1, e2⟩ := bpD_spec (d := ev E α) (show bpD (ev E α) = some (E cnt) from hE)
        obtain ⟨B, hB, _⟩ := h.opA h1 (fun f hf => hf)
        rw [e1] at hB
        simp only [Own, Rd] at hB
        obtain ⟨_, cs, hv, hl, hr⟩ := hB
        refine StepOK.of_value (hrun cs hv) ⟨upd vs cnt _, upd Bs cnt [], h.H.put (by simpa using h.fresh 0 (by simp [Pr.np])) hin' [] (agr_alloc _ _ _) rfl rfl rfl ?_ (by simp) (by simp) h.g⟩
        rw [e2]
        simp only [Own, Rd]
        refine ⟨trivial, w.heap.size, 0, cs, t, (0, 0), rfl, heap_alloc_new w _, ?_, ?_⟩
        · rintro ((q | q) | q)
          · exact notO_new h q
          · simp at q
          · exact notX_new h q
        · simp only [List.drop_zero]
          refine RdL.ext (S := fun _ => False) (agr_alloc _ _ _) (fun _ _ q => q.elim) (fun b hb q => q.imp (hOz b hb) id) _ _ hr
      · simp only [Option.some.injEq, Prod.mk.injEq] at ht
        obtain ⟨rfl, rfl⟩ := ht
        obtain ⟨xs, e1, e2, e3, e4⟩ := wlD_spec (d := ev E α) (show wlD n (ev E α) = some (E cnt) from hE)
        obtain ⟨B, hB, _⟩ := h.opA h1 (fun f hf => hf)
        rw [e1] at hB
        simp only [Own, Rd] at hB
        obtain ⟨_, cs, hv, hl, hr⟩ := hB
        refine StepOK.of_value (hrun cs hv) ⟨upd vs cnt _, upd Bs cnt [w.heap.size], h.H.put (by simpa using h.fresh 0 (by simp [Pr.np])) hin' [] (agr_alloc _ _ _) rfl rfl rfl ?_ (by simp) (by simp) h.g⟩
        rw [e2]
        simp only [Own]
        refine ⟨xs, w.heap.size, cs, t, (0, 0), [], rfl, rfl, rfl, heap_alloc_new w _, rfl, hl, eachV.2 ⟨rfl, ?_⟩⟩
        refine RdL.ext (S := fun _ => False) (Z := fun b => (OB F Bs b ∨ c.Xb b) ∨ b = w.heap.size) (agr_alloc _ _ _) (fun _ _ q => q.elim) (fun b hb q => ?_) _ _ (RdL.mono hr fun b hb q => q.elim id (fun q => by omega))
        rcases q with (q | q) | q
        · exact .inl (.inl (hOz b hb (.inl q)))
        · exact .inr (by simpa using q)
        · exact .inl (.inr q)
    · -- frozen, of what is borrowed
      simp only [Option.some.injEq, Prod.mk.injEq] at ht
      obtain ⟨rfl, rfl⟩ := ht
      obtain ⟨xs, e1, e2⟩ := bpD_spec (d := ev E α) (show bpD (ev E α) = some (E cnt) from hE)
      obtain ⟨B, hB, _⟩ := h.opA h1 (fun f hf => hf)
      rw [e1] at hB
      simp only [Own, Rd] at hB
      obtain ⟨_, cs, hv, hl, hr⟩ := hB
      refine StepOK.of_value (hrun cs hv) ⟨upd vs cnt _, upd Bs cnt [], h.H.put (by simpa using h.fresh 0 (by simp [Pr.np])) hin' [] (agr_alloc _ _ _) rfl rfl rfl ?_ (by simp) (by simp) h.g⟩
      rw [e2]
      simp only [Own, Rd]
      refine ⟨trivial, w.heap.size, 0, cs, t, (0, 0), rfl, heap_alloc_new w _, ?_, ?_⟩
      · rintro (q | q)
        · exact notO_new h q
        · simp at q
      · simp only [List.drop_zero]
        refine RdL.ext (S := fun _ => False) (agr_alloc _ _ _) (fun _ _ q => q.elim) hOz _ _ hr
    · rename_i s
      split at ht
      · rename_i m
        simp only [Option.some.injEq, Prod.mk.injEq] at ht
        obtain ⟨rfl, rfl⟩ := ht
        obtain ⟨xs, e1, e2, e3, e4⟩ := wlD_spec (d := ev E (.e m)) (show wlD n (ev E (.e m)) = some (E cnt) from hE)
        obtain ⟨B, hB, hB2⟩ := h.opA h1 (fun f hf => hf)
        obtain ⟨k1, k2, k3⟩ := hB2 m rfl
        rw [e1] at hB
        simp only [Own] at hB
        obtain ⟨ys, cs, hy, hv, hl, he⟩ := hB
        injection hy with hy; subst hy
        have hlt : ∀ b ∈ B, b < w.heap.size := fun b hb => Own.blocks_lt _ _ _ _ (h.H.own m _ k1) b (k3 ▸ hb)
        refine StepOK.of_value (hrun cs hv) ⟨upd vs cnt _, upd Bs cnt (w.heap.size :: B), h.H.put (by simpa using h.fresh 0 (by simp [Pr.np])) hin' [m] (agr_alloc _ _ _) rfl rfl rfl ?_ ?_ ?_ h.g⟩
        · rw [e2]
          simp only [Own]
          refine ⟨xs, w.heap.size, cs, t, (0, 0), B, rfl, rfl, rfl, heap_alloc_new w _, rfl, hl, ?_⟩
          refine Each.imp (fun d v B1 hB1 r => ?_) he
          refine Own.ext (S := fun _ => False) (agr_alloc _ _ _) (fun _ _ q => q.elim) ?_ _ _ _ _ (fun _ _ q => q) r
          rintro b hb (⟨n, s, q1, _, q3⟩ | q)
          · exact ⟨n, s, q1, q3⟩
          · rcases List.mem_cons.1 q with q | q
            · omega
            · exact ⟨m, _, k1, k3 ▸ q⟩
        · refine List.nodup_cons.2 ⟨fun q => ?_, by rw [k3]; exact h.H.nodup m _ k1⟩
          have := hlt _ q; omega
        · intro b hb
          rcases List.mem_cons.1 hb with rfl | hb
          · exact .inr (Nat.le_refl _)
          · exact .inl ⟨m, _, k1, by simp, k3 ▸ hb⟩
      · cases ht
    · cases ht
  · cases ht

end
end Go.Cat

/-
  Structs: fields, the whole read and written, nil tests: that they are sound.
-/
namespace Go.Cat
set_option linter.unusedVariables false

section
variable {cf : CF} {c : Cx} {F : Fact → Prop} {E : Nat → D} {a : Act} {w : World} {vs : Nat → Value} {Bs : Nat → List Nat} {cnt : Nat} {g : Gd} {sm : Sm} {st : List Fact} {o : Oper} {p : Pr}
  {K : Nat → List D → List D → Prop}

theorem known_spec {d d' : D} (h : known d = some d') : d' = d := by
  unfold known at h
  split at h
  · cases h
  · injection h with h; exact h.symm

theorem fpD_spec {k : Nat} {d d' : D} (h : fpD k d = some d') : ∃ xs, d = .p xs ∧ xs[k]? = some d' := by
  unfold fpD at h
  split at h
  · rename_i xs
    obtain ⟨y, h1, h2⟩ := Option.bind_eq_some_iff.1 h
    rw [known_spec h2]
    exact ⟨xs, rfl, h1⟩
  · cases h

theorem exec_field {t : TypeId} {x : Operand} {f : Nat} (ho : o.op = .fieldAddr t x f) {v : Value} (h : (Instr.fieldAt t (a.eval x) f).run c.P w = .ok v w) : (execOp a.eval o).run c.P w = .ok (.value v) w := by
  simp only [execOp, ho]
  exact run_v h

theorem rootOf_whole {x : Operand} {n : Nat} {s : Sh} {ns : List Fact} (hr : rootOf st g x = some (n, [], s, ns)) (h : At cf c F E a w vs Bs cnt g p sm) (hn : ∀ f ∈ ns, f ∈ sm.needs) :
    F (.en n s) ∧ a.eval x = vs n := by
  obtain ⟨h1, is, d, k1, k2, k3, k4⟩ := rootOf_sound (s' := s) hr h hn (by simp [Sh.under])
  refine ⟨h1, ?_⟩
  rcases k4 with ⟨_, q, _⟩ | ⟨q, _⟩
  · exact q
  · have := pathE_len k1
    simp at this
    exact (q this).elim

theorem trFa_sound {t : TypeId} {x : Operand} {f : Nat} (ho : o.op = .fieldAddr t x f) (ht : trFa cf st cnt o g t x f = some (p, sm)) (h : At cf c F E a w vs Bs cnt g p sm) (hE : EvP K E cnt p) : StepOK c o sm F E a w := by
  unfold trFa at ht
  split at ht
  · cases ht
  · rename_i d hd
    simp only [Option.bind_eq_some_iff] at ht
    obtain ⟨n, hn, ht⟩ := ht
    split at ht
    · rename_i hc
      obtain ⟨hdn, hfn⟩ := hc
      simp only [Option.bind_eq_some_iff] at ht
      obtain ⟨⟨r, q, s, ns⟩, hroot, ht⟩ := ht
      simp only at ht
      split at ht
      · rename_i hq
        subst hq
        have hP : c.P = cf.P := h.fits.P
        have hin : inB (some d) c.nt = true := by rw [h.fits.nt]; simpa [inB] using hdn
        -- a field of what is only read
        have hro : ∀ (fl : Bool) (s' : Sh), p = .fp fl (.e r) f → sm = ⟨ns, [], one cnt s' (some d) (.vc cnt g)⟩ → (s = .v ∧ s' = .v ∨ s = .y ∧ s' = .y ∨ s = .y ∧ fl = true ∧ s' = .v) → StepOK c o sm F E a w := by
          intro fl s' hp hsm hss
          subst hp hsm
          obtain ⟨hF, hev⟩ := rootOf_whole hroot h (fun f hf => hf)
          have hown := h.H.own r s hF
          have hE0 : ((fpD f (E r)).bind fun d => if fl = true then flatD d else some d) = some (E cnt) := hE
          obtain ⟨y, y1, y2⟩ := Option.bind_eq_some_iff.1 hE0
          obtain ⟨xs, e1, e2⟩ := fpD_spec y1
          have hy : y = E cnt ∧ (fl = true → (E cnt).flat = true) := by
            split at y2
            · unfold flatD at y2
              split at y2
              · rename_i q; injection y2 with y2; subst y2; exact ⟨rfl, fun _ => q⟩
              · cases y2
            · rename_i q; injection y2 with y2; exact ⟨y2, fun q' => (q q').elim⟩
          obtain ⟨rfl, hfl⟩ := hy
          rw [e1] at hown
          obtain ⟨Z, hZ, hr, hOwn⟩ : ∃ Z : Nat → Prop, (∀ b, OB F Bs b → Z b) ∧ Rd c.fid w.heap Z (.p xs) (vs r) ∧ (∀ u, Rd c.fid w.heap Z (E cnt) u → Own c.fid w.heap (OB F Bs) c.Xb s' (E cnt) u []) := by
            rcases hss with ⟨rfl, rfl⟩ | ⟨rfl, rfl⟩ | ⟨rfl, hf, rfl⟩
            · simp only [Own] at hown
              exact ⟨_, fun b q => .inl q, hown.2, fun u hu => by simp only [Own]; exact ⟨trivial, hu⟩⟩
            · simp only [Own] at hown
              exact ⟨_, fun b q => q, hown.2, fun u hu => by simp only [Own]; exact ⟨trivial, hu⟩⟩
            · simp only [Own] at hown
              exact ⟨_, fun b q => q, hown.2, fun u hu => by simp only [Own]; exact ⟨trivial, Rd.flat (hfl hf) hu⟩⟩
          simp only [Rd] at hr
          obtain ⟨b, off, cs, e', fz, hv, hb, hz, hl⟩ := hr
          obtain ⟨u, hu1, hu2⟩ := RdL.get hl e2
          rw [drop_get] at hu1
          have hrun : (execOp a.eval o).run c.P w = .ok (.value (.pointer (some ⟨b, off + f, none⟩))) w := by
            refine exec_field ho ?_
            rw [hev, hv]
            exact run_fieldAt1 (by rw [hP]; exact hn) hfn
          refine StepOK.of_value hrun ⟨upd vs cnt u, upd Bs cnt [], ?_⟩
          rw [hd]
          refine h.H.leaf (s := s') (v := u) (by simpa using h.fresh 0 (by simp [Pr.np])) hin (same_world w) (hOwn u hu2) [] ?_
          intro tm htm t' ht' hg
          injection ht' with ht'; subst ht'
          refine ⟨b, off + f, cs, e', fz, htm d rfl, hb, ?_, fun q => hz (hZ b q)⟩
          rw [upd_same]; exact hu1
        split at ht
        · rename_i es
          simp only [Option.some.injEq, Prod.mk.injEq] at ht
          obtain ⟨rfl, rfl⟩ := ht
          obtain ⟨hF, hev⟩ := rootOf_whole hroot h (fun f hf => hf)
          have hown := h.H.own r _ hF
          have hE0 : (pathD E [.k f] (E r)).bind known = some (E cnt) := hE
          obtain ⟨y, y1, y2⟩ := Option.bind_eq_some_iff.1 hE0
          have hy := known_spec y2
          subst hy
          have y1' : getP [f] (E r) = some (E cnt) := by simpa [pathD, PE.ev] using y1
          obtain ⟨b, o', u, B', w1, w2, w3, _⟩ := Wk.of_own [f] (.b es) es _ _ _ _ (by simp) hown y1' (by simp [Sh.under])
          have hcell := w1
          simp only [Wk] at hcell
          obtain ⟨b', o1, cs, e', fz, y', hst, hb, hy, hh⟩ := hcell
          rcases hh with ⟨_, rfl, rfl, rfl⟩ | ⟨hne, _⟩
          · obtain ⟨hv, rfl⟩ : vs r = .pointer (some ⟨b, 0, none⟩) ∧ o' = f := by
              rcases hst with ⟨off, len, cap, q, _⟩ | q
              · rw [q] at hown
                simp only [Own] at hown
                obtain ⟨xs, b2, cs2, e2, fz2, B2, _, _, q2, _⟩ := hown
                cases q2
              · exact q
            have hrun : (execOp a.eval o).run c.P w = .ok (.value (.pointer (some ⟨b, o', none⟩))) w := by
              refine exec_field ho ?_
              rw [hev, hv]
              have := run_fieldAt1 (P := c.P) (w := w) (b := b) (o := 0) (by rw [hP]; exact hn) hfn
              simpa using this
            have hfr : Fresh F cnt := by simpa using h.fresh 0 (by simp [Pr.np])
            have hnc : r ≠ cnt := by rintro rfl; exact hfr.1 _ hF
            have hloc : ∀ (tm : Array Value) (al : Nat → Prop), tm[d]? = some (.pointer (some ⟨b, o', none⟩)) → LocR w.heap E (upd vs cnt u) (OB F Bs) al tm d (.ad r [.k o'] cnt g) := by
              intro tm al htm _ _
              refine ⟨[o'], b, o', E cnt, by simp [pathE, PE.ev], y1', ?_, htm⟩
              rw [upd_same, upd_ne vs u hnc]
              exact w1
            split
            · rename_i hes
              subst hes
              rw [if_pos rfl] at h
              simp only [Own] at w2
              refine StepOK.of_value hrun ⟨upd vs cnt u, upd Bs cnt [], ?_⟩
              rw [hd]
              refine h.H.leaf (s := .v) (v := u) hfr hin (same_world w) (by simp only [Own]; exact ⟨trivial, w2.2⟩) [] ?_
              intro tm htm t' ht'
              injection ht' with ht'; subst ht'
              exact hloc tm _ (htm d rfl)
            · rename_i hes
              rw [if_neg hes] at h
              refine StepOK.of_value hrun ⟨upd vs cnt u, upd Bs cnt [], ?_⟩
              rw [hd]
              exact h.H.leaf0 hfr (by rw [h.fits.nt]; exact hdn) (same_world w) fun tm htm => hloc tm _ htm
          · exact (hne rfl).elim
        · simp only [Option.some.injEq, Prod.mk.injEq] at ht
          exact hro false .v ht.1.symm ht.2.symm (.inl ⟨rfl, rfl⟩)
        · split at ht
          · simp only [Option.some.injEq, Prod.mk.injEq] at ht
            exact hro true .v ht.1.symm ht.2.symm (.inr (.inr ⟨rfl, rfl, rfl⟩))
          · simp only [Option.some.injEq, Prod.mk.injEq] at ht
            exact hro false .y ht.1.symm ht.2.symm (.inr (.inl ⟨rfl, rfl⟩))
        · cases ht
      · cases ht
    · cases ht

theorem trLw_sound {k : Nat} {t : TypeId} {x : Operand} (ho : o.op = .load t x) (ht : trLw cf st cnt o g k t x = some (p, sm)) (h : At cf c F E a w vs Bs cnt g p sm) (hE : EvP K E cnt p) : StepOK c o sm F E a w := by
  unfold trLw at ht
  split at ht
  · cases ht
  · rename_i d hd
    simp only [Option.bind_eq_some_iff] at ht
    obtain ⟨n, hn, ht⟩ := ht
    split at ht
    · rename_i hdn
      simp only [Option.bind_eq_some_iff] at ht
      obtain ⟨⟨r, q, s, ns⟩, hroot, ht⟩ := ht
      simp only at ht
      split at ht
      · rename_i hq
        subst hq
        have hP : c.P = cf.P := h.fits.P
        have hn' : structN c.P t = some n := by rw [hP]; exact hn
        have hin : inB (some d) c.nt = true := by rw [h.fits.nt]; simpa [inB] using hdn
        have hput : ∀ v : Value, (a.put (some d) v).tmps[d]? = some v := fun v => put_self (by rw [h.H.size, h.fits.nt]; exact hdn)
        have hfrz : ∀ (s' : Sh), p = .gp (.e r) n → sm = ⟨ns, [], one cnt s' (some d) (.is cnt g)⟩ → (s = .v ∧ s' = .v ∨ s = .y ∧ s' = .y) → StepOK c o sm F E a w := by
          intro s' hp hsm hss
          subst hp hsm
          obtain ⟨hF, hev⟩ := rootOf_whole hroot h (fun f hf => hf)
          have hown := h.H.own r s hF
          obtain ⟨xs, e1, e2, e3⟩ := gpD_spec (d := E r) (show gpD n (E r) = some (E cnt) from hE)
          rw [e1] at hown
          obtain ⟨Z, hr, hOwn⟩ : ∃ Z : Nat → Prop, Rd c.fid w.heap Z (.p xs) (vs r) ∧ (∀ u, Rd c.fid w.heap Z (E cnt) u → Own c.fid w.heap (OB F Bs) c.Xb s' (E cnt) u []) := by
            rcases hss with ⟨rfl, rfl⟩ | ⟨rfl, rfl⟩
            · simp only [Own] at hown
              exact ⟨_, hown.2, fun u hu => by simp only [Own]; exact ⟨trivial, hu⟩⟩
            · simp only [Own] at hown
              exact ⟨_, hown.2, fun u hu => by simp only [Own]; exact ⟨trivial, hu⟩⟩
          simp only [Rd] at hr
          obtain ⟨b, off, cs, e', fz, hv, hb, hz, hl⟩ := hr
          obtain ⟨t1, t2⟩ := RdL.take hl
          have hoff : off + n ≤ cs.size := by
            have hle : (List.take xs.length (List.drop off cs.toList)).length ≤ cs.size - off := by simp [List.length_take]; omega
            rw [t2, e3] at hle
            obtain ⟨fs, i, _, _, _, ⟨_, h0⟩, _⟩ := structN_spec hn
            omega
          have hrun : (execOp a.eval o).run c.P w = .ok (.value (.agg ((cs.toList.drop off).take n).toArray)) w := by
            refine exec_load ho ?_
            rw [hev, hv]
            exact run_loadAtO hn' hb hoff
          rw [e3] at t1 t2
          have hcs : Rd c.fid w.heap Z (E cnt) (.agg ((cs.toList.drop off).take n).toArray) := by
            rw [e2]
            simp only [Rd]
            exact ⟨_, rfl, by simpa [e3] using t2, by simpa using t1⟩
          refine StepOK.of_value hrun ?_
          rw [hd]
          exact h.H.leaf_is (s := s') (by simpa using h.fresh 0 (by simp [Pr.np])) hin (same_world w) (hOwn _ hcs) [] h.g
        split at ht
        · -- a box of what may be read for ever
          simp only [Option.some.injEq, Prod.mk.injEq] at ht
          obtain ⟨rfl, rfl⟩ := ht
          obtain ⟨hF, hev⟩ := rootOf_whole hroot h (fun f hf => hf)
          have hown := h.H.own r _ hF
          obtain ⟨xs, e1, e2, e3, e4⟩ := wlD_spec (d := E r) (show wlD n (E r) = some (E cnt) from hE)
          rw [e1] at hown
          simp only [Own] at hown
          obtain ⟨ys, b, cs, e, fz, B', hy, hB, hv, hb, hth, hl, he⟩ := hown
          injection hy with hy; subst hy
          have hrun : (execOp a.eval o).run c.P w = .ok (.value (.agg cs)) w := by
            refine exec_load ho ?_
            rw [hev, hv]
            exact run_loadAtN hn' hb (by omega)
          refine StepOK.of_value hrun ?_
          rw [hd]
          refine h.H.leaf_is (s := .v) (by simpa using h.fresh 0 (by simp [Pr.np])) hin (same_world w) ?_ [] h.g
          rw [e2]
          simp only [Own, Rd]
          exact ⟨trivial, cs, rfl, hl, (eachV.1 he).2⟩
        · rename_i es hes
          split at ht
          · rename_i hk
            simp only [Option.some.injEq, Prod.mk.injEq] at ht
            obtain ⟨rfl, rfl⟩ := ht
            obtain ⟨hF, hev⟩ := rootOf_whole hroot h (fun f hf => hf)
            have hown := h.H.own r _ hF
            obtain ⟨xs, e1, e2, e3, e4⟩ := wlD_spec (d := E r) (show wlD n (E r) = some (E cnt) from hE)
            rw [e1] at hown
            simp only [Own] at hown
            obtain ⟨ys, b, cs, e, fz, B', hy, hB, hv, hb, hth, hl, he⟩ := hown
            injection hy with hy; subst hy
            have hrun : (execOp a.eval o).run c.P w = .ok (.value (.agg cs)) w := by
              refine exec_load ho ?_
              rw [hev, hv]
              exact run_loadAtN hn' hb (by omega)
            have hnd := h.H.nodup r _ hF
            rw [hB] at hnd
            refine StepOK.of_value hrun ⟨upd vs cnt (.agg cs), upd Bs cnt B', ?_⟩
            rw [hd]
            refine h.H.put (by simpa using h.fresh 0 (by simp [Pr.np])) hin [r] (Agr.refl _ _) rfl rfl rfl ?_ (List.nodup_cons.1 hnd).2 (fun b' hb' => .inl ⟨r, _, hF, by simp, by rw [hB]; exact List.mem_cons_of_mem _ hb'⟩) h.g
            rw [e2]
            simp only [Own]
            refine ⟨xs, cs, rfl, rfl, hl, Each.imp (fun d v B1 hB1 r' => ?_) he⟩
            refine Own.ext (Agr.refl (fun _ => False) _) (fun _ _ q => q.elim) ?_ _ _ _ _ (fun _ _ q => q) r'
            rintro b' _ (⟨n, s, q1, _, q3⟩ | q)
            · exact ⟨n, s, q1, q3⟩
            · exact ⟨r, _, hF, by rw [hB]; exact List.mem_cons_of_mem _ q⟩
          · simp only [Option.some.injEq, Prod.mk.injEq] at ht
            obtain ⟨rfl, rfl⟩ := ht
            obtain ⟨hF, hev⟩ := rootOf_whole hroot h (fun f hf => hf)
            have hown := h.H.own r _ hF
            obtain ⟨xs, e1, e2, e3, e4⟩ := wlD_spec (d := E r) (show wlD n (E r) = some (E cnt) from hE)
            rw [e1] at hown
            simp only [Own] at hown
            obtain ⟨ys, b, cs, e, fz, B', hy, hB, hv, hb, hth, hl, he⟩ := hown
            injection hy with hy; subst hy
            have hrun : (execOp a.eval o).run c.P w = .ok (.value (.agg cs)) w := by
              refine exec_load ho ?_
              rw [hev, hv]
              exact run_loadAtN hn' hb (by omega)
            have hfr : Fresh F cnt := by simpa using h.fresh 0 (by simp [Pr.np])
            have hnc : r ≠ cnt := by rintro rfl; exact hfr.1 _ hF
            refine StepOK.of_value hrun ⟨upd vs cnt (.agg cs), upd Bs cnt [], ?_⟩
            rw [hd]
            refine h.H.leaf0 hfr (by rw [h.fits.nt]; exact hdn) (same_world w) fun tm htm => ?_
            intro _ _
            exact ⟨xs, b, cs, e, fz, e1, e2, by rw [upd_ne vs _ hnc]; exact hv, hb, by rw [upd_same], by rw [upd_same]; exact htm⟩
        · simp only [Option.some.injEq, Prod.mk.injEq] at ht
          exact hfrz .v ht.1.symm ht.2.symm (.inl ⟨rfl, rfl⟩)
        · simp only [Option.some.injEq, Prod.mk.injEq] at ht
          exact hfrz .y ht.1.symm ht.2.symm (.inr ⟨rfl, rfl⟩)
        · cases ht
      · cases ht
    · cases ht

theorem trNc_sound {x : Operand} (ho : o.op = .nilCheck x) (ht : trNc cf st cnt o g x = some (p, sm)) (h : At cf c F E a w vs Bs cnt g p sm) (hE : EvP K E cnt p) : StepOK c o sm F E a w := by
  unfold trNc at ht
  split at ht
  · rename_i t d hd
    split at ht
    · rename_i hdn
      have hin : inB (some d) c.nt = true := by rw [h.fits.nt]; simpa [inB] using hdn
      split at ht
      · rename_i n g' hl
        split at ht
        · rename_i hg'
          have hev : ∀ _s : Sh, Fact.sl t (.is n g') ∈ sm.needs → a.eval (.tmp t) = vs n := by
            intro _ hh
            have h1 := (h.H.loc t _ (h.needs _ hh)).1 (prefix_gd hg' h.g)
            simp [Act.eval, Array.getD_eq_getD_getElem?, h1]
          have hrun : ∀ ad, a.eval (.tmp t) = .pointer (some ad) → (execOp a.eval o).run c.P w = .ok (.value (.pointer (some ad))) w := by
            intro ad h1
            simp only [execOp, ho, h1]
            rfl
          have hptr : ∀ (s' : Sh), (s' = .v ∨ s' = .y) → p = .nn (.e n) → sm = ⟨[.sl t (.is n g'), .en n s'], [], one cnt s' (some d) (.is cnt g)⟩ → StepOK c o sm F E a w := by
            intro s' hs' hp hsm
            subst hp hsm
            have hev' := hev s' (by simp)
            have hown := h.H.own n s' (h.needs _ (by simp))
            have hE0 : nnD (E n) = some (E cnt) := hE
            unfold nnD at hE0
            split at hE0
            · rename_i xs hx
              injection hE0 with hE0
              have hv : ∃ ad, vs n = .pointer (some ad) := by
                rw [hx] at hown
                rcases hs' with rfl | rfl
                all_goals
                  simp only [Own, Rd] at hown
                  obtain ⟨_, b, off, cs, e, fz, hv, _⟩ := hown
                  exact ⟨_, hv⟩
              obtain ⟨ad, hv⟩ := hv
              refine StepOK.of_value (hrun ad (hev'.trans hv)) ?_
              rw [hd]
              refine h.H.leaf_is (s := s') (by simpa using h.fresh 0 (by simp [Pr.np])) hin (same_world w) ?_ [] h.g
              rw [← hE0, ← hx, ← hv]
              rcases hs' with rfl | rfl
              · simp only [Own] at hown ⊢; exact ⟨trivial, hown.2⟩
              · simp only [Own] at hown ⊢; exact ⟨trivial, hown.2⟩
            · cases hE0
          split at ht
          · rename_i s hs
            simp only [Option.some.injEq, Prod.mk.injEq] at ht
            obtain ⟨rfl, rfl⟩ := ht
            have hev' := hev (.b s) (by simp)
            have hown := h.H.own n (.b s) (h.needs _ (by simp))
            simp only [Own] at hown
            obtain ⟨ys, b, cs, e, fz, B', hy, hB, hv, _⟩ := hown
            refine StepOK.of_value (hrun _ (hev'.trans hv)) ⟨vs, Bs, ?_⟩
            rw [hd]
            refine h.H.slot (same_world w) ⟨fun _ => ?_, fun q => (q h.g).elim⟩
            rw [put_self (by rw [h.H.size, h.fits.nt]; exact hdn), hv]
          · simp only [Option.some.injEq, Prod.mk.injEq] at ht
            exact hptr .v (.inl rfl) ht.1.symm ht.2.symm
          · simp only [Option.some.injEq, Prod.mk.injEq] at ht
            exact hptr .y (.inr rfl) ht.1.symm ht.2.symm
          · cases ht
        · cases ht
      · cases ht
    · cases ht
  · cases ht

theorem isPtr_spec {P : Program} {t : TypeId} (h : isPtr P t = true) : P.underlying t = some (.pointer (P.pointee t)) := by
  unfold isPtr at h
  split at h
  · rename_i e he; simp [Program.pointee, he]
  · cases h

theorem trNz_sound {want : Bool} {op : BinOp} {t ty : TypeId} {x : Operand} (ho : o.op = .binOp op t x (.const (.pointer none)) ty) (hop : op = .eql ∧ want = true ∨ op = .neq ∧ want = false) (hp : isPtr cf.P t = true)
    (ht : trNz cf st cnt o g want x = some (p, sm)) (h : At cf c F E a w vs Bs cnt g p sm) (hE : EvP K E cnt p) : StepOK c o sm F E a w := by
  unfold trNz at ht
  simp only [Option.bind_eq_some_iff] at ht
  obtain ⟨⟨α, s, ns⟩, h1, ht⟩ := ht
  simp only at ht
  split at ht
  · rename_i hs
    obtain ⟨rfl, hi, rfl⟩ := leafS_eq ht
    obtain ⟨B, hB, _⟩ := h.opA h1 (fun f hf => hf)
    have hE0 : (nzD (ev E α)).map (fun x => D.b (x == want)) = some (E cnt) := hE
    simp only [Option.map_eq_some_iff] at hE0
    obtain ⟨z, hz, hE1⟩ := hE0
    have hv : ∃ ad : Option Addr, a.eval x = .pointer ad ∧ ad.isNone = z := by
      unfold nzD at hz
      split at hz
      · rename_i q
        injection hz with hz
        rw [q] at hB
        refine ⟨none, ?_, by simp [← hz]⟩
        rcases hs with rfl | rfl
        · simp only [Own, Rd] at hB; exact hB.2
        · simp only [Own, Rd] at hB; exact hB.2
      · rename_i xs q
        injection hz with hz
        rw [q] at hB
        rcases hs with rfl | rfl
        all_goals
          simp only [Own, Rd] at hB
          obtain ⟨_, b, off, cs, e, fz, hv, _⟩ := hB
          exact ⟨_, hv, by simp [← hz]⟩
      · cases hz
    obtain ⟨ad, hv, hz2⟩ := hv
    have he := isPtr_spec hp
    have hP : c.P = cf.P := h.fits.P
    refine leaf_step h hi (same_world w) (v := .bool (z == want)) ?_ (Own.of_rd fun Z => by rw [← hE1]; simp [Rd])
    simp only [execOp, ho]
    refine run_v ?_
    have hnil : a.eval (.const (.pointer none)) = .pointer none := rfl
    rw [hv, hnil, Sem.run_bind]
    have hgd : (eqGuard op t x (.const (.pointer none)) (.pointer ad) (.pointer none)).run c.P w = .ok () w := by
      rcases hop with ⟨rfl, _⟩ | ⟨rfl, _⟩ <;> simp [eqGuard]
    rw [hgd]
    show (binOp op t (.pointer ad) (.pointer none)).run c.P w = _
    rcases hop with ⟨rfl, rfl⟩ | ⟨rfl, rfl⟩
    · rw [run_eql_pointer_nil w t ad (by rw [hP]; exact he)]
      simp [hz2]
    · rw [run_neq_pointer_nil w t ad (by rw [hP]; exact he)]
      simp [hz2]
  · cases ht
end
end Go.Cat

/-
  Structs: the whole of one written into its box.
-/
namespace Go.Cat
set_option linter.unusedVariables false

section
variable (cf : CF) (st : List Fact) (cnt : Nat) (o : Oper) (g : Gd)

/-- A store of what is not yet of the element's shape. -/
def trSq (k : Nat) (t : TypeId) (x v : Operand) : Option (Pr × Sm) :=
  match x with
  | .tmp s => if g = [] ∧ o.dst = none ∧ plain1 cf.P t = true then match findSl st s with
    | some l => match adOf l with
      | some (r, p, []) =>
        (findEn st r).bind fun sr => (sr.under p.length).bind fun es => (owK es).bind fun kk => (trPart cf st g kk v).bind fun a =>
          if r ∉ a.2.1 ∧ kk ≠ 0 then some (.uq r p a.1.1 a.1.2 kk, ⟨[.sl s l, .en r sr] ++ (a.2.2 ++ ((slotsK st k r).map fun x => .sl x.1 (.is r x.2)) ++ (awSlots st k r p).map fun x => .sl x.1 x.2.1), r :: a.2.1,
            .en cnt sr :: ((slotsK st k r).map fun x => .sl x.1 (.is cnt x.2)) ++ (awSlots st k r p).map fun x => .sl x.1 (.aw cnt [x.2.2] [])⟩)
          else none
      | _ => none
    | none => none
    else none
  | _ => none
/-- A variable takes a new name (and is then frozen). -/
def trFz (x : Operand) : Option (Pr × Sm) :=
  match x, o.dst with
  | .tmp t, some d => if g = [] ∧ d < cf.nt then match findSl st t with
    | some (.is n []) => (findEn st n).map fun s => (.cy (.e n), ⟨[.sl t (.is n []), .en n s] ++ ((slotsOf st n).filter fun y => y.1 != d).map (fun y => .sl y.1 (.is n y.2)), [n],
        .en cnt s :: .sl d (.is cnt []) :: ((slotsOf st n).filter fun y => y.1 != d).map fun y => .sl y.1 (.is cnt y.2)⟩)
    | _ => none
    else none
  | _, _ => none
end

section
variable {cf : CF} {c : Cx} {F : Fact → Prop} {E : Nat → D} {a : Act} {w : World} {vs : Nat → Value} {Bs : Nat → List Nat} {cnt : Nat} {g : Gd} {sm : Sm} {st : List Fact} {o : Oper} {p : Pr}
  {K : Nat → List D → List D → Prop}

theorem trSw_sound {k : Nat} {t : TypeId} {x v : Operand} (ho : o.op = .store t x v) (ht : trSw cf st cnt o g k t x v = some (p, sm)) (h : At cf c F E a w vs Bs cnt g p sm) (hE : EvP K E cnt p) : StepOK c o sm F E a w := by
  unfold trSw at ht
  split at ht
  · rename_i u
    split at ht
    · rename_i hc
      obtain ⟨hg0, hdst⟩ := hc
      simp only [Option.bind_eq_some_iff] at ht
      obtain ⟨n, hn, ht⟩ := ht
      split at ht
      · rename_i r hl
        split at ht
        · rename_i s hs
          simp only [Option.bind_eq_some_iff] at ht
          obtain ⟨⟨α, sv, ns⟩, h1, ht⟩ := ht
          simp only at ht
          split at ht
          · rename_i m
            split at ht
            · rename_i hcm
              obtain ⟨hmr, hsv⟩ := hcm
              simp only [Option.some.injEq, Prod.mk.injEq] at ht
              obtain ⟨rfl, rfl⟩ := ht
              have hP : c.P = cf.P := h.fits.P
              have hr : F (.en r (.b s)) := h.needs _ (by simp)
              have hown := h.H.own r _ hr
              simp only [Own] at hown
              obtain ⟨ys, b, old, e, fz, B', hy, hB, hv, hb, hth, hol, _⟩ := hown
              have hfz : fz = (0, 0) := hth
              subst hfz
              have hloc : a.tmps[u]? = some (vs r) := (h.H.loc u _ (h.needs (.sl u (.is r [])) (by simp))).1 (by simp [gdOK])
              have hev : a.eval (.tmp u) = .pointer (some ⟨b, 0, none⟩) := by rw [← hv]; simp [Act.eval, Array.getD_eq_getD_getElem?, hloc]
              obtain ⟨B, hBo, hB2⟩ := h.opA h1 (fun f hf => by simp [hf])
              obtain ⟨k1, k2, k3⟩ := hB2 m rfl
              have hE0 : (if lenG n (E r) = true then wlD n (ev E (.e m)) else none) = some (E cnt) := hE
              have hon : old.size = n := by
                split at hE0
                · rename_i q
                  rw [hy] at q
                  simp only [lenG, beq_iff_eq] at q
                  omega
                · cases hE0
              rw [if_pos (by rw [hy]; simp [lenG]; omega)] at hE0
              obtain ⟨xs, e1, e2, e3, e4⟩ := wlD_spec hE0
              rw [e1] at hBo
              -- the new cells
              obtain ⟨cs, hcs, hcl, Bn, hbn, hEach, hone⟩ : ∃ cs, a.eval v = .agg cs ∧ cs.size = xs.length ∧ ∃ Bn, Bn = (if sv = .v then [] else Bs m) ∧ Each (Own c.fid w.heap (OB F Bs) c.Xb s) xs cs.toList Bn ∧ ∀ v ∈ cs.toList, v.oneCell' = true := by
                rcases hsv with rfl | ⟨rfl, rfl⟩
                · simp only [Own] at hBo
                  obtain ⟨zs, cs, hz, hvv, hl2, he⟩ := hBo
                  injection hz with hz; subst hz
                  refine ⟨cs, hvv, hl2, B, by simp [k3], he, Each.one e4 (by simpa using hl2) he⟩
                · simp only [Own, Rd] at hBo
                  obtain ⟨_, cs, hvv, hl2, he⟩ := hBo
                  exact ⟨cs, hvv, hl2, [], by simp, eachV.2 ⟨rfl, he⟩, RdL.one e4 (by simpa using hl2) he⟩
              have hlt : ∀ n s, F (.en n s) → ∀ b ∈ Bs n, b < w.heap.size := fun n s hs => Own.blocks_lt s _ _ _ (h.H.own n s hs)
              have hBnm : ∀ b' ∈ Bn, b' ∈ Bs m := by
                intro b' hb'
                rw [hbn] at hb'
                split at hb'
                · simp at hb'
                · exact hb'
              have hbr : b ∈ Bs r := by rw [hB]; simp
              have hbn2 : b ∉ Bn := fun q => h.H.apart m sv r _ k1 hr hmr b (hBnm b q) hbr
              have hrun : (execOp a.eval o).run c.P w = .ok .skip (w.setRow b cs) := by
                simp only [execOp, ho]
                rw [Sem.run_bind, hev, hcs, run_storeAtN (by rw [hP]; exact hn) hb hon (by omega) hone]
                rfl
              have hheap' := setRow_heap w b old cs e (0, 0) hb
              have hagr : Agr (fun x => x = b) w.heap (w.setRow b cs).heap := ⟨by simp, fun x _ hx => setRow_other w b x _ hx⟩
              have hfr : Fresh F cnt := by simpa using h.fresh 0 (by simp [Pr.np])
              have hrc : r ≠ cnt := by rintro rfl; exact hfr.1 _ hr
              have hms : F (.en m sv) := k1
              have H1 := h.H.put (m := cnt) (s := .b s) (v := vs r) (B := b :: Bn) (dst := none) (ns := []) hfr (by simp [inB]) (r :: (if sv = .v then [] else [m])) (hagr.mono fun x _ hx => ⟨r, _, hr, by simp, by rw [hx]; exact hbr⟩) rfl rfl rfl
                (by
                  rw [e2]
                  simp only [Own]
                  refine ⟨xs, b, cs, e, (0, 0), Bn, rfl, rfl, hv, hheap', rfl, hcl, Each.imp (fun d v B1 hB1 q => ?_) hEach⟩
                  refine Own.ext hagr (fun x _ hx => ⟨r, _, hr, by rw [hx]; exact hbr⟩) ?_ _ _ _ _ (fun x hx q => hbn2 (by rw [← q]; exact hB1 x hx)) q
                  rintro x _ (⟨n1, s1, q1, _, q3⟩ | q)
                  · exact ⟨n1, s1, q1, q3⟩
                  · rcases List.mem_cons.1 q with rfl | q
                    · exact ⟨r, _, hr, hbr⟩
                    · exact ⟨m, _, hms, hBnm x q⟩)
                (by
                  refine List.nodup_cons.2 ⟨hbn2, ?_⟩
                  rw [hbn]
                  split
                  · simp
                  · exact h.H.nodup m _ hms)
                (fun x hx => by
                  rcases List.mem_cons.1 hx with rfl | hx
                  · exact .inl ⟨r, _, hr, by simp, hbr⟩
                  · rw [hbn] at hx
                    split at hx
                    · simp at hx
                    · rename_i q
                      exact .inl ⟨m, _, hms, by simp [q], hx⟩) h.g
              refine StepOK.of_skip hrun hdst ⟨upd vs cnt (vs r), upd Bs cnt (b :: Bn), ?_⟩
              refine H1.more2 ?_ ?_
              · intro n' s'
                simp only [next, one, List.mem_cons, List.mem_map, List.not_mem_nil, or_false]
                constructor
                · rintro (q | q | ⟨_, _, q⟩)
                  · exact .inl q
                  · exact .inr q
                  · cases q
                · rintro (q | q)
                  · exact .inl q
                  · exact .inr (.inl q)
              · intro t' l' hf
                rcases hf with ⟨q1, _⟩ | q
                · exact .inl (.inl ⟨q1, by simp⟩)
                · simp only [List.mem_cons, List.mem_map] at q
                  rcases q with q | ⟨⟨u', gu⟩, hu, q⟩
                  · cases q
                  · injection q with q1 q2
                    subst q1 q2
                    have hf0 : F (.sl u' (.is r gu)) := h.needs _ (by simp only [List.mem_append, List.mem_map]; exact .inr (.inr ⟨(u', gu), hu, rfl⟩))
                    have := H1.loc u' (.is r gu) (.inl ⟨hf0, by simp⟩)
                    right
                    refine ⟨fun hg => ?_, this.2⟩
                    have h1 := this.1 hg
                    rw [upd_ne vs _ hrc] at h1
                    rw [upd_same]; exact h1
            · cases ht
          · cases ht
        · cases ht
      · cases ht
    · cases ht
  · cases ht

theorem trSq_sound {k : Nat} {t : TypeId} {x v : Operand} (ho : o.op = .store t x v) (ht : trSq cf st cnt o g k t x v = some (p, sm)) (h : At cf c F E a w vs Bs cnt g p sm) (hE : EvP K E cnt p) : StepOK c o sm F E a w := by
  unfold trSq at ht
  split at ht
  · rename_i s
    split at ht
    · rename_i hc
      obtain ⟨hg0, hdst, hpl⟩ := hc
      split at ht
      · rename_i l hl
        split at ht
        · rename_i r q had
          simp only [Option.bind_eq_some_iff] at ht
          obtain ⟨sr, hsr, es, hes, kk, hkk, ⟨α, ks, ns⟩, hput, ht⟩ := ht
          simp only at ht
          split at ht
          · rename_i hck
            obtain ⟨hrk, hk0⟩ := hck
            simp only [Option.some.injEq, Prod.mk.injEq] at ht
            obtain ⟨rfl, rfl⟩ := ht
            have hE0 : (if putB kk (ev E α.1, α.2) = true then (q.mapM (PE.ev E)).bind fun is => setP is (E r) (ev E α.1) else none) = some (E cnt) := hE
            split at hE0
            · rename_i hpb
              have hnsn : ∀ f ∈ ns, f ∈ ([.sl s l, .en r sr] ++ (ns ++ ((slotsK st k r).map fun x => Fact.sl x.1 (.is r x.2)) ++ (awSlots st k r q).map fun x => Fact.sl x.1 x.2.1)) := fun f hf => by simp [hf]
              have hal := trPart_alive hput h hnsn
              have hesk := owK_spec hkk
              subst hesk
              refine store_core ho hg0 hdst hpl had hes hrk h (by simp [Pr.np]) (putB_one hpb) hE0 hal fun O' hO hfr => ?_
              obtain ⟨Bx, x1, x2'⟩ := trPart_sound hput h hnsn hO (fun q => (hk0 q).elim) hpb
              refine ⟨Bx, x1, ?_, fun b hb => ?_⟩
              · rcases x2' with rfl | ⟨n, hn, rfl, q⟩
                · simp
                · obtain ⟨rn, hrn⟩ := hal n hn
                  exact h.H.nodup n rn hrn
              · rcases x2' with rfl | ⟨n, hn, rfl, q⟩
                · simp at hb
                · refine ⟨n, hn, hb, ?_⟩
                  cases kk with
                  | zero => exact (q rfl).elim
                  | succ kk => simp [ow]
            · cases hE0
          · cases ht
        · cases ht
      · cases ht
    · cases ht
  · cases ht

theorem trFz_sound {x : Operand} (hx : (execOp a.eval o).run c.P w = .ok (.value (a.eval x)) w) (ht : trFz cf st cnt o g x = some (p, sm)) (h : At cf c F E a w vs Bs cnt g p sm) (hE : EvP K E cnt p) : StepOK c o sm F E a w := by
  unfold trFz at ht
  split at ht
  · rename_i t d hd
    split at ht
    · rename_i hc
      obtain ⟨hg0, hdn⟩ := hc
      split at ht
      · rename_i n hl
        simp only [Option.map_eq_some_iff, Prod.mk.injEq] at ht
        obtain ⟨s, hs, rfl, rfl⟩ := ht
        have hn : F (.en n s) := h.needs _ (by simp)
        have hloc := (h.H.loc t _ (h.needs (.sl t (.is n [])) (by simp))).1 (by simp [gdOK])
        have hev : a.eval (.tmp t) = vs n := by simp [Act.eval, Array.getD_eq_getD_getElem?, hloc]
        have hE' : E n = E cnt := by
          have : some (E n) = some (E cnt) := hE
          injection this
        have hfr : Fresh F cnt := by simpa using h.fresh 0 (by simp [Pr.np])
        have hnc : n ≠ cnt := by rintro rfl; exact hfr.1 _ hn
        have hin : inB (some d) c.nt = true := by rw [h.fits.nt]; simpa [inB] using hdn
        rw [hev] at hx
        have H1 := h.H.put (m := cnt) (s := s) (v := vs n) (B := Bs n) (dst := some d) (ns := []) (w' := w) hfr hin [n] (Agr.refl _ _) rfl rfl rfl
          (by
            rw [← hE']
            refine Own.ext (Agr.refl (fun _ => False) _) (fun _ _ q => q.elim) ?_ _ _ _ _ (fun _ _ q => q) (h.H.own n s hn)
            rintro b _ (⟨n1, s1, q1, _, q3⟩ | q)
            · exact ⟨n1, s1, q1, q3⟩
            · exact ⟨n, s, hn, q⟩) (h.H.nodup n s hn) (fun b hb => .inl ⟨n, s, hn, by simp, hb⟩) h.g
        refine StepOK.of_value hx ⟨upd vs cnt (vs n), upd Bs cnt (Bs n), ?_⟩
        rw [hd]
        subst hg0
        refine H1.more2 ?_ ?_
        · intro n' s'
          simp only [next, one, List.mem_cons, List.mem_map, List.not_mem_nil, or_false]
          constructor
          · rintro (q | q | q | ⟨_, _, q⟩)
            · exact .inl q
            · exact .inr (.inl q)
            · cases q
            · cases q
          · rintro (q | q | q)
            · exact .inl q
            · exact .inr (.inl q)
            · cases q
        · intro t' l' hf
          rcases hf with ⟨q1, q2⟩ | q
          · exact .inl (.inl ⟨q1, q2⟩)
          · simp only [List.mem_cons, List.mem_map] at q
            rcases q with q | q | ⟨⟨u, gu⟩, hu, q⟩
            · cases q
            · exact .inl (.inr (by simp [one, q]))
            · injection q with q1 q2
              subst q1 q2
              have hud : u ≠ d := by have := (List.mem_filter.1 hu).2; simpa using this
              have hf0 : F (.sl u (.is n gu)) := h.needs _ (by simp only [List.mem_append, List.mem_map]; exact .inr ⟨(u, gu), hu, rfl⟩)
              have := H1.loc u (.is n gu) (.inl ⟨hf0, by simpa using hud⟩)
              right
              refine ⟨fun hg => ?_, this.2⟩
              have h1 := this.1 hg
              rw [upd_ne vs _ hnc] at h1
              rw [upd_same]; exact h1
      · cases ht
    · cases ht
  · cases ht
end
end Go.Cat

/-
  All operations together: the translation of one operation, and that it is sound.
-/
namespace Go.Cat

section
variable (cf : CF) (sg : Nat → Option Sg) (st : List Fact) (cnt : Nat) (o : Oper) (g : Gd)

def trEx (x : Operand) (ix : Nat) : Option (Pr × Sm) :=
  match x, o.dst with
  | .tmp t, some d => if d < cf.nt then match findSl st t with
    | some (.tu ns g') => if g'.isPrefixOf g then (ns[ix]?).map fun n => (.nop, ⟨[.sl t (.tu ns g')], [], [.sl d (.is n g)]⟩) else none
    | _ => none
    else none
  | _, _ => none

def trOp (k : Nat) : Option (Pr × Sm) :=
  match o.op with
  | .extract x ix => trEx cf st o g x ix
  | .call { callee := .value (.func f), args, .. } => match cf.gof f with
    | some m => trCallTo cf sg st cnt o g m args.toList
    | none => none
  | .move x => match trTu cf st o g x with
    | some r => some r
    | none => trPure cf st cnt o g k
  | .slice t x lo hi mx => trSl cf st cnt o g t x lo hi mx
  | .convert s d x => if isBytes cf.P s = true then match opA cf st g x with
      | some (_, sh, _) => if okBs sh = true then trBs cf st cnt o g s d x else none
      | none => none
    else trPure cf st cnt o g k
  | .indexAddr t x i => trIx cf st cnt o g t x i
  | .load t x => if (structN cf.P t).isSome then trLw cf st cnt o g k t x else trLd cf st o g t x
  | .store t x v => if (structN cf.P t).isSome then trSw cf st cnt o g k t x v else match trSt cf st cnt o g k t x v with
    | some r => some r
    | none => trSq cf st cnt o g k t x v
  | .alloc t => trAl cf cnt o g k t
  | .box t x => trBx cf st cnt o g k t x
  | .build t ps => trBd cf st cnt o g k t ps
  | .fieldAddr t x f => trFa cf st cnt o g t x f
  | .nilCheck x => trNc cf st cnt o g x
  | .binOp op t x y _ => if isPtr cf.P t = true then match op, y with
      | .eql, .const (.pointer none) => trNz cf st cnt o g true x
      | .neq, .const (.pointer none) => trNz cf st cnt o g false x
      | _, _ => none
    else trPure cf st cnt o g k
  | .makeSlice t l c => trMk cf st cnt o g k t l c
  | .buildSlice t len ps => trLi cf st cnt o g k t len ps
  | .call { callee := .builtin .append, args, argTypes } => match args, argTypes with
    | ⟨[s, x]⟩, ⟨[t, t']⟩ => if t = t' then (match trAp cf st cnt o g t s x with
      | some r => some r
      | none => trAp2 cf st cnt o g t s x) else none
    | _, _ => none
  | _ => trPure cf st cnt o g k

/-- The like, where the hint may ask that what is made be frozen. -/
def trOpF (k : Nat) : Option (Pr × Sm) :=
  if 1000 ≤ k then match o.op with
    | .move x => trFz cf st cnt o g x
    | _ => trOp cf sg st cnt o g (k - 1000)
  else trOp cf sg st cnt o g k
end

theorem exec_call {o : Oper} {f : FuncId} {args : Array Operand} {ts : Array TypeId} (ho : o.op = .call { callee := .value (.func f), args, argTypes := ts }) (P : Program) (w : World) (a : Act) :
    (execOp a.eval o).run P w = (callFunc f (args.toList.map a.eval).toArray).run P w := by
  simp only [execOp, ho]
  rw [Sem.run_bind]
  show (Result.andThen ((Pure.pure _ : Sem Deferred).run P w) _) = _
  simp only [Sem.run_pure, Result.andThen]
  show (invoke (.fn (.func f) #[]) (#[] ++ args.map a.eval)).run P w = _
  have : (args.toList.map a.eval).toArray = args.map a.eval := by
    apply Array.ext'; simp
  rw [this]
  simp [invoke]

section
variable {cf : CF} {sg : Nat → Option Sg} {c : Cx} {F : Fact → Prop} {E : Nat → D} {a : Act} {w : World} {vs : Nat → Value} {Bs : Nat → List Nat} {cnt : Nat} {g : Gd} {sm : Sm} {st : List Fact} {o : Oper} {p : Pr}
  {K : Nat → List D → List D → Prop}

theorem trEx_sound {x : Operand} {ix : Nat} (ho : o.op = .extract x ix) (ht : trEx cf st o g x ix = some (p, sm)) (h : At cf c F E a w vs Bs cnt g p sm) : StepOK c o sm F E a w := by
  unfold trEx at ht
  split at ht
  · rename_i t d hd
    split at ht
    · rename_i hlt
      split at ht
      · rename_i ns g' hl
        split at ht
        · rename_i hg'
          simp only [Option.map_eq_some_iff, Prod.mk.injEq] at ht
          obtain ⟨n, hn, _, rfl⟩ := ht
          have hf := h.needs (.sl t (.tu ns g')) (by simp)
          have hl1 : a.tmps[t]? = some (.tuple (ns.map vs).toArray) := h.H.loc t _ hf (fun x hx => h.g x ((List.isPrefixOf_iff_prefix.1 hg').subset hx))
          have hev : a.eval (.tmp t) = .tuple (ns.map vs).toArray := by simp [Act.eval, hl1]
          have hr : (execOp a.eval o).run c.P w = .ok (.value (vs n)) w := by
            simp only [execOp, ho]
            refine run_v ?_
            rw [hev]
            simp [Instr.extract, hn]
          refine StepOK.of_value hr ⟨vs, Bs, ?_⟩
          rw [hd]
          refine HoldsG.step (fun _ => False) (fun _ => False) (fun _ => False) (some d) h.H (fun _ _ => rfl) (fun _ _ => rfl) (fun _ _ _ _ _ q => q) (fun _ q => q.elim) (Agr.refl _ _) rfl rfl rfl
            (fun t ht => put_get ht) put_size put_defers ?_ (fun _ _ q => q.elim) (fun _ _ q => q.elim) (fun _ _ q => q.elim) (fun _ _ _ _ q => q.elim) ?_
          · rintro f (⟨h1, h2⟩ | h1)
            · left
              refine ⟨h1, ?_⟩
              cases f with
              | en n s => exact fun q => q
              | sl u l => exact h2
            · simp at h1; subst h1; right; rfl
          · rintro u l hu (⟨_, h2⟩ | h2)
            · exact (h2 hu).elim
            · simp at h2
              obtain ⟨rfl, rfl⟩ := h2
              exact ⟨fun _ => put_self (by rw [h.H.size, h.fits.nt]; exact hlt), fun q => (q h.g).elim⟩
        · simp at ht
      · simp at ht
    · simp at ht
  · simp at ht

theorem trOp_sound (hs : Sound cf sg K) {k : Nat} (ht : trOp cf sg st cnt o g k = some (p, sm)) (h : At cf c F E a w vs Bs cnt g p sm) (hE : EvP K E cnt p) : StepOK c o sm F E a w := by
  unfold trOp at ht
  split at ht
  · rename_i x ix ho
    exact trEx_sound ho ht h
  · rename_i f args ts ho
    split at ht
    · rename_i m hm
      refine trCallTo_sound hs h.fits ht h.H h.fresh h.needs h.g hE ?_
      rw [exec_call ho, h.fits.gof f m hm]
    · simp at ht
  · rename_i x ho
    split at ht
    · rename_i r hr
      injection ht with ht
      subst ht
      exact trTu_sound (by simp only [execOp, ho]; rfl) hr h
    · exact trPure_sound ht h hE
  · rename_i t x lo hi mx ho
    exact trSl_sound ho ht h hE
  · rename_i s d x ho
    split at ht
    · split at ht
      · rename_i α sh ns hx
        split at ht
        · rename_i hok
          refine trBs_sound ho ht (fun α' sh' ns' hx' => ?_) h hE
          rw [hx] at hx'
          simp only [Option.some.injEq, Prod.mk.injEq] at hx'
          obtain ⟨_, rfl, _⟩ := hx'
          exact hok
        · cases ht
      · cases ht
    · exact trPure_sound ht h hE
  · rename_i t x i ho
    exact trIx_sound ho ht h hE
  · rename_i t x ho
    split at ht
    · exact trLw_sound ho ht h hE
    · exact trLd_sound ho ht h
  · rename_i t x v ho
    split at ht
    · exact trSw_sound ho ht h hE
    · split at ht
      · rename_i r hr
        injection ht with ht
        subst ht
        exact trSt_sound ho hr h hE
      · exact trSq_sound ho ht h hE
  · rename_i t ho
    exact trAl_sound ho ht h hE
  · rename_i t x ho
    exact trBx_sound ho ht h hE
  · rename_i t ps ho
    exact trBd_sound ho ht h hE
  · rename_i t x f ho
    exact trFa_sound ho ht h hE
  · rename_i x ho
    exact trNc_sound ho ht h hE
  · rename_i op t x y ty ho
    split at ht
    · rename_i hp
      split at ht
      · exact trNz_sound ho (.inl ⟨rfl, rfl⟩) hp ht h hE
      · exact trNz_sound ho (.inr ⟨rfl, rfl⟩) hp ht h hE
      · cases ht
    · exact trPure_sound ht h hE
  · rename_i t l c ho
    exact trMk_sound ho ht h hE
  · rename_i t len ps ho
    exact trLi_sound ho ht h hE
  · rename_i args ts ho
    split at ht
    · split at ht
      · rename_i hh
        subst hh
        split at ht
        · rename_i r hr
          injection ht with ht
          subst ht
          exact trAp_sound ho hr h hE
        · exact trAp2_sound ho ht h hE
      · cases ht
    · cases ht
  · exact trPure_sound ht h hE

theorem trOpF_sound (hs : Sound cf sg K) {k : Nat} (ht : trOpF cf sg st cnt o g k = some (p, sm)) (h : At cf c F E a w vs Bs cnt g p sm) (hE : EvP K E cnt p) : StepOK c o sm F E a w := by
  unfold trOpF at ht
  split at ht
  · split at ht
    · rename_i x ho
      exact trFz_sound (by simp only [execOp, ho]; rfl) ht h hE
    · exact trOp_sound hs ht h hE
  · exact trOp_sound hs ht h hE
end
end Go.Cat

/-
  An operation writes no slot but its own.
-/
namespace Go.Cat

theorem wp_frame {P : Program} {o : Oper} {a : Act} {w : World} {nxt nxt' : Act → World → Prop} {Q : Exit → Act → World → Prop} (h : o.wp P a w nxt Q)
    (hk : ∀ a' w', nxt a' w' → (∀ t, some t ≠ o.dst → a'.tmps[t]? = a.tmps[t]?) → nxt' a' w') : o.wp P a w nxt' Q := by
  unfold Oper.wp Oper.upon at *
  split at h
  · exact hk _ _ h fun t ht => put_get ht
  · exact hk _ _ h fun t ht => put_get ht
  · refine hk _ _ h fun t ht => ?_
    have := put_get (a := a) (v := undef) ht
    cases hd : o.dst <;> simp_all [Act.put]
  · refine h.mono ?_
    rintro e w'' he
    cases e with
    | returned v => exact hk _ _ he fun t ht => put_get ht
    | panicked c => exact he
    | outgrown => exact he
  · intro b cs
    obtain ⟨v, w'', hR, hs⟩ := h b cs
    exact ⟨v, w'', hk _ _ hR fun t ht => put_get ht, hs⟩
  · exact h
  · exact h

end Go.Cat

/-
  Regions: one operation behind the other, guards, and orders that are left open.
-/
namespace Go.Cat

def A.ments : A → List Nat
  | .e n => [n]
  | .c _ => []

def oments : Option A → List Nat
  | some a => a.ments
  | none => []

def Pr.ments : Pr → List Nat
  | .nop | .cs .. => []
  | .cy a | .un _ a | .cv _ a | .sn a | .bs a | .sy a => a.ments
  | .bi _ a b | .bb _ a b | .sx a b | .ap _ a b | .mx a b | .mn a b | .mk _ a b | .iy a b => a.ments ++ b.ments
  | .pk a b c => a.ments ++ b.ments ++ c.ments
  | .ln a p => a.ments ++ p.flatMap PE.ments
  | .ix a p i => a.ments ++ p.flatMap PE.ments ++ i.ments
  | .up n p a => n :: (p.flatMap PE.ments ++ a.ments)
  | .sb _ a lo hi => a.ments ++ oments lo ++ oments hi
  | .ss a lo hi => a.ments ++ oments lo ++ oments hi
  | .li _ xs => xs.flatMap A.ments
  | .ca _ xs _ => xs.flatMap A.ments
  | .bg _ xs => xs.flatMap fun x => x.1.ments
  | .bp a | .gp a _ | .nz _ a | .nn a | .wl _ a | .fp _ a _ => a.ments
  | .gt a p => a.ments ++ p.flatMap PE.ments
  | .ws n _ a => n :: a.ments
  | .uq n p a _ _ => n :: (p.flatMap PE.ments ++ a.ments)

theorem ev_congr {E E' : Nat → D} {a : A} (h : ∀ n ∈ a.ments, E n = E' n) : ev E a = ev E' a := by
  cases a with
  | e n => exact h n (by simp [A.ments])
  | c d => rfl

theorem PE.ev_congr {E E' : Nat → D} {p : PE} (h : ∀ n ∈ p.ments, E n = E' n) : PE.ev E p = PE.ev E' p := by
  cases p with
  | e n => simp only [PE.ev]; rw [h n (by simp [PE.ments])]
  | k n => rfl

theorem pathE_congr {E E' : Nat → D} : ∀ {p : List PE}, (∀ n ∈ p.flatMap PE.ments, E n = E' n) → p.mapM (PE.ev E) = p.mapM (PE.ev E')
  | [], _ => rfl
  | x :: p, h => by
    simp only [List.mapM_cons]
    rw [PE.ev_congr fun n hn => h n (by simp [hn]), pathE_congr fun n hn => h n (by simp only [List.flatMap_cons, List.mem_append]; exact .inr hn)]

theorem map_congr {E E' : Nat → D} : ∀ {xs : List A}, (∀ n ∈ xs.flatMap A.ments, E n = E' n) → xs.map (ev E) = xs.map (ev E')
  | [], _ => rfl
  | x :: xs, h => by
    simp only [List.map_cons]
    rw [ev_congr fun n hn => h n (by simp [hn]), map_congr fun n hn => h n (by simp only [List.flatMap_cons, List.mem_append]; exact .inr hn)]

theorem mapx_congr {E E' : Nat → D} : ∀ {xs : List (A × Nat)}, (∀ n ∈ xs.flatMap (fun x => x.1.ments), E n = E' n) → (xs.map fun x => (ev E x.1, x.2)) = (xs.map fun x => (ev E' x.1, x.2)) ∧ (xs.map fun x => ev E x.1) = xs.map fun x => ev E' x.1
  | [], _ => ⟨rfl, rfl⟩
  | x :: xs, h => by
    have ih := mapx_congr (E := E) (E' := E') (xs := xs) fun n hn => h n (by simp only [List.flatMap_cons, List.mem_append]; exact .inr hn)
    simp only [List.map_cons]
    rw [ev_congr fun n hn => h n (by simp [hn]), ih.1, ih.2]
    exact ⟨rfl, rfl⟩

theorem omap_congr {E E' : Nat → D} {x : Option A} (h : ∀ n ∈ oments x, E n = E' n) : x.map (ev E) = x.map (ev E') := by
  cases x with
  | none => rfl
  | some a => exact congrArg some (ev_congr h)

theorem evP_congr {E E' : Nat → D} {p : Pr} (h : ∀ n ∈ p.ments, E n = E' n) : evP E p = evP E' p := by
  cases p <;> simp only [Pr.ments, List.mem_append, List.mem_cons] at h <;> simp only [evP, pathD]
  case cy a => rw [ev_congr h]
  case bi a b => rw [ev_congr fun n hn => h n (.inl hn), ev_congr fun n hn => h n (.inr hn)]
  case bb a b => rw [ev_congr fun n hn => h n (.inl hn), ev_congr fun n hn => h n (.inr hn)]
  case un a => rw [ev_congr h]
  case pk a b c => rw [ev_congr fun n hn => h n (.inl (.inl hn)), ev_congr fun n hn => h n (.inl (.inr hn)), ev_congr fun n hn => h n (.inr hn)]
  case cv a => rw [ev_congr h]
  case ln a p => rw [ev_congr fun n hn => h n (.inl hn), pathE_congr fun n hn => h n (.inr hn)]
  case sn a => rw [ev_congr h]
  case sx a b => rw [ev_congr fun n hn => h n (.inl hn), ev_congr fun n hn => h n (.inr hn)]
  case ss a lo hi => rw [ev_congr fun n hn => h n (.inl (.inl hn)), omap_congr fun n hn => h n (.inl (.inr hn)), omap_congr fun n hn => h n (.inr hn)]
  case ix a p i => rw [ev_congr fun n hn => h n (.inl (.inl hn)), pathE_congr fun n hn => h n (.inl (.inr hn)), ev_congr fun n hn => h n (.inr hn)]
  case up n p a => rw [h n (.inl rfl), pathE_congr fun n hn => h n (.inr (.inl hn)), ev_congr fun n hn => h n (.inr (.inr hn))]
  case sb a lo hi => rw [ev_congr fun n hn => h n (.inl (.inl hn)), omap_congr fun n hn => h n (.inl (.inr hn)), omap_congr fun n hn => h n (.inr hn)]
  case ap a b => rw [ev_congr fun n hn => h n (.inl hn), ev_congr fun n hn => h n (.inr hn)]
  case mk a b => rw [ev_congr fun n hn => h n (.inl hn), ev_congr fun n hn => h n (.inr hn)]
  case iy a b => rw [ev_congr fun n hn => h n (.inl hn), ev_congr fun n hn => h n (.inr hn)]
  case li xs => rw [map_congr h]
  case bs a => rw [ev_congr h]
  case sy a => rw [ev_congr h]
  case mx a b => rw [ev_congr fun n hn => h n (.inl hn), ev_congr fun n hn => h n (.inr hn)]
  case mn a b => rw [ev_congr fun n hn => h n (.inl hn), ev_congr fun n hn => h n (.inr hn)]
  case bg k xs => rw [(mapx_congr h).1, (mapx_congr h).2]
  case bp a => rw [ev_congr h]
  case gp a k => rw [ev_congr h]
  case nz w a => rw [ev_congr h]
  case nn a => rw [ev_congr h]
  case wl k a => rw [ev_congr h]
  case ws n k a => rw [h n (.inl rfl), ev_congr fun m hm => h m (.inr hm)]
  case gt a p => rw [ev_congr fun n hn => h n (.inl hn), pathE_congr fun n hn => h n (.inr hn)]
  case fp fl a k => rw [ev_congr h]
  case uq n p a i k => rw [h n (.inl rfl), pathE_congr fun n hn => h n (.inr (.inl hn)), ev_congr fun n hn => h n (.inr (.inr hn))]

/-- The entry that an item passed over makes. -/
def skD (E : Nat → D) (z : List (Option Nat)) (j : Nat) : D := match z[j]? with
  | some (some m) => E m
  | _ => .u

theorem skE_length {E : Nat → D} : ∀ (z : List (Option Nat)) (n : Nat), (skE E z n).length = n
  | _, 0 => by simp [skE]
  | [], n + 1 => by simp [skE, skE_length [] n]
  | some m :: z, n + 1 => by simp [skE, skE_length z n]
  | none :: z, n + 1 => by simp [skE, skE_length z n]

theorem skE_get {E : Nat → D} : ∀ (z : List (Option Nat)) (n j : Nat), j < n → (skE E z n)[j]? = some (skD E z j)
  | _, 0, j => fun h => by omega
  | [], n + 1, 0 => fun h => by simp [skE, skD]
  | [], n + 1, j + 1 => fun h => by have := skE_get (E := E) [] n j (by omega); simpa [skE, skD] using this
  | some m :: z, n + 1, 0 => fun h => by simp [skE, skD]
  | some m :: z, n + 1, j + 1 => fun h => by have := skE_get (E := E) z n j (by omega); simpa [skE, skD] using this
  | none :: z, n + 1, 0 => fun h => by simp [skE, skD]
  | none :: z, n + 1, j + 1 => fun h => by have := skE_get (E := E) z n j (by omega); simpa [skE, skD] using this

def zments (z : List (Option Nat)) : List Nat := z.filterMap id

theorem skD_congr {E E' : Nat → D} {z : List (Option Nat)} {j : Nat} (h : ∀ n ∈ zments z, E n = E' n) : skD E z j = skD E' z j := by
  unfold skD
  split
  · rename_i m hm
    exact h m (List.mem_filterMap.2 ⟨some m, List.mem_of_getElem? hm, rfl⟩)
  · rfl

/-- What an item makes, told of the entries as they are at the region's end. -/
def ItOK (K : Nat → List D → List D → Prop) (E : Nat → D) (cnt : Nat) (it : It) : Prop :=
  match gdE E it.g with
  | some true => EvP K E cnt it.p
  | some false => ∀ j, j < it.p.np → E (cnt + j) = skD E it.z j
  | none => False

/-- All items, in the order of the text. -/
def ItsOK (K : Nat → List D → List D → Prop) (E : Nat → D) : Nat → List It → Prop
  | _, [] => True
  | cnt, it :: r => ItOK K E cnt it ∧ ItsOK K E (cnt + it.p.np) r

def nps : List It → Nat
  | [] => 0
  | it :: r => it.p.np + nps r

/-- No item looks at an entry that is not there yet. -/
def mentsOK : Nat → List It → Bool
  | _, [] => true
  | cnt, it :: r => (it.p.ments.all fun n => decide (n < cnt)) && ((zments it.z).all fun n => decide (n < cnt)) && (it.g.all fun x => decide (x.1 < cnt)) && mentsOK (cnt + it.p.np) r

theorem gdE_congr {E E' : Nat → D} : ∀ {g : Gd}, (∀ x ∈ g, E x.1 = E' x.1) → gdE E g = gdE E' g
  | [], _ => rfl
  | (n, b) :: g, h => by
    simp only [gdE]
    rw [h (n, b) (by simp), gdE_congr fun x hx => h x (by simp [hx])]

theorem E_append {e t : Env} {n : Nat} (h : n < e.length) : Env.E (e ++ t) n = Env.E e n := by
  simp [Env.E, List.getD_eq_getElem?_getD, List.getElem?_append_left h]

theorem E_new {e t : Env} {j : Nat} : Env.E (e ++ t) (e.length + j) = t.getD j .u := by
  simp only [Env.E, List.getD_eq_getElem?_getD]
  rw [List.getElem?_append_right (by omega)]
  simp

theorem EvP_congr {K : Nat → List D → List D → Prop} {E E' : Nat → D} {cnt : Nat} {p : Pr} (h : ∀ n ∈ p.ments, E n = E' n) (hn : ∀ j, j < p.np → E (cnt + j) = E' (cnt + j)) (k : EvP K E cnt p) : EvP K E' cnt p := by
  cases p
  case nop => trivial
  case ca g xs r =>
    obtain ⟨rs, h1, h2, h3⟩ := k
    refine ⟨rs, ?_, h2, fun j hj => ?_⟩
    · rw [← map_congr (E := E) (E' := E') h]; exact h1
    · rw [← hn j hj]; exact h3 j hj
  all_goals
    simp only [EvP] at k ⊢
    rw [← evP_congr h, k]
    exact congrArg some (hn 0 (by simp [Pr.np]))

theorem wpIts_ok {K : Nat → List D → List D → Prop} {Q : Env → Prop} : ∀ (its : List It) (e : Env), mentsOK e.length its = true → wpIts K its e Q →
    ∃ t, Q (e ++ t) ∧ t.length = nps its ∧ ItsOK K (Env.E (e ++ t)) e.length its
  | [], e => fun _ h => ⟨[], by simpa [wpIts] using h, rfl, trivial⟩
  | it :: r, e => fun hm h => by
    simp only [mentsOK, Bool.and_eq_true, List.all_eq_true, decide_eq_true_eq] at hm
    obtain ⟨⟨⟨hm1, hmz⟩, hm2⟩, hm3⟩ := hm
    have key : ∀ t1 : Env, t1.length = it.p.np → (∀ t2 : Env, ItOK K (Env.E (e ++ (t1 ++ t2))) e.length it) → wpIts K r (e ++ t1) Q →
        ∃ t, Q (e ++ t) ∧ t.length = nps (it :: r) ∧ ItsOK K (Env.E (e ++ t)) e.length (it :: r) := by
      intro t1 hl hit hw
      obtain ⟨t2, q1, q2, q3⟩ := wpIts_ok r (e ++ t1) (by simpa [hl] using hm3) hw
      refine ⟨t1 ++ t2, by simpa using q1, by simp [nps, hl, q2], hit t2, ?_⟩
      simpa [hl] using q3
    simp only [wpIts, wpIt] at h
    split at h
    · rename_i hg
      have hg2 : ∀ t, gdE (Env.E (e ++ t)) it.g = some true := fun t => by rw [gdE_congr (E' := Env.E e) fun x hx => E_append (hm2 x hx)]; exact hg
      have mem : ∀ (t : Env) (n : Nat), n ∈ it.p.ments → Env.E e n = Env.E (e ++ t) n := fun t n hn => (E_append (hm1 n hn)).symm
      unfold wpPr at h
      split at h
      · rename_i hp
        refine key [] (by simp [hp, Pr.np]) (fun t2 => ?_) (by simpa using h)
        simp only [ItOK, hg2, hp, EvP]
      · rename_i k xs n hp
        obtain ⟨rs, h1, h2, h3⟩ := h
        refine key rs (by simp [hp, Pr.np, h2]) (fun t2 => ?_) h3
        simp only [ItOK, hg2, hp, EvP]
        refine ⟨rs, ?_, h2, fun j hj => ?_⟩
        · rw [map_congr (E := Env.E (e ++ (rs ++ t2))) (E' := Env.E e) fun n hn => (mem (rs ++ t2) n (by simpa [hp, Pr.ments] using hn)).symm]; exact h1
        · rw [E_new]
          simp [List.getD_eq_getElem?_getD, List.getElem?_append_left (show j < rs.length by omega), show j < rs.length from by omega]
      · rename_i hp1 hp2
        have hone : it.p.np = 1 := by
          cases hpp : it.p <;> first | rfl | (exact (hp1 hpp).elim) | (exact (hp2 _ _ _ hpp).elim)
        split at h
        · rename_i d hd
          refine key [d] (by simp [hone]) (fun t2 => ?_) h
          simp only [ItOK, hg2]
          have : evP (Env.E (e ++ ([d] ++ t2))) it.p = some (Env.E (e ++ ([d] ++ t2)) e.length) := by
            rw [← evP_congr (mem ([d] ++ t2)), hd]
            have := E_new (e := e) (t := [d] ++ t2) (j := 0)
            simp only [Nat.add_zero] at this
            rw [this]; rfl
          cases hpp : it.p <;> first | (exact (hp1 hpp).elim) | (exact (hp2 _ _ _ hpp).elim) | (rw [hpp] at this; exact this)
        · exact h.elim
    · rename_i hg
      refine key (skE (Env.E e) it.z it.p.np) (skE_length _ _) (fun t2 => ?_) h
      have hg2 : gdE (Env.E (e ++ (skE (Env.E e) it.z it.p.np ++ t2))) it.g = some false := by rw [gdE_congr (E' := Env.E e) fun x hx => E_append (hm2 x hx)]; exact hg
      simp only [ItOK, hg2]
      intro j hj
      rw [E_new, skD_congr (E' := Env.E e) fun n hn => E_append (hmz n hn)]
      rw [List.getD_eq_getElem?_getD, List.getElem?_append_left (by rw [skE_length]; exact hj), skE_get _ _ _ hj]
      rfl
    · exact h.elim

/-! ### One item: its guard, its operation -/

structure Sq where
  it : It
  sm : Sm
  g : Gd

def keepF (dst : Option Nat) (kill : List Nat) : Fact → Bool
  | .en n _ => !kill.contains n
  | .sl t _ => some t != dst

def nextL (st : List Fact) (dst : Option Nat) (sm : Sm) : List Fact := sm.adds ++ st.filter (keepF dst sm.kill)

theorem mem_nextL {st : List Fact} {dst : Option Nat} {sm : Sm} {f : Fact} : f ∈ nextL st dst sm ↔ next (· ∈ st) dst sm f := by
  unfold nextL next
  simp only [List.mem_append, List.mem_filter]
  constructor
  · rintro (h | ⟨h1, h2⟩)
    · exact .inr h
    · left; refine ⟨h1, ?_⟩
      cases f <;> simp [keepF] at h2 ⊢ <;> exact h2
  · rintro (⟨h1, h2⟩ | h)
    · right; refine ⟨h1, ?_⟩
      cases f <;> simp [keepF] at h2 ⊢ <;> exact h2
    · exact .inl h

/-- The guard of an operation, as entries; what that needs. -/
def trGd (ops : Array Oper) (st : List Fact) : Option (Nat × Bool) → Option (Gd × List Fact)
  | none => some ([], [])
  | some (j, want) => match (ops[j]?).bind (·.dst) with
    | some t => match findSl st t with
      | some (.is n g) => (findEn st n).map fun s => (g ++ [(n, want)], [.sl t (.is n g), .en n s])
      | _ => none
    | none => none

def Loc.gd : Loc → Gd
  | .is _ g => g
  | .ad _ _ _ g => g
  | .ip _ _ _ g => g
  | .vc _ g => g
  | .tu _ g => g
  | .aw _ _ g => g
  | .ia _ _ g => g
  | .bx _ g => g

/-- What an operation that is passed over may make. -/
def skOK (o : Oper) (g : Gd) (cnt np : Nat) (z : List (Option Nat)) (sm : Sm) : Bool :=
  g.isEmpty || (decide ((zments z).Nodup) && sm.adds.all fun
    | .en n s => decide (cnt ≤ n ∧ n < cnt + np) && (match z[n - cnt]? with
      | some (some m) => sm.kill.contains m && sm.needs.contains (.en m s)
      | _ => s.lst)
    | .sl t l => decide (some t = o.dst ∧ l.gd = g) || (match l with
      | .is n gt => decide (cnt ≤ n ∧ n < cnt + np) && (match z[n - cnt]? with
        | some (some m) => sm.needs.contains (.sl t (.is m gt)) && decide (some t ≠ o.dst)
        | _ => false)
      | _ => false))

/-- The entries that go on where a call is passed over. -/
def skZ (sg : Nat → Option Sg) (g : Gd) : Pr → List (Option Nat)
  | .ca k xs _ => match sg k with
    | some s => if g = [] ∨ s.io = [] then [] else List.replicate s.qs.length none ++ s.io.map fun i => match xs[i]? with
      | some (.e n) => some n
      | _ => none
    | none => []
  | _ => []

/-- What an operation makes is frozen, where the hint asks for it. -/
def fzF : Fact → Fact
  | .en n _ => .en n .v
  | f => f

def fzSm (k : Nat) (sm : Sm) : Sm := if 1000 ≤ k then { sm with adds := sm.adds.map fzF } else sm

def fzOK (k : Nat) (g : Gd) (cnt np : Nat) (sm : Sm) : Bool := decide (k < 1000) || (g.isEmpty && sm.adds.all fun
  | .en n s => decide (cnt ≤ n ∧ n < cnt + np) && s.okF
  | _ => true)

def fxOK (fx : List Nat) (dst : Option Nat) : Bool := match dst with | some t => !fx.contains t | none => true

def trIt (cf : CF) (sg : Nat → Option Sg) (ops : Array Oper) (st : List Fact) (cnt : Nat) (o : Oper) (k : Nat) : Option Sq :=
  (trGd ops st o.guard).bind fun gn => (trOpF cf sg st cnt o gn.1 k).bind fun ps =>
    if skOK o gn.1 cnt ps.1.np (skZ sg gn.1 ps.1) ps.2 = true ∧ inB o.dst cf.nt = true ∧ fxOK cf.fx o.dst = true ∧ fzOK k gn.1 cnt ps.1.np ps.2 = true then
      some ⟨{ z := skZ sg gn.1 ps.1, g := gn.1, p := ps.1 }, { fzSm k ps.2 with needs := gn.2 ++ ps.2.needs }, gn.1⟩
    else none

theorem gdE_true {E : Nat → D} : ∀ {g : Gd}, gdE E g = some true ↔ gdOK E g
  | [] => by simp [gdE, gdOK]
  | (n, b) :: g => by
    simp only [gdE]
    have ih := gdE_true (E := E) (g := g)
    constructor
    · intro h
      split at h
      · rename_i x hx
        split at h
        · rename_i hxb
          intro y hy
          rcases List.mem_cons.1 hy with rfl | hy
          · rw [hx, hxb]
          · exact ih.1 h y hy
        · simp at h
      · simp at h
    · intro h
      have h1 := h (n, b) (by simp)
      simp only at h1
      simp only [h1, if_true]
      exact ih.2 fun x hx => h x (by simp [hx])

theorem gdE_snoc {E : Nat → D} {n : Nat} {b : Bool} : ∀ {g : Gd}, gdE E (g ++ [(n, b)]) = some false → ¬ gdOK E g ∨ (gdOK E g ∧ E n = .b (!b))
  | [] => by
    simp only [List.nil_append, gdE]
    intro h
    split at h
    · rename_i x hx
      split at h
      · simp at h
      · rename_i hxb
        right
        refine ⟨by simp [gdOK], ?_⟩
        rw [hx]; cases x <;> cases b <;> simp at hxb ⊢
    · simp at h
  | (m, c) :: g => by
    simp only [List.cons_append, gdE]
    intro h
    split at h
    · rename_i x hx
      split at h
      · rename_i hxc
        rcases gdE_snoc (g := g) h with h2 | ⟨h2, h3⟩
        · left; intro q; exact h2 fun y hy => q y (by simp [hy])
        · right
          refine ⟨fun y hy => ?_, h3⟩
          rcases List.mem_cons.1 hy with rfl | hy
          · rw [hx, hxc]
          · exact h2 y hy
      · rename_i hxc
        left
        intro q
        have := q (m, c) (by simp)
        simp only at this
        rw [hx] at this
        injection this with this
        exact hxc this
    · simp at h

section
variable {cf : CF} {sg : Nat → Option Sg} {c : Cx} {F : Fact → Prop} {E : Nat → D} {a : Act} {w : World} {vs : Nat → Value} {Bs : Nat → List Nat} {cnt : Nat} {sm : Sm} {st : List Fact} {o : Oper}
  {K : Nat → List D → List D → Prop} {ops : Array Oper}

/-- The guard as the model asks it. -/
theorem trGd_sound {og : Option (Nat × Bool)} {g : Gd} {ns : List Fact} (h : trGd ops st og = some (g, ns)) (ho : o.guard = og) (H : HoldsG c F E a w vs Bs) (hn : ∀ f ∈ ns, F f) :
    (gdE E g = some true → Region.wanted o (yielded ops a.tmps) = true) ∧ (gdE E g = some false → Region.wanted o (yielded ops a.tmps) = false) := by
  cases og with
  | none =>
    simp only [trGd, Option.some.injEq, Prod.mk.injEq] at h
    obtain ⟨rfl, rfl⟩ := h
    exact ⟨fun _ => by simp [Region.wanted, ho], fun h => by simp [gdE] at h⟩
  | some jw =>
    obtain ⟨j, want⟩ := jw
    simp only [trGd] at h
    split at h
    · rename_i t ht
      split at h
      · rename_i n g0 hl
        simp only [Option.map_eq_some_iff, Prod.mk.injEq] at h
        obtain ⟨s, hs, rfl, rfl⟩ := h
        have f1 := H.loc t _ (hn (.sl t (.is n g0)) (by simp))
        have f2 := H.own n s (hn (.en n s) (by simp))
        have hy : yielded ops a.tmps j = match a.tmps[t]? with | some (.bool b) => some b | _ => none := by
          unfold yielded
          rw [ht]
          simp only [Option.bind_some]
          rfl
        constructor
        · intro hg
          have hg' := gdE_true.1 hg
          have e1 := f1.1 fun x hx => hg' x (List.mem_append_left _ hx)
          have e2 : E n = .b want := hg' (n, want) (by simp)
          rw [e2] at f2
          rw [f2.bool] at e1
          simp [Region.wanted, ho, hy, e1]
        · intro hg
          rcases gdE_snoc hg with h1 | ⟨h1, h2⟩
          · have e1 := f1.2 h1
            simp [Region.wanted, ho, hy, e1, undef]
          · have e1 := f1.1 h1
            rw [h2] at f2
            rw [f2.bool] at e1
            simp [Region.wanted, ho, hy, e1]
      · simp at h
    · simp at h

theorem zinj : ∀ {z : List (Option Nat)} {i j m : Nat}, (zments z).Nodup → z[i]? = some (some m) → z[j]? = some (some m) → i = j
  | [], _, _, _, _, h, _ => by simp at h
  | x :: z, i, j, m, hn, h1, h2 => by
    have tl : (zments z).Nodup := by
      cases x with
      | none => simpa [zments] using hn
      | some k => simp only [zments, List.filterMap_cons, id] at hn; exact (List.nodup_cons.1 hn).2
    have hin : ∀ j, z[j]? = some (some m) → m ∈ zments z := fun j h => List.mem_filterMap.2 ⟨some m, List.mem_of_getElem? h, rfl⟩
    cases i with
    | zero =>
      cases j with
      | zero => rfl
      | succ j =>
        simp at h1 h2
        subst h1
        simp only [zments, List.filterMap_cons, id] at hn
        exact ((List.nodup_cons.1 hn).1 (hin j h2)).elim
    | succ i =>
      cases j with
      | zero =>
        simp at h1 h2
        subst h2
        simp only [zments, List.filterMap_cons, id] at hn
        exact ((List.nodup_cons.1 hn).1 (hin i h1)).elim
      | succ j =>
        have := zinj (i := i) (j := j) (m := m) tl (by simpa using h1) (by simpa using h2)
        omega

/-- An operation that is passed over. -/
theorem skip_sound {g : Gd} {np : Nat} {z : List (Option Nat)} (H : HoldsG c F E a w vs Bs) (hsk : skOK o g cnt np z sm = true) (hg : gdE E g = some false) (hfr : ∀ j, j < np → Fresh F (cnt + j)) (hu : ∀ j, j < np → E (cnt + j) = skD E z j)
    (hin : inB o.dst c.nt = true) (hneeds : ∀ f ∈ sm.needs, F f) : HoldsX c (next F o.dst sm) E (a.put o.dst undef) w := by
  have hng : ¬ gdOK E g := fun q => by rw [gdE_true.2 q] at hg; simp at hg
  have hne : g ≠ [] := by rintro rfl; simp [gdE] at hg
  unfold skOK at hsk
  simp only [Bool.or_eq_true, List.isEmpty_iff, hne, false_or, Bool.and_eq_true, decide_eq_true_eq, List.all_eq_true] at hsk
  obtain ⟨hzn, hsk⟩ := hsk
  -- what entry n comes from
  let src : Nat → Option Nat := fun n => match z[n - cnt]? with
    | some (some m) => some m
    | _ => none
  have hent : ∀ n s, Fact.en n s ∈ sm.adds → (cnt ≤ n ∧ n < cnt + np) ∧ ((∃ m, src n = some m ∧ m ∈ sm.kill ∧ F (.en m s)) ∨ (src n = none ∧ s.lst = true)) := by
    intro n s hf
    have := hsk _ hf
    simp only [Bool.and_eq_true, decide_eq_true_eq] at this
    obtain ⟨q1, q2⟩ := this
    refine ⟨q1, ?_⟩
    split at q2
    · rename_i m hm
      simp only [Bool.and_eq_true, List.contains_eq_mem, decide_eq_true_eq] at q2
      exact .inl ⟨m, by simp [src, hm], q2.1, hneeds _ q2.2⟩
    · rename_i hm
      refine .inr ⟨?_, q2⟩
      simp only [src]
  have hsrc : ∀ n, cnt ≤ n ∧ n < cnt + np → E n = match src n with | some m => E m | none => .u := by
    intro n hn
    have := hu (n - cnt) (by omega)
    rw [show cnt + (n - cnt) = n from by omega] at this
    rw [this]
    simp only [skD, src]
    split <;> rfl
  have hinj : ∀ n n' m, src n = some m → src n' = some m → cnt ≤ n → cnt ≤ n' → n = n' := by
    intro n n' m h1 h2 h3 h4
    simp only [src] at h1 h2
    split at h1
    · rename_i m1 e1
      split at h2
      · rename_i m2 e2
        injection h1 with h1
        injection h2 with h2
        subst h1 h2
        have := zinj hzn e1 e2
        omega
      · cases h2
    · cases h1
  have hfe : ∀ n r, (cnt ≤ n ∧ n < cnt + np) → next F o.dst sm (.en n r) → Fact.en n r ∈ sm.adds := by
    rintro n r hn (⟨h1, _⟩ | h)
    · have := (hfr (n - cnt) (by omega)).1 r
      rw [show cnt + (n - cnt) = n from by omega] at this
      exact (this h1).elim
    · exact h
  let mk : Nat → Bool := fun n => sm.adds.any fun f => match f with | .en n' _ => n' == n | _ => false
  have hmk : ∀ n, mk n = true → ∃ s, Fact.en n s ∈ sm.adds := by
    intro n hn
    obtain ⟨f, h1, h2⟩ := List.any_eq_true.1 hn
    cases f with
    | en n' s => simp only [beq_iff_eq] at h2; subst h2; exact ⟨s, h1⟩
    | sl t l => simp at h2
  have hmk2 : ∀ n s, Fact.en n s ∈ sm.adds → mk n = true := fun n s h => List.any_eq_true.2 ⟨_, h, by simp⟩
  let V : Nat → Value := fun n => if cnt ≤ n ∧ n < cnt + np then (match src n with | some m => vs m | none => undef) else vs n
  let W : Nat → List Nat := fun n => if cnt ≤ n ∧ n < cnt + np then (if mk n = true then (match src n with | some m => Bs m | none => []) else []) else Bs n
  have hold : ∀ m s, F (.en m s) → ¬ (cnt ≤ m ∧ m < cnt + np) := by
    intro m s hm hn
    have := (hfr (m - cnt) (by omega)).1 s
    rw [show cnt + (m - cnt) = m from by omega] at this
    exact this hm
  -- the blocks of what is made
  have hW : ∀ n, (cnt ≤ n ∧ n < cnt + np) → ∀ b ∈ W n, ∃ m s, src n = some m ∧ m ∈ sm.kill ∧ F (.en m s) ∧ b ∈ Bs m := by
    intro n hn b hb
    simp only [W, if_pos hn] at hb
    split at hb
    · rename_i hk
      obtain ⟨s, hs⟩ := hmk n hk
      rcases (hent n s hs).2 with ⟨m, e1, e2, e3⟩ | ⟨e1, _⟩
      · rw [e1] at hb
        exact ⟨m, s, e1, e2, e3, hb⟩
      · rw [e1] at hb; simp at hb
    · simp at hb
  let A0 : List Fact := sm.adds.filter fun f => match f with | .sl t _ => decide (some t = o.dst) | _ => true
  have hA0en : ∀ n s, Fact.en n s ∈ A0 ↔ Fact.en n s ∈ sm.adds := by
    intro n s; simp [A0]
  have hadds : ∀ n r, (cnt ≤ n ∧ n < cnt + np) → next F o.dst ⟨[], sm.kill, A0⟩ (.en n r) → Fact.en n r ∈ sm.adds := by
    rintro n r hn (⟨h1, _⟩ | h)
    · exact (hold n r h1 hn).elim
    · exact (hA0en n r).1 h
  have H1 : HoldsG c (next F o.dst ⟨[], sm.kill, A0⟩) E (a.put o.dst undef) w V W := by
    refine HoldsG.step (fun n => cnt ≤ n ∧ n < cnt + np) (fun n => n ∈ sm.kill) (fun _ => False) o.dst H (fun n hn => if_neg hn) (fun n hn => if_neg hn)
      (fun t l hl n hn q => by
        have := (hfr (n - cnt) (by omega)).2 t l hl
        rw [show cnt + (n - cnt) = n from by omega] at this
        exact this hn)
      (fun _ q => q.elim) (Agr.refl _ _) rfl rfl rfl (fun t ht => put_get ht) put_size put_defers ?_ ?_ ?_ ?_ ?_ ?_
    · rintro f (⟨h1, h2⟩ | h)
      · left; refine ⟨h1, ?_⟩; cases f <;> exact h2
      · cases f with
        | en n s => exact .inr (hent n s ((hA0en n s).1 h)).1
        | sl t l =>
          right
          have := (List.mem_filter.1 h).2
          simpa using this
    · rintro n r hn hf
      have hf' := hadds n r hn hf
      rw [hsrc n hn]
      simp only [V, W, if_pos hn, hmk2 n r hf', if_true]
      rcases (hent n r hf').2 with ⟨m, e1, e2, e3⟩ | ⟨e1, e2⟩
      · rw [e1]
        refine Own.ext (Agr.refl (fun _ => False) _) (fun _ _ q => q.elim) ?_ _ _ _ _ (fun _ _ q => q) (H.own m r e3)
        rintro b _ (⟨n1, s1, q1, _, q3⟩ | ⟨n1, q1, q2⟩)
        · exact ⟨n1, s1, q1, q3⟩
        · obtain ⟨m2, s2, _, _, q3, q4⟩ := hW n1 q1 b q2
          exact ⟨m2, s2, q3, q4⟩
      · rw [e1]
        cases r <;> simp [Own, Rd, Sh.lst] at e2 ⊢
    · rintro n r hn hf
      have hf' := hadds n r hn hf
      simp only [W, if_pos hn, hmk2 n r hf', if_true]
      rcases (hent n r hf').2 with ⟨m, e1, e2, e3⟩ | ⟨e1, e2⟩
      · rw [e1]; exact H.nodup m r e3
      · rw [e1]; exact List.nodup_nil
    · rintro n r hn _ b hb
      obtain ⟨m, s, _, q2, q3, q4⟩ := hW n hn b hb
      exact .inl ⟨m, s, q3, q2, q4⟩
    · rintro n r m q hn hm _ _ hne b hb hb2
      obtain ⟨m1, s1, p1, p2, p3, p4⟩ := hW n hn b hb
      obtain ⟨m2, s2, r1, r2, r3, r4⟩ := hW m hm b hb2
      by_cases he : m1 = m2
      · subst he; exact hne (hinj n m m1 p1 r1 hn.1 hm.1)
      · exact H.apart m1 s1 m2 s2 p3 r3 he b p4 r4
    · rintro t l ht hf
      rcases hf with ⟨_, h2⟩ | h
      · exact (h2 ht).elim
      · have := hsk _ (List.mem_filter.1 h).1
        simp only [Bool.or_eq_true, decide_eq_true_eq] at this
        have hgl : l.gd = g := by
          rcases this with q | q
          · exact q.2
          · exfalso
            cases l with
            | is n gt =>
              simp only [Bool.and_eq_true] at q
              obtain ⟨_, q⟩ := q
              split at q
              · simp only [Bool.and_eq_true, decide_eq_true_eq] at q; exact q.2 ht
              · cases q
            | _ => simp at q
        have hput : (a.put o.dst undef).tmps[t]? = some undef := by
          rw [← ht]; exact put_self (by rw [H.size]; rw [← ht] at hin; simpa [inB] using hin)
        cases l with
        | is n g' =>
          simp only [Loc.gd] at hgl; subst hgl
          exact ⟨fun q => (hng q).elim, fun _ => hput⟩
        | vc n g' => simp only [Loc.gd] at hgl; subst hgl; exact fun q => (hng q).elim
        | ad r p m g' => simp only [Loc.gd] at hgl; subst hgl; exact fun q => (hng q).elim
        | ip r p m g' => simp only [Loc.gd] at hgl; subst hgl; exact fun q => (hng q).elim
        | tu ns g' => simp only [Loc.gd] at hgl; subst hgl; exact fun q => (hng q).elim
        | aw r p g' => simp only [Loc.gd] at hgl; subst hgl; exact fun q => (hng q).elim
        | ia r m g' => simp only [Loc.gd] at hgl; subst hgl; exact fun q => (hng q).elim
        | bx n g' => simp only [Loc.gd] at hgl; subst hgl; exact fun q => (hng q).elim
  refine ⟨V, W, H1.more ?_ ?_⟩
  · intro n s
    simp only [next, hA0en]
  · intro t l hf
    rcases hf with ⟨q1, q2⟩ | q
    · exact .inl (.inl ⟨q1, q2⟩)
    · by_cases ht : some t = o.dst
      · exact .inl (.inr (List.mem_filter.2 ⟨q, by simpa using ht⟩))
      · have := hsk _ q
        simp only [Bool.or_eq_true, decide_eq_true_eq] at this
        rcases this with q' | q'
        · exact (ht q'.1).elim
        · cases l with
          | is n gt =>
            simp only [Bool.and_eq_true, decide_eq_true_eq] at q'
            obtain ⟨hn, q'⟩ := q'
            split at q'
            · rename_i m hm
              simp only [Bool.and_eq_true, List.contains_eq_mem, decide_eq_true_eq] at q'
              have hsn : src n = some m := by simp only [src, hm]
              have hmF := hneeds _ q'.1
              right
              have hnew : ¬ (cnt ≤ m ∧ m < cnt + np) := by
                intro hm'
                have := (hfr (m - cnt) (by omega)).2 t _ hmF
                rw [show cnt + (m - cnt) = m from by omega] at this
                exact this (by simp [Loc.ments])
              refine ⟨n, gt, m, rfl, .inl ⟨hmF, ht⟩, ?_⟩
              simp only [V, if_pos hn, hsn, if_neg hnew]
            · cases q'
          | _ => simp at q'

/-- What has just been made is frozen. -/
theorem freeze_sound {a' : Act} {w' : World} {k : Nat} {g : Gd} {np : Nat} {sm : Sm} (hk : fzOK k g cnt np sm = true) (hfr : ∀ j, j < np → Fresh F (cnt + j)) (H : HoldsX c (next F o.dst sm) E a' w') :
    HoldsX c (next F o.dst (fzSm k sm)) E a' w' := by
  unfold fzSm
  split
  · rename_i h1000
    unfold fzOK at hk
    simp only [Bool.or_eq_true, decide_eq_true_eq, Bool.and_eq_true, List.isEmpty_iff, List.all_eq_true] at hk
    rcases hk with hk | ⟨_, hk⟩
    · omega
    obtain ⟨vs, Bs, H⟩ := H
    have hold : ∀ m s, F (.en m s) → ¬ (cnt ≤ m ∧ m < cnt + np) := by
      intro m s hm hn
      have := (hfr (m - cnt) (by omega)).1 s
      rw [show cnt + (m - cnt) = m from by omega] at this
      exact this hm
    have hadd : ∀ n s, Fact.en n s ∈ sm.adds → (cnt ≤ n ∧ n < cnt + np) ∧ s.okF = true := by
      intro n s h
      have := hk _ h
      simpa only [Bool.and_eq_true, decide_eq_true_eq] using this
    let W : Nat → List Nat := fun n => if cnt ≤ n ∧ n < cnt + np then [] else Bs n
    -- each entry that is known now was known before
    have hen : ∀ n s, next F o.dst { sm with adds := sm.adds.map fzF } (.en n s) → (¬ (cnt ≤ n ∧ n < cnt + np) ∧ next F o.dst sm (.en n s) ∧ W n = Bs n) ∨ ((cnt ≤ n ∧ n < cnt + np) ∧ s = .v ∧ ∃ s', next F o.dst sm (.en n s') ∧ s'.okF = true) := by
      rintro n s (⟨h1, h2⟩ | h)
      · have := hold n s h1
        exact .inl ⟨this, .inl ⟨h1, h2⟩, if_neg this⟩
      · obtain ⟨f, hf, he⟩ := List.mem_map.1 h
        cases f with
        | en n' s' =>
          simp only [fzF] at he
          injection he with e1 e2
          subst e1 e2
          obtain ⟨q1, q2⟩ := hadd n' s' hf
          exact .inr ⟨q1, rfl, s', .inr hf, q2⟩
        | sl t l => simp [fzF] at he
    have hO : ∀ b, OB (next F o.dst { sm with adds := sm.adds.map fzF }) W b → OB (next F o.dst sm) Bs b ∧ ∃ n s, ¬ (cnt ≤ n ∧ n < cnt + np) ∧ next F o.dst sm (.en n s) ∧ b ∈ Bs n := by
      rintro b ⟨n, s, h1, h2⟩
      rcases hen n s h1 with ⟨q1, q2, q3⟩ | ⟨q1, _, _⟩
      · rw [q3] at h2
        exact ⟨⟨n, s, q2, h2⟩, n, s, q1, q2, h2⟩
      · simp only [W, if_pos q1] at h2; simp at h2
    have hal : ∀ n, alive (next F o.dst { sm with adds := sm.adds.map fzF }) n → alive (next F o.dst sm) n := by
      rintro n ⟨s, h⟩
      rcases hen n s h with ⟨_, q2, _⟩ | ⟨_, _, s', q, _⟩
      · exact ⟨s, q2⟩
      · exact ⟨s', q⟩
    refine ⟨vs, W, ?_, ?_, ?_, ?_, ?_, H.agr, H.os, H.tape, H.output, H.defers, H.size⟩
    · intro n s hf
      rcases hen n s hf with ⟨q1, q2, q3⟩ | ⟨q1, rfl, s', q2, q3⟩
      · rw [q3]
        exact Own.ext (Agr.refl (fun _ => False) _) (fun _ _ q => q.elim) (fun b _ hb => (hO b hb).1) _ _ _ _ (fun _ _ q => q) (H.own n s q2)
      · simp only [W, if_pos q1]
        simp only [Own]
        refine ⟨trivial, Own.freeze (fun b _ q => q.imp (fun q => (hO b q).1) id) s' _ _ _ q3 ?_ (H.own n s' q2)⟩
        rintro b hb (q | q)
        · obtain ⟨_, m, s2, z1, z2, z3⟩ := hO b q
          exact H.apart n s' m s2 q2 z2 (fun e => z1 (e ▸ q1)) b hb z3
        · have := c.hX b q
          rcases H.mine n s' q2 b hb with r | r
          · omega
          · exact this.2 r
    · intro n s hf
      rcases hen n s hf with ⟨q1, q2, q3⟩ | ⟨q1, rfl, s', q2, q3⟩
      · rw [q3]; exact H.nodup n s q2
      · simp only [W, if_pos q1]; exact List.nodup_nil
    · intro n s hf b hb
      obtain ⟨⟨n', s', h1, h2⟩, _⟩ := hO b ⟨n, s, hf, hb⟩
      exact H.mine n' s' h1 b h2
    · intro n s m r hf hg hne b hb hb2
      rcases hen n s hf with ⟨q1, q2, q3⟩ | ⟨q1, _, _⟩
      · rcases hen m r hg with ⟨p1, p2, p3⟩ | ⟨p1, _, _⟩
        · rw [q3] at hb; rw [p3] at hb2
          exact H.apart n s m r q2 p2 hne b hb hb2
        · simp only [W, if_pos p1] at hb2; simp at hb2
      · simp only [W, if_pos q1] at hb; simp at hb
    · intro t l hf
      have hf' : next F o.dst sm (.sl t l) := by
        rcases hf with q | q
        · exact .inl q
        · obtain ⟨f, h1, he⟩ := List.mem_map.1 q
          cases f with
          | en n s => simp [fzF] at he
          | sl t' l' => simp only [fzF] at he; rw [← he]; exact .inr h1
      have := H.loc t l hf'
      cases l with
      | is n g => exact this
      | vc n g =>
        intro hg
        obtain ⟨b, o, cs, e, fz, k1, k2, k3, k4⟩ := this hg
        exact ⟨b, o, cs, e, fz, k1, k2, k3, fun q => k4 (hO b q).1⟩
      | ad r p m g => exact fun hg ha => this hg (hal _ ha)
      | ip r p m g => exact fun hg ha => this hg (hal _ ha)
      | tu ns g => exact this
      | aw r p g => exact fun hg ha => this hg (hal _ ha)
      | ia r m g => exact fun hg ha => this hg (hal _ ha)
      | bx n g =>
        intro hg
        obtain ⟨b, cs, e, fz, k1, k2, k3, k4⟩ := this hg
        exact ⟨b, cs, e, fz, k1, k2, k3, fun q => k4 (hO b q).1⟩
  · exact H

theorem fxOK_spec {fx : List Nat} {dst : Option Nat} (h : fxOK fx dst = true) : ∀ t ∈ fx, some t ≠ dst := by
  rintro t ht rfl
  simp [fxOK, ht] at h

/-- ONE ITEM. -/
theorem item_sound (hs : Sound cf sg K) (hc : cf.Fits c) {k : Nat} {q : Sq} (ht : trIt cf sg ops st cnt o k = some q) (H : Holds c F E a w) (hfr : ∀ j, j < q.it.p.np → Fresh F (cnt + j)) (hn : ∀ f ∈ q.sm.needs, F f)
    (hE : ItOK K E cnt q.it) {i : Nat} (hi : ops[i]? = some o) {Kn : Act → World → Prop} {Q : Exit → Act → World → Prop} (hk : ∀ a' w', Holds c (next F o.dst q.sm) E a' w' → Kn a' w') :
    wpOp c.P ops Q i Kn a w := by
  obtain ⟨⟨vs, Bs, H⟩, hfix⟩ := H
  unfold trIt at ht
  simp only [Option.bind_eq_some_iff] at ht
  obtain ⟨⟨g, ns⟩, h1, ⟨p, sm⟩, h2, ht⟩ := ht
  simp only at ht
  split at ht
  · rename_i hsk
    simp only [Option.some.injEq] at ht
    subst ht
    simp only at hn hE hk
    obtain ⟨w1, w2⟩ := trGd_sound h1 rfl H fun f hf => hn f (List.mem_append_left _ hf)
    unfold ItOK at hE
    simp only at hE
    unfold wpOp
    rw [hi]
    simp only
    split at hE
    · rename_i hg
      rw [if_pos (w1 hg)]
      left
      have hx := fxOK_spec hsk.2.2.1
      refine wp_frame (trOpF_sound hs h2 ⟨hc, H, hfr, fun f hf => hn f (List.mem_append_right _ hf), gdE_true.1 hg⟩ hE _ Q fun _ _ h => h) fun a' w' h1 h2 => hk a' w' ⟨freeze_sound hsk.2.2.2 hfr h1, fun x hx' => ?_⟩
      rw [h2 x.1 (hx _ (hc.fx x hx'))]
      exact hfix x hx'
    · rename_i hg
      rw [if_neg (by rw [w2 hg]; simp)]
      refine hk _ _ ⟨freeze_sound hsk.2.2.2 hfr (skip_sound H hsk.1 hg hfr hE (by rw [hc.nt]; exact hsk.2.1) (fun f hf => hn f (List.mem_append_right _ hf))), fun x hx' => ?_⟩
      rw [put_get (fxOK_spec hsk.2.2.1 _ (hc.fx x hx'))]
      exact hfix x hx'
    · exact hE.elim
  · simp at ht
end

end Go.Cat

/-
  Regions in the order of the text.
-/
namespace Go.Cat

def Fact.ments : Fact → List Nat
  | .en n _ => [n]
  | .sl _ l => l.ments

/-- No fact speaks of an entry that is not there yet. -/
def bdOK (st : List Fact) (cnt : Nat) : Bool := st.all fun f => f.ments.all fun n => decide (n < cnt)

def subL (a b : List Fact) : Bool := a.all fun f => b.contains f

def trSeq (cf : CF) (sg : Nat → Option Sg) (ops : Array Oper) : List Oper → List Fact → Nat → List Nat → Option (List Sq × List Fact × Nat)
  | [], st, cnt, _ => some ([], st, cnt)
  | o :: os, st, cnt, hs => (trIt cf sg ops st cnt o (hs.headD 0)).bind fun q =>
    if subL q.sm.needs st = true ∧ bdOK st cnt = true then
      (trSeq cf sg ops os (nextL st o.dst q.sm) (cnt + q.it.p.np) hs.tail).map fun r => (q :: r.1, r.2)
    else none

theorem subL_mem {a b : List Fact} (h : subL a b = true) : ∀ f ∈ a, f ∈ b := by
  intro f hf
  simp only [subL, List.all_eq_true, List.contains_eq_mem, decide_eq_true_eq] at h
  exact h f hf

theorem bdOK_fresh {st : List Fact} {cnt : Nat} (h : bdOK st cnt = true) {m : Nat} (hm : cnt ≤ m) : Fresh (· ∈ st) m := by
  simp only [bdOK, List.all_eq_true, decide_eq_true_eq] at h
  constructor
  · intro s hf
    have := h _ hf m (by simp [Fact.ments])
    omega
  · intro t l hf hn
    have := h _ hf m (by simpa [Fact.ments] using hn)
    omega

theorem Holds.mono {c : Cx} {F F' : Fact → Prop} {E : Nat → D} {a : Act} {w : World} (h : Holds c F E a w) (hF : ∀ f, F' f → F f) : Holds c F' E a w := by
  obtain ⟨⟨vs, Bs, H⟩, hfix⟩ := h
  have hO : ∀ b, OB F' Bs b → OB F Bs b := fun b ⟨n, s, h1, h2⟩ => ⟨n, s, hF _ h1, h2⟩
  refine ⟨⟨vs, Bs, ?_, fun n s h => H.nodup n s (hF _ h), fun n s h => H.mine n s (hF _ h), fun n s m r h k => H.apart n s m r (hF _ h) (hF _ k), ?_, H.agr, H.os, H.tape, H.output, H.defers, H.size⟩, hfix⟩
  · intro n s h
    exact Own.ext (Agr.refl (fun _ => False) _) (fun _ _ q => q.elim) (fun b _ => hO b) s _ _ _ (fun _ _ q => q) (H.own n s (hF _ h))
  · intro t l h
    have := H.loc t l (hF _ h)
    cases l with
    | is n g => exact this
    | vc n g =>
      intro hg
      obtain ⟨b, o, cs, e, fz, k1, k2, k3, k4⟩ := this hg
      exact ⟨b, o, cs, e, fz, k1, k2, k3, fun q => k4 (hO b q)⟩
    | ad r p m g => exact fun hg ⟨s, hs⟩ => this hg ⟨s, hF _ hs⟩
    | ip r p m g => exact fun hg ⟨s, hs⟩ => this hg ⟨s, hF _ hs⟩
    | tu ns g => exact this
    | aw r p g => exact fun hg ⟨s, hs⟩ => this hg ⟨s, hF _ hs⟩
    | ia r m g => exact fun hg ⟨s, hs⟩ => this hg ⟨s, hF _ hs⟩
    | bx n g =>
      intro hg
      obtain ⟨b, cs, e, fz, k1, k2, k3, k4⟩ := this hg
      exact ⟨b, cs, e, fz, k1, k2, k3, fun q => k4 (hO b q)⟩

section
variable {cf : CF} {sg : Nat → Option Sg} {c : Cx} {E : Nat → D} {K : Nat → List D → List D → Prop} {ops : Array Oper}

theorem seq_sound (hs : Sound cf sg K) (hc : cf.Fits c) {Q : Exit → Act → World → Prop} : ∀ (os : List Oper) (i : Nat) (st : List Fact) (cnt : Nat) (hh : List Nat) (r : List Sq) (st' : List Fact) (cnt' : Nat),
    trSeq cf sg ops os st cnt hh = some (r, st', cnt') → (∀ j o, os[j]? = some o → ops[i + j]? = some o) → ItsOK K E cnt (r.map (·.it)) →
    ∀ (a : Act) (w : World), Holds c (· ∈ st) E a w → (∀ a' w', Holds c (· ∈ st') E a' w' → Q .normal a' w') → wpOps c.P ops Q (List.range' i os.length) a w
  | [], i, st, cnt, hh, r, st', cnt' => fun ht _ _ a w H hq => by
    simp only [trSeq, Option.some.injEq, Prod.mk.injEq] at ht
    obtain ⟨rfl, rfl, rfl⟩ := ht
    simp only [List.length_nil, List.range'_zero, wpOps]
    exact hq a w H
  | o :: os, i, st, cnt, hh, r, st', cnt' => fun ht ho hE a w H hq => by
    simp only [trSeq, Option.bind_eq_some_iff] at ht
    obtain ⟨q, h1, ht⟩ := ht
    split at ht
    · rename_i hcond
      simp only [Option.map_eq_some_iff, Prod.mk.injEq] at ht
      obtain ⟨⟨r2, st2, c2⟩, h2, rfl, h3⟩ := ht
      simp only [Prod.mk.injEq] at h3
      obtain ⟨rfl, rfl⟩ := h3
      simp only [List.map_cons, ItsOK] at hE
      simp only [List.length_cons, List.range'_succ]
      rw [wpOps_cons]
      refine item_sound hs hc h1 H (fun j _ => bdOK_fresh hcond.2 (by omega)) (subL_mem hcond.1) hE.1 (by simpa using ho 0 o (by simp)) fun a' w' H' => ?_
      refine seq_sound hs hc os (i + 1) _ _ _ _ _ _ h2 (fun j o' hj => ?_) hE.2 a' w' (H'.mono fun f hf => mem_nextL.1 hf) hq
      have := ho (j + 1) o' (by simpa using hj)
      rwa [show i + 1 + j = i + (j + 1) from by omega]
    · simp at ht
end
end Go.Cat

/-
  Regions whose order is left open: whatever order is drawn, the facts come out as in the order of the text, where what may part is ordered.
-/
namespace Go.Cat

structure Rc where
  q : Sq
  cnt : Nat
  dst : Option Nat

def recs : Nat → List Oper → List Sq → List Rc
  | cnt, o :: os, q :: qs => ⟨q, cnt, o.dst⟩ :: recs (cnt + q.it.p.np) os qs
  | _, _, _ => []

def Rc.kills (r : Rc) (f : Fact) : Bool := !keepF r.dst r.q.sm.kill f

def Rc.pushes (r : Rc) (n : Nat) : Bool := decide (r.cnt ≤ n ∧ n < r.cnt + r.q.it.p.np)

/-- May the order of the two (x ahead of y in the text) be seen? -/
def conf (x y : Rc) : Bool :=
  x.q.sm.adds.any (y.q.sm.needs.contains ·) || x.q.sm.needs.any y.kills || y.q.sm.adds.any x.kills || y.q.sm.adds.any fun f => f.ments.any x.pushes

def depsOf (o : Oper) : List Nat := (o.after.toList.filter (Region.binds .any)).map (·.on)

def befB (acc : List Nat) (ds : List Nat) : Nat := ds.foldr (fun d s => s ||| 2 ^ d ||| acc.getD d 0) 0

def befs : List Nat → List Oper → List Nat
  | acc, [] => acc
  | acc, o :: os => befs (acc ++ [befB acc (depsOf o)]) os

def confOK (rs : List Rc) (bf : List Nat) : Bool :=
  rs.zipIdx.all fun y => rs.zipIdx.all fun x => if x.2 < y.2 then !conf x.1 y.1 || (bf.getD y.2 0).testBit x.2 else true

def depsOK (os : List Oper) : Bool := os.zipIdx.all fun x => (depsOf x.1).all fun d => decide (d < x.2)

/-- What is asked of a region that draws its order. -/
def drawOK (st : List Fact) (cnt : Nat) (os : List Oper) (qs : List Sq) : Bool :=
  let rs := recs cnt os qs
  confOK rs (befs [] os) && depsOK os && (rs.all fun r => r.q.sm.adds.all fun f => f.ments.all fun n => decide (n < r.cnt + r.q.it.p.np)) && bdOK st cnt

theorem befB_bit {acc ds : List Nat} {i : Nat} (h : (befB acc ds).testBit i = true) : ∃ d ∈ ds, i = d ∨ (acc.getD d 0).testBit i = true := by
  induction ds with
  | nil => simp [befB] at h
  | cons d ds ih =>
    simp only [befB, List.foldr_cons, Nat.testBit_or, Bool.or_eq_true] at h
    rcases h with (h | h) | h
    · obtain ⟨d', hd, q⟩ := ih h
      exact ⟨d', List.mem_cons_of_mem _ hd, q⟩
    · rw [Nat.testBit_two_pow] at h
      have h' : d = i := by simpa using h
      exact ⟨d, List.mem_cons_self .., .inl h'.symm⟩
    · exact ⟨d, List.mem_cons_self .., .inr h⟩

theorem befs_prefix : ∀ (os : List Oper) (acc : List Nat), ∃ t, befs acc os = acc ++ t ∧ t.length = os.length
  | [], acc => ⟨[], by simp [befs], rfl⟩
  | o :: os, acc => by
    obtain ⟨t, h, hl⟩ := befs_prefix os (acc ++ [befB acc (depsOf o)])
    exact ⟨befB acc (depsOf o) :: t, by simp [befs, h], by simp [hl]⟩

/-- Closed under what must come ahead. -/
theorem befs_closed {S : Nat → Prop} {all : List Oper} (hd : ∀ k o, all[k]? = some o → ∀ d ∈ depsOf o, d < k) (hS : ∀ k o, S k → all[k]? = some o → ∀ d ∈ depsOf o, S d) :
    ∀ (os pre : List Oper) (acc : List Nat), all = pre ++ os → acc.length = pre.length →
      (∀ k o, k < pre.length → all[k]? = some o → (∀ d ∈ depsOf o, S d) → ∀ i, (acc.getD k 0).testBit i = true → S i) →
      ∀ k o, all[k]? = some o → (∀ d ∈ depsOf o, S d) → ∀ i, ((befs acc os).getD k 0).testBit i = true → S i
  | [], pre, acc => fun ha hl h k o hk => by
    simp only [befs]
    refine h k o ?_ hk
    subst ha
    rcases Nat.lt_or_ge k pre.length with q | q
    · exact q
    · simp [List.getElem?_eq_none q] at hk
  | o :: os, pre, acc => fun ha hl h => by
    simp only [befs]
    refine befs_closed hd hS os (pre ++ [o]) _ (by simp [ha]) (by simp [hl]) ?_
    intro k o' hk ho' hdep i hi
    simp only [List.length_append, List.length_cons, List.length_nil] at hk
    rcases Nat.lt_or_ge k pre.length with q | q
    · rw [List.getD_eq_getElem?_getD, List.getElem?_append_left (by omega), ← List.getD_eq_getElem?_getD] at hi
      exact h k o' q ho' hdep i hi
    · have hke : k = pre.length := by omega
      subst hke
      have hoo : o' = o := by
        have := ho'
        rw [ha] at this
        simp at this
        exact this.symm
      subst hoo
      rw [List.getD_eq_getElem?_getD, List.getElem?_append_right (by omega)] at hi
      simp only [hl, Nat.sub_self, List.getElem?_cons_zero, Option.getD_some] at hi
      obtain ⟨d, hdm, hi⟩ := befB_bit hi
      rcases hi with rfl | hi
      · exact hdep _ hdm
      · have hdl : d < pre.length := hd _ _ ho' d hdm
        have : ∃ od, all[d]? = some od := by
          refine ⟨all[d]'(by rw [ha]; simp; omega), by simp⟩
        obtain ⟨od, hod⟩ := this
        exact h d od hdl hod (hS d od (hdep d hdm) hod) i hi

section
variable (st : List Fact) (rs : List Rc)
def kl (i : Nat) (f : Fact) : Prop := ∃ r, rs[i]? = some r ∧ r.kills f = true
/-- What is known where the operations in S have been carried out. -/
def avail (S : Nat → Prop) (f : Fact) : Prop :=
  (f ∈ st ∧ ∀ i, S i → ¬ kl rs i f) ∨ ∃ j r, S j ∧ rs[j]? = some r ∧ f ∈ r.q.sm.adds ∧ ∀ i, S i → j < i → ¬ kl rs i f
end

section
variable {cf : CF} {sg : Nat → Option Sg} {E : Nat → D} {K : Nat → List D → List D → Prop} {ops : Array Oper}

/-- The order of the text: what each operation needs is there. -/
theorem seq_avail {st0 : List Fact} {rs : List Rc} : ∀ (os : List Oper) (i : Nat) (st : List Fact) (cnt : Nat) (hh : List Nat) (r : List Sq) (st' : List Fact) (cnt' : Nat),
    trSeq cf sg ops os st cnt hh = some (r, st', cnt') → (∀ j x, (recs cnt os r)[j]? = some x → rs[i + j]? = some x) → rs.length = i + os.length → ItsOK K E cnt (r.map (·.it)) →
    (∀ f ∈ st, avail st0 rs (· < i) f) →
    (∀ j x o, (recs cnt os r)[j]? = some x → os[j]? = some o → (∃ stj h, trIt cf sg ops stj x.cnt o h = some x.q) ∧ x.dst = o.dst ∧ (∀ f ∈ x.q.sm.needs, avail st0 rs (· < i + j) f) ∧ ItOK K E x.cnt x.q.it ∧ cnt ≤ x.cnt) ∧
    (∀ f ∈ st', avail st0 rs (· < i + os.length) f) ∧ (recs cnt os r).length = os.length
  | [], i, st, cnt, hh, r, st', cnt' => fun ht _ _ _ hst => by
    simp only [trSeq, Option.some.injEq, Prod.mk.injEq] at ht
    obtain ⟨rfl, rfl, rfl⟩ := ht
    refine ⟨by simp [recs], by simpa using hst, by simp [recs]⟩
  | o :: os, i, st, cnt, hh, r, st', cnt' => fun ht hrs hlen hE hst => by
    simp only [trSeq, Option.bind_eq_some_iff] at ht
    obtain ⟨q, h1, ht⟩ := ht
    split at ht
    · rename_i hcond
      simp only [Option.map_eq_some_iff, Prod.mk.injEq] at ht
      obtain ⟨⟨r2, st2, c2⟩, h2, rfl, h3⟩ := ht
      simp only [Prod.mk.injEq] at h3
      obtain ⟨rfl, rfl⟩ := h3
      simp only [List.map_cons, ItsOK] at hE
      have h0 : rs[i]? = some ⟨q, cnt, o.dst⟩ := by simpa using hrs 0 _ (by simp [recs])
      have hst1 : ∀ f ∈ nextL st o.dst q.sm, avail st0 rs (· < i + 1) f := by
        intro f hf
        rcases mem_nextL.1 hf with ⟨k1, k2⟩ | k
        · have hnk : ¬ kl rs i f := by
            rintro ⟨x, hx, hk⟩
            rw [h0] at hx
            injection hx with hx
            subst hx
            simp only [Rc.kills, Bool.not_eq_true'] at hk
            cases f with
            | en n s => simp [keepF] at hk; exact k2 hk
            | sl t l => simp [keepF] at hk; exact k2 hk
          rcases hst f k1 with ⟨a1, a2⟩ | ⟨j, x, a1, a2, a3, a4⟩
          · refine .inl ⟨a1, fun m hm => ?_⟩
            rcases Nat.lt_or_ge m i with h | h
            · exact a2 m h
            · have : m = i := by omega
              subst this; exact hnk
          · refine .inr ⟨j, x, by show j < i + 1; have : j < i := a1; omega, a2, a3, fun m hm hj => ?_⟩
            rcases Nat.lt_or_ge m i with h | h
            · exact a4 m h hj
            · have : m = i := by have : m < i + 1 := hm; omega
              subst this; exact hnk
        · refine .inr ⟨i, _, by show i < i + 1; omega, h0, k, fun m hm hj => ?_⟩
          have : m < i + 1 := hm
          omega
      obtain ⟨b1, b2, b3⟩ := seq_avail os (i + 1) _ _ _ _ _ _ h2 (fun j x hj => by
        have := hrs (j + 1) x (by simpa [recs] using hj)
        rwa [show i + 1 + j = i + (j + 1) from by omega]) (by simp at hlen; omega) hE.2 hst1
      refine ⟨?_, ?_, by simp [recs, b3]⟩
      · intro j x o' hj ho'
        cases j with
        | zero =>
          simp only [recs, List.getElem?_cons_zero, Option.some.injEq] at hj ho'
          subst hj ho'
          exact ⟨⟨st, _, h1⟩, rfl, fun f hf => hst f (subL_mem hcond.1 f hf), hE.1, Nat.le_refl _⟩
        | succ j =>
          simp only [recs, List.getElem?_cons_succ] at hj ho'
          obtain ⟨c1, c2, c3, c4, c5⟩ := b1 j x o' hj ho'
          refine ⟨c1, c2, fun f hf => ?_, c4, by omega⟩
          have := c3 f hf
          rwa [show i + 1 + j = i + (j + 1) from by omega] at this
      · intro f hf
        have := b2 f hf
        simp only [List.length_cons]
        rwa [show i + 1 + os.length = i + (os.length + 1) from by omega] at this
    · simp at ht

theorem recs_cnt : ∀ (os : List Oper) (qs : List Sq) (cnt : Nat) (j k : Nat) (x y : Rc), (recs cnt os qs)[j]? = some x → (recs cnt os qs)[k]? = some y → j < k → x.cnt + x.q.it.p.np ≤ y.cnt
  | [], _, _, _, _, _, _ => fun h => by simp [recs] at h
  | _ :: _, [], _, _, _, _, _ => fun h => by simp [recs] at h
  | o :: os, q :: qs, cnt, j, k, x, y => fun hj hk hlt => by
    cases k with
    | zero => omega
    | succ k =>
      simp only [recs, List.getElem?_cons_succ] at hk
      cases j with
      | zero =>
        simp only [recs, List.getElem?_cons_zero, Option.some.injEq] at hj
        subst hj
        have : ∀ (os : List Oper) (qs : List Sq) (cnt : Nat) (k : Nat) (y : Rc), (recs cnt os qs)[k]? = some y → cnt ≤ y.cnt := by
          intro os
          induction os with
          | nil => intro qs cnt k y h; simp [recs] at h
          | cons o os ih =>
            intro qs cnt k y h
            cases qs with
            | nil => simp [recs] at h
            | cons q qs =>
              cases k with
              | zero => simp only [recs, List.getElem?_cons_zero, Option.some.injEq] at h; subst h; exact Nat.le_refl _
              | succ k => simp only [recs, List.getElem?_cons_succ] at h; have := ih _ _ _ _ h; omega
        exact this _ _ _ _ _ hk
      | succ j =>
        simp only [recs, List.getElem?_cons_succ] at hj
        exact recs_cnt os qs _ j k x y hj hk (by omega)

theorem conf_spec {rs : List Rc} {bf : List Nat} (h : confOK rs bf = true) {i k : Nat} {x y : Rc} (hx : rs[i]? = some x) (hy : rs[k]? = some y) (hlt : i < k) (hc : conf x y = true) : (bf.getD k 0).testBit i = true := by
  simp only [confOK, List.all_eq_true] at h
  have h1 := h (y, k) (List.mem_zipIdx_iff_getElem?.2 hy) (x, i) (List.mem_zipIdx_iff_getElem?.2 hx)
  simp only [if_pos hlt, hc, Bool.not_true, Bool.false_or] at h1
  exact h1
end

section
variable {cf : CF} {sg : Nat → Option Sg} {c : Cx} {E : Nat → D} {K : Nat → List D → List D → Prop} {ops : Array Oper}

theorem Rc.kills_next {r : Rc} {F : Fact → Prop} {f : Fact} (h1 : F f) (h2 : ¬ r.kills f = true) : next F r.dst r.q.sm f := by
  left
  refine ⟨h1, ?_⟩
  cases f <;> simp [Rc.kills, keepF] at h2 ⊢ <;> exact h2

theorem draw_sound (hs : Sound cf sg K) (hc : cf.Fits c) {st : List Fact} {cnt : Nat} {hh : List Nat} {qs : List Sq} {st' : List Fact} {cnt' : Nat}
    (ht : trSeq cf sg ops ops.toList st cnt hh = some (qs, st', cnt')) (hd : drawOK st cnt ops.toList qs = true) (hE : ItsOK K E cnt (qs.map (·.it)))
    {Q : Exit → Act → World → Prop} (hq : ∀ a' w', Holds c (· ∈ st') E a' w' → Q .normal a' w') :
    ∀ (fuel : Nat) (listed : Array Bool) (a : Act) (w : World), listed.size = ops.size → ((List.range ops.size).filter fun i => !listed.getD i true).length ≤ fuel →
      (∀ k o, listed.getD k false = true → ops.toList[k]? = some o → ∀ d ∈ depsOf o, listed.getD d false = true) →
      Holds c (avail st (recs cnt ops.toList qs) (fun i => listed.getD i false = true)) E a w → wpAny c.P .any ops Q fuel listed a w := by
  simp only [drawOK, Bool.and_eq_true, List.all_eq_true, decide_eq_true_eq] at hd
  obtain ⟨⟨⟨hconf, hdeps⟩, hment⟩, hbd⟩ := hd
  have hrl : (recs cnt ops.toList qs).length = 0 + ops.toList.length := by
    have : ∀ (os : List Oper) (st : List Fact) (cnt : Nat) (hh : List Nat) (qs : List Sq) (x : List Fact × Nat), trSeq cf sg ops os st cnt hh = some (qs, x) → (recs cnt os qs).length = os.length := by
      intro os
      induction os with
      | nil => intro st cnt hh qs x h; simp [recs]
      | cons o os ih =>
        intro st cnt hh qs x h
        simp only [trSeq, Option.bind_eq_some_iff] at h
        obtain ⟨q, _, h⟩ := h
        split at h
        · simp only [Option.map_eq_some_iff, Prod.mk.injEq] at h
          obtain ⟨⟨r2, x2⟩, h2, rfl, _⟩ := h
          simp [recs, ih _ _ _ _ _ h2]
        · simp at h
    rw [this _ _ _ _ _ _ ht]; omega
  obtain ⟨hA, hfin, _⟩ := seq_avail (st0 := st) (rs := recs cnt ops.toList qs) ops.toList 0 st cnt hh qs st' cnt' ht (fun j x hj => by simpa using hj) hrl hE
    (fun f hf => .inl ⟨hf, fun i hi => by simp at hi⟩)
  generalize hrs : recs cnt ops.toList qs = rs at *
  simp only [Nat.zero_add] at hA hfin hrl
  have hdeps' : ∀ k o, ops.toList[k]? = some o → ∀ d ∈ depsOf o, d < k := by
    simp only [depsOK, List.all_eq_true, decide_eq_true_eq] at hdeps
    intro k o ho d hd
    exact hdeps (o, k) (List.mem_zipIdx_iff_getElem?.2 ho) d hd
  have hopl : ∀ k, k < ops.size → ∃ o, ops.toList[k]? = some o ∧ ops[k]? = some o := fun k hk => ⟨ops[k], by simp [hk], by simp [hk]⟩
  have hrc : ∀ k, k < ops.size → ∃ x, rs[k]? = some x := fun k hk => ⟨rs[k]'(by rw [hrl]; simpa using hk), by simp⟩
  have lts : ∀ {k : Nat} {x : Rc}, rs[k]? = some x → k < ops.size := by
    intro k x h
    rcases Nat.lt_or_ge k rs.length with q | q
    · rw [hrl] at q; simpa using q
    · rw [List.getElem?_eq_none q] at h; simp at h
  intro fuel
  induction fuel with
  | zero =>
    intro listed a w hsz hf hcl H
    have hall : ∀ k, k < ops.size → listed.getD k false = true := by
      intro k hk
      cases hlk : listed.getD k false with
      | true => rfl
      | false =>
        have h0 : (List.range ops.size).filter (fun i => !listed.getD i true) = [] := by
          exact List.eq_nil_of_length_eq_zero (by omega)
        have : k ∈ (List.range ops.size).filter (fun i => !listed.getD i true) := by
          simp only [List.mem_filter, List.mem_range, hk, true_and]
          rw [Array.getD_eq_getD_getElem?] at hlk ⊢
          rw [Array.getElem?_eq_getElem (by omega)] at hlk ⊢
          simp at hlk ⊢
          exact hlk
        rw [h0] at this; simp at this
    refine ⟨?_, hq a w (H.mono fun f hf => ?_)⟩
    · unfold Region.ready
      rw [List.filter_eq_nil_iff]
      intro i hi
      have hi' : i < ops.size := by simpa using hi
      have := hall i hi'
      rw [Array.getD_eq_getD_getElem?] at this
      rw [Array.getD_eq_getD_getElem?]
      rw [Array.getElem?_eq_getElem (by omega)] at this ⊢
      simp at this ⊢
      simp [this]
    · rcases hfin f hf with ⟨a1, a2⟩ | ⟨j, x, a1, a2, a3, a4⟩
      · refine .inl ⟨a1, fun i _ hk => ?_⟩
        obtain ⟨x, hx, hk⟩ := hk
        exact a2 i (by simpa using lts hx) ⟨x, hx, hk⟩
      · refine .inr ⟨j, x, hall j (lts a2), a2, a3, fun i _ hj hk => ?_⟩
        obtain ⟨y, hy, hk⟩ := hk
        exact a4 i (by simpa using lts hy) hj ⟨y, hy, hk⟩
  | succ fuel ih =>
    intro listed a w hsz hf hcl H
    have key : ∀ k, k < ops.size → listed.getD k false = false ∨ listed.getD k false = true := fun k _ => by cases listed.getD k false <;> simp
    have toT : ∀ k, k < ops.size → listed.getD k true = listed.getD k false := by
      intro k hk
      rw [Array.getD_eq_getD_getElem?, Array.getD_eq_getD_getElem?, Array.getElem?_eq_getElem (by omega)]
      rfl
    refine ⟨fun hr => ?_, ?_⟩
    · -- nothing is ready: all is done
      have hall : ∀ k, k < ops.size → listed.getD k false = true := by
        intro k
        induction k using Nat.strongRecOn with
        | _ k ihk =>
          intro hk
          rcases key k hk with h | h
          · exfalso
            have : k ∈ Region.ready .any ops listed := by
              unfold Region.ready
              simp only [List.mem_filter, List.mem_range, hk, true_and, Bool.and_eq_true]
              refine ⟨by rw [toT k hk, h]; rfl, ?_⟩
              obtain ⟨o, ho1, ho2⟩ := hopl k hk
              rw [ho2]
              simp only [Option.map_some, Option.getD_some]
              rw [← Array.all_toList]
              simp only [List.all_eq_true, Bool.or_eq_true, Bool.not_eq_true']
              intro e he
              cases hb : Region.binds .any e with
              | false => left; rfl
              | true =>
                right
                have hd : e.on ∈ depsOf o := by
                  simp only [depsOf, List.mem_map, List.mem_filter]
                  exact ⟨e, ⟨he, hb⟩, rfl⟩
                have := hdeps' k o ho1 _ hd
                exact ihk e.on this (by omega)
            rw [hr] at this; simp at this
          · exact h
      refine hq a w (H.mono fun f hf => ?_)
      rcases hfin f hf with ⟨a1, a2⟩ | ⟨j, x, a1, a2, a3, a4⟩
      · refine .inl ⟨a1, fun i _ hk => ?_⟩
        obtain ⟨x, hx, hk⟩ := hk
        exact a2 i (by simpa using lts hx) ⟨x, hx, hk⟩
      · refine .inr ⟨j, x, hall j (lts a2), a2, a3, fun i _ hj hk => ?_⟩
        obtain ⟨y, hy, hk⟩ := hk
        exact a4 i (by simpa using lts hy) hj ⟨y, hy, hk⟩
    · intro k hk
      unfold Region.ready at hk
      simp only [List.mem_filter, List.mem_range, Bool.and_eq_true] at hk
      obtain ⟨hkl, hkn, hkd⟩ := hk
      obtain ⟨o, ho1, ho2⟩ := hopl k hkl
      obtain ⟨x, hx⟩ := hrc k hkl
      have hkn' : listed.getD k false = false := by rw [toT k hkl] at hkn; simpa using hkn
      rw [ho2] at hkd
      simp only [Option.map_some, Option.getD_some] at hkd
      rw [← Array.all_toList] at hkd
      simp only [List.all_eq_true, Bool.or_eq_true, Bool.not_eq_true'] at hkd
      have hready : ∀ d ∈ depsOf o, listed.getD d false = true := by
        intro d hd
        simp only [depsOf, List.mem_map, List.mem_filter] at hd
        obtain ⟨e, ⟨he, hb⟩, rfl⟩ := hd
        rcases hkd e he with h | h
        · rw [hb] at h; simp at h
        · exact h
      -- what must come ahead of k has been done; what must come behind it has not
      have hbef : ∀ i, ((befs [] ops.toList).getD k 0).testBit i = true → listed.getD i false = true :=
        befs_closed (S := fun i => listed.getD i false = true) hdeps' hcl ops.toList [] [] rfl rfl (fun k _ h => by simp at h) k o ho1 hready
      have hbeh : ∀ i y, rs[i]? = some y → listed.getD i false = true → k < i → ((befs [] ops.toList).getD i 0).testBit k = true → False := by
        intro i y hy hi _ hb
        obtain ⟨oi, hoi, _⟩ := hopl i (lts hy)
        have := befs_closed (S := fun i => listed.getD i false = true) hdeps' hcl ops.toList [] [] rfl rfl (fun k _ h => by simp at h) i oi hoi (hcl i oi hi hoi) k hb
        rw [hkn'] at this; simp at this
      obtain ⟨⟨stj, h, h1⟩, h2, h3, h4, h5⟩ := hA k x o hx ho1
      have hneeds : ∀ f ∈ x.q.sm.needs, avail st rs (fun i => listed.getD i false = true) f := by
        intro f hf
        have later : ∀ i, listed.getD i false = true → k < i → ¬ kl rs i f := by
          rintro i hi hlt ⟨y, hy, hk⟩
          refine hbeh i y hy hi hlt (conf_spec hconf hx hy hlt ?_)
          simp only [conf, Bool.or_eq_true, List.any_eq_true]
          exact .inl (.inl (.inr ⟨f, hf, hk⟩))
        rcases h3 f hf with ⟨a1, a2⟩ | ⟨j, y, a1, a2, a3, a4⟩
        · refine .inl ⟨a1, fun i hi => ?_⟩
          rcases Nat.lt_trichotomy i k with q | q | q
          · exact a2 i q
          · subst q; have hi' : listed.getD i false = true := hi; rw [hkn'] at hi'; simp at hi'
          · exact later i hi q
        · have a1' : j < k := a1
          refine .inr ⟨j, y, hbef j (conf_spec hconf a2 hx a1' ?_), a2, a3, fun i hi hj => ?_⟩
          · simp only [conf, Bool.or_eq_true, List.any_eq_true]
            exact .inl (.inl (.inl ⟨f, a3, by simpa using hf⟩))
          · rcases Nat.lt_trichotomy i k with q | q | q
            · exact a4 i q hj
            · subst q; have hi' : listed.getD i false = true := hi; rw [hkn'] at hi'; simp at hi'
            · exact later i hi q
      have hfresh : ∀ j, j < x.q.it.p.np → Fresh (avail st rs (fun i => listed.getD i false = true)) (x.cnt + j) := by
        intro j hj
        have hno : ∀ f, avail st rs (fun i => listed.getD i false = true) f → x.cnt + j ∉ f.ments := by
          rintro f (⟨a1, _⟩ | ⟨i, y, a1, a2, a3, _⟩) hm
          · simp only [bdOK, List.all_eq_true, decide_eq_true_eq] at hbd
            have := hbd f a1 _ hm
            omega
          · rcases Nat.lt_trichotomy i k with q | q | q
            · have := hment y (List.mem_of_getElem? a2) f a3 _ hm
              have := recs_cnt ops.toList qs cnt i k y x (by rw [hrs]; exact a2) (by rw [hrs]; exact hx) q
              omega
            · subst q; have a1' : listed.getD i false = true := a1; rw [hkn'] at a1'; simp at a1'
            · refine hbeh i y a2 a1 q (conf_spec hconf hx a2 q ?_)
              simp only [conf, Bool.or_eq_true, List.any_eq_true]
              exact .inr ⟨f, a3, x.cnt + j, hm, by simp [Rc.pushes]; omega⟩
        exact ⟨fun s hf => hno _ hf (by simp [Fact.ments]), fun t l hf hm => hno _ hf (by simpa [Fact.ments] using hm)⟩
      refine item_sound hs hc h1 H hfresh hneeds h4 ho2 fun a' w' H' => ?_
      have hset : ∀ i, (listed.setIfInBounds k true).getD i false = true ↔ (i = k ∨ listed.getD i false = true) := by
        intro i
        simp only [Array.getD_eq_getD_getElem?, Array.getElem?_setIfInBounds]
        by_cases hik : k = i
        · subst hik; simp [show k < listed.size by omega]
        · simp only [if_neg hik]
          constructor
          · intro h; exact .inr h
          · rintro (h | h)
            · exact (hik h.symm).elim
            · exact h
      refine ih _ a' w' (by simpa using hsz) ?_ ?_ (H'.mono fun f hf => ?_)
      · -- one less is left
        have hsub : ((List.range ops.size).filter fun i => !(listed.setIfInBounds k true).getD i true).length < ((List.range ops.size).filter fun i => !listed.getD i true).length := by
          have e : ((List.range ops.size).filter fun i => !(listed.setIfInBounds k true).getD i true) = ((List.range ops.size).filter fun i => !listed.getD i true).filter (fun i => decide (i ≠ k)) := by
            rw [List.filter_filter]
            apply List.filter_congr
            intro i hi
            have hi' : i < ops.size := by simpa using hi
            simp only [Array.getD_eq_getD_getElem?, Array.getElem?_setIfInBounds]
            by_cases hik : k = i
            · subst hik; simp [show k < listed.size by omega]
            · have : i ≠ k := fun e => hik e.symm
              simp [if_neg hik, this]
          rw [e]
          have hmem : k ∈ (List.range ops.size).filter fun i => !listed.getD i true := by
            simp only [List.mem_filter, List.mem_range, hkl, true_and]
            exact hkn
          exact List.length_filter_lt_length_iff_exists.2 ⟨k, hmem, by simp⟩
        omega
      · intro i oi hi hoi d hd
        rw [hset] at hi ⊢
        right
        rcases hi with rfl | hi
        · rw [ho1] at hoi; injection hoi with hoi; subst hoi; exact hready d hd
        · exact hcl i oi hi hoi d hd
      · -- the facts
        rcases hf with ⟨a1, a2⟩ | ⟨j, y, a1, a2, a3, a4⟩
        · have hk1 : avail st rs (fun i => listed.getD i false = true) f := .inl ⟨a1, fun i hi => a2 i ((hset i).2 (.inr hi))⟩
          have hk2 : ¬ x.kills f = true := fun q => a2 k ((hset k).2 (.inl rfl)) ⟨x, hx, q⟩
          rw [← h2]
          exact Rc.kills_next hk1 hk2
        · rcases (hset j).1 a1 with rfl | b1
          · rw [hx] at a2; injection a2 with a2; subst a2
            exact .inr a3
          · have hk1 : avail st rs (fun i => listed.getD i false = true) f := .inr ⟨j, y, b1, a2, a3, fun i hi => a4 i ((hset i).2 (.inr hi))⟩
            have hk2 : ¬ x.kills f = true := by
              intro q
              rcases Nat.lt_trichotomy j k with hlt | hlt | hlt
              · exact a4 k ((hset k).2 (.inl rfl)) hlt ⟨x, hx, q⟩
              · subst hlt; have b1' : listed.getD j false = true := b1; rw [hkn'] at b1'; simp at b1'
              · refine hbeh j y a2 b1 hlt (conf_spec hconf hx a2 hlt ?_)
                simp only [conf, Bool.or_eq_true, List.any_eq_true]
                exact .inl (.inr ⟨f, a3, q⟩)
            rw [← h2]
            exact Rc.kills_next hk1 hk2
end
end Go.Cat

/-
  Statements: the translation of a function's code, and that it is sound.
-/
namespace Go.Cat

abbrev VT := List (Nat × Sh)
abbrev HL := List (Nat × List Nat)

def stFrom (L : Nat) : Nat → VT → List Fact
  | _, [] => []
  | i, (t, s) :: r => (if L.testBit i then [.sl t (.is i []), .en i s] else []) ++ stFrom L (i + 1) r

/-- What is known between two statements: the variables in L are alive, each in its shape. -/
def stOf (vt : VT) (L : Nat) : List Fact := stFrom L 0 vt

theorem mem_stFrom {L : Nat} {f : Fact} : ∀ {vt : VT} {i : Nat}, f ∈ stFrom L i vt ↔ ∃ j t s, vt[j]? = some (t, s) ∧ L.testBit (i + j) = true ∧ (f = .sl t (.is (i + j) []) ∨ f = .en (i + j) s)
  | [], i => by simp [stFrom]
  | (t, s) :: r, i => by
    simp only [stFrom, List.mem_append, mem_stFrom (vt := r)]
    constructor
    · rintro (h | ⟨j, t', s', h1, h2, h3⟩)
      · split at h
        · rename_i hL
          refine ⟨0, t, s, by simp, hL, ?_⟩
          simpa using h
        · simp at h
      · exact ⟨j + 1, t', s', by simpa using h1, by rwa [show i + (j + 1) = i + 1 + j from by omega], by rwa [show i + (j + 1) = i + 1 + j from by omega]⟩
    · rintro ⟨j, t', s', h1, h2, h3⟩
      cases j with
      | zero =>
        simp only [List.getElem?_cons_zero, Option.some.injEq, Prod.mk.injEq] at h1
        obtain ⟨rfl, rfl⟩ := h1
        left
        simp only [Nat.add_zero] at h2 h3
        rw [if_pos h2]
        simpa using h3
      | succ j =>
        right
        exact ⟨j, t', s', by simpa using h1, by rwa [show i + 1 + j = i + (j + 1) from by omega], by rwa [show i + 1 + j = i + (j + 1) from by omega]⟩

theorem mem_stOf {vt : VT} {L : Nat} {f : Fact} : f ∈ stOf vt L ↔ ∃ i t s, vt[i]? = some (t, s) ∧ L.testBit i = true ∧ (f = .sl t (.is i []) ∨ f = .en i s) := by
  unfold stOf
  rw [mem_stFrom]
  simp

theorem stOf_mono {vt : VT} {L L' : Nat} (h : ∀ i, L'.testBit i = true → L.testBit i = true) : ∀ f, f ∈ stOf vt L' → f ∈ stOf vt L := by
  intro f hf
  obtain ⟨i, t, s, h1, h2, h3⟩ := mem_stOf.1 hf
  exact mem_stOf.2 ⟨i, t, s, h1, h i h2, h3⟩

def subB (a b : Nat) : Bool := a &&& b == a

theorem subB_bit {a b : Nat} (h : subB a b = true) (i : Nat) (ha : a.testBit i = true) : b.testBit i = true := by
  have h' : a &&& b = a := by simpa [subB] using h
  have := congrArg (fun x => Nat.testBit x i) h'
  simp only [Nat.testBit_and, ha, Bool.true_and] at this
  exact this

/-- The like with other data, where what is alive is the same. -/
theorem Holds.congr {c : Cx} {vt : VT} {L : Nat} {E E' : Nat → D} {a : Act} {w : World} (h : Holds c (· ∈ stOf vt L) E a w) (hE : ∀ i t s, vt[i]? = some (t, s) → L.testBit i = true → E' i = E i) :
    Holds c (· ∈ stOf vt L) E' a w := by
  obtain ⟨⟨vs, Bs, H⟩, hfix⟩ := h
  refine ⟨⟨vs, Bs, ?_, H.nodup, H.mine, H.apart, ?_, H.agr, H.os, H.tape, H.output, H.defers, H.size⟩, hfix⟩
  · intro n s hf
    obtain ⟨i, t, s', h1, h2, h3⟩ := mem_stOf.1 hf
    have := H.own n s hf
    rcases h3 with h3 | h3
    · simp at h3
    · injection h3 with e1 e2
      subst e1 e2
      rw [hE n t s h1 h2]; exact this
  · intro t l hf
    obtain ⟨i, t', s', h1, h2, h3⟩ := mem_stOf.1 hf
    have := H.loc t l hf
    rcases h3 with h3 | h3
    · injection h3 with e1 e2
      subst e1 e2
      refine ⟨fun _ => this.1 (by simp [gdOK]), fun q => (q (by simp [gdOK])).elim⟩
    · simp at h3

/-- Shapes that own. -/
def Sh.isO : Sh → Bool
  | .v => false
  | .y => false
  | _ => true

theorem Sh.notO {s : Sh} (h : ¬ s.isO = true) : s = .v ∨ s = .y := by
  cases s <;> simp [Sh.isO] at h ⊢

/-! ### The end of a region: each variable that lives on takes its entry -/

def outOf (st : List Fact) (mask : Nat) : Nat → VT → Option (List (Option Nat))
  | _, [] => some []
  | i, (t, s) :: r => (outOf st mask (i + 1) r).bind fun o =>
    if mask.testBit i then
      match findSl st t with
      | some (.is n []) => match findEn st n with
        | some s' => if s' = s ∨ (s = .v ∧ s'.okF = true) ∨ (s = .y ∧ s'.okF = true) then some (some n :: o) else none
        | none => none
      | _ => none
    else some (none :: o)

/-- The entries that stay owned, and those that are only read. -/
def ownOut : List (Option Nat) → VT → List Nat
  | some n :: o, (_, s) :: r => if s.isO = true then n :: ownOut o r else ownOut o r
  | none :: o, _ :: r => ownOut o r
  | _, _ => []
def rdOut : List (Option Nat) → VT → List Nat
  | some n :: o, (_, s) :: r => if s.isO = true then rdOut o r else n :: rdOut o r
  | none :: o, _ :: r => rdOut o r
  | _, _ => []

def trReg (cf : CF) (sg : Nat → Option Sg) (vt : VT) (ops : Array Oper) (draw : Bool) (L : Nat) (h : Nat × List Nat) : Option S :=
  (trSeq cf sg ops ops.toList (stOf vt L) vt.length h.2).bind fun r =>
    (outOf r.2.1 h.1 0 vt).bind fun out =>
      if mentsOK vt.length (r.1.map (·.it)) = true ∧ (!draw || drawOK (stOf vt L) vt.length ops.toList r.1) = true ∧ (ownOut out vt).Nodup ∧ ((ownOut out vt).all fun n => !(rdOut out vt).contains n) = true then
        some (.reg (r.1.map (·.it)) out)
      else none

theorem outOf_spec {st : List Fact} {mask : Nat} : ∀ {vt : VT} {i : Nat} {out : List (Option Nat)}, outOf st mask i vt = some out → out.length = vt.length ∧
    ∀ j t s, vt[j]? = some (t, s) → mask.testBit (i + j) = true → ∃ n s', out[j]? = some (some n) ∧ Fact.sl t (.is n []) ∈ st ∧ Fact.en n s' ∈ st ∧ (s' = s ∨ (s = .v ∧ s'.okF = true) ∨ (s = .y ∧ s'.okF = true))
  | [], i, out, h => by simp only [outOf, Option.some.injEq] at h; subst h; simp
  | (t, s) :: r, i, out, h => by
    simp only [outOf, Option.bind_eq_some_iff] at h
    obtain ⟨o, h1, h⟩ := h
    obtain ⟨e1, e2⟩ := outOf_spec h1
    split at h
    · rename_i hm
      split at h
      · rename_i n hl
        split at h
        · rename_i s' hs'
          split at h
          · rename_i hc
            simp only [Option.some.injEq] at h
            subst h
            refine ⟨by simp [e1], fun j t2 s2 hj hb => ?_⟩
            cases j with
            | zero =>
              simp only [List.getElem?_cons_zero, Option.some.injEq, Prod.mk.injEq] at hj
              obtain ⟨rfl, rfl⟩ := hj
              exact ⟨n, s', by simp, findSl_mem hl, findEn_mem hs', hc⟩
            | succ j =>
              obtain ⟨n2, s3, q1, q2, q3, q4⟩ := e2 j t2 s2 (by simpa using hj) (by rwa [show i + 1 + j = i + (j + 1) from by omega])
              exact ⟨n2, s3, by simpa using q1, q2, q3, q4⟩
          · simp at h
        · simp at h
      · simp at h
    · rename_i hm
      simp only [Option.some.injEq] at h
      subst h
      refine ⟨by simp [e1], fun j t2 s2 hj hb => ?_⟩
      cases j with
      | zero => simp at hb; exact (hm hb).elim
      | succ j =>
        obtain ⟨n2, s3, q1, q2, q3, q4⟩ := e2 j t2 s2 (by simpa using hj) (by rwa [show i + 1 + j = i + (j + 1) from by omega])
        exact ⟨n2, s3, by simpa using q1, q2, q3, q4⟩

theorem ownOut_mem : ∀ {out : List (Option Nat)} {vt : VT} {j n t : Nat} {s : Sh}, s.isO = true → out[j]? = some (some n) → vt[j]? = some (t, s) → n ∈ ownOut out vt
  | [], _, _, _, _, _ => fun _ h => by simp at h
  | _ :: _, [], _, _, _, _ => fun _ _ h => by simp at h
  | o :: out, (t', s') :: vt, 0, n, t, s => fun hs h1 h2 => by
    simp at h1 h2
    obtain ⟨rfl, rfl⟩ := h2
    subst h1
    simp [ownOut, hs]
  | o :: out, (t', s') :: vt, j + 1, n, t, s => fun hs h1 h2 => by
    have := ownOut_mem (out := out) (vt := vt) hs (by simpa using h1) (by simpa using h2)
    cases o with
    | none => simpa [ownOut] using this
    | some m =>
      simp only [ownOut]
      split
      · exact List.mem_cons_of_mem _ this
      · exact this

theorem rdOut_mem : ∀ {out : List (Option Nat)} {vt : VT} {j n t : Nat} {s : Sh}, out[j]? = some (some n) → vt[j]? = some (t, s) → s = .v ∨ s = .y → n ∈ rdOut out vt
  | [], _, _, _, _, _ => fun h => by simp at h
  | _ :: _, [], _, _, _, _ => fun _ h => by simp at h
  | o :: out, (t', s') :: vt, 0, n, t, s => fun h1 h2 h3 => by
    simp at h1 h2
    obtain ⟨rfl, rfl⟩ := h2
    subst h1
    rcases h3 with rfl | rfl <;> simp [rdOut, Sh.isO]
  | o :: out, (t', s') :: vt, j + 1, n, t, s => fun h1 h2 h3 => by
    have := rdOut_mem (out := out) (vt := vt) (by simpa using h1) (by simpa using h2) h3
    cases o with
    | none => simpa [rdOut] using this
    | some m =>
      simp only [rdOut]
      split
      · exact this
      · exact List.mem_cons_of_mem _ this

theorem ownOut_inj : ∀ {out : List (Option Nat)} {vt : VT}, (ownOut out vt).Nodup → ∀ {j k n t u : Nat} {s r : Sh}, s.isO = true → r.isO = true → out[j]? = some (some n) → vt[j]? = some (t, s) → out[k]? = some (some n) → vt[k]? = some (u, r) → j = k
  | [], _ => fun _ => by simp
  | _ :: _, [] => fun _ => by simp
  | o :: out, (t', s') :: vt => fun hn => by
    intro j k n t u s r hs hr h1 h2 h3 h4
    have tl : (ownOut out vt).Nodup := by
      cases o with
      | none => simpa [ownOut] using hn
      | some m =>
        simp only [ownOut] at hn
        split at hn
        · exact (List.nodup_cons.1 hn).2
        · exact hn
    cases j with
    | zero =>
      cases k with
      | zero => rfl
      | succ k =>
        simp at h1 h2
        obtain ⟨rfl, rfl⟩ := h2
        subst h1
        have := ownOut_mem (out := out) (vt := vt) hr (by simpa using h3) (by simpa using h4)
        simp only [ownOut, hs, if_true] at hn
        exact ((List.nodup_cons.1 hn).1 this).elim
    | succ j =>
      cases k with
      | zero =>
        simp at h3 h4
        obtain ⟨rfl, rfl⟩ := h4
        subst h3
        have := ownOut_mem (out := out) (vt := vt) hs (by simpa using h1) (by simpa using h2)
        simp only [ownOut, hr, if_true] at hn
        exact ((List.nodup_cons.1 hn).1 this).elim
      | succ k =>
        have := ownOut_inj tl (j := j) (k := k) (n := n) (t := t) (u := u) (s := s) (r := r) hs hr (by simpa using h1) (by simpa using h2) (by simpa using h3) (by simpa using h4)
        omega

theorem outE_get {out : List (Option Nat)} {e : Env} {j n : Nat} (h : out[j]? = some (some n)) : Env.E (outE out e) j = e.E n := by
  simp [Env.E, outE, List.getD_eq_getElem?_getD, h]

/-- The variables take their entries. -/
theorem out_sound {c : Cx} {st : List Fact} {e : Env} {a : Act} {w : World} {vt : VT} {mask : Nat} {out : List (Option Nat)} (h : Holds c (· ∈ st) e.E a w) (ho : outOf st mask 0 vt = some out)
    (hn : (ownOut out vt).Nodup) (hd : ∀ n ∈ ownOut out vt, n ∉ rdOut out vt) : Holds c (· ∈ stOf vt mask) (Env.E (outE out e)) a w := by
  obtain ⟨⟨vs, Bs, H⟩, hfix⟩ := h
  refine ⟨?_, hfix⟩
  obtain ⟨_, hspec⟩ := outOf_spec ho
  -- what a variable in its shape owns
  let ix : Nat → Nat := fun i => match out[i]? with | some (some n) => n | _ => 0
  let own? : Nat → Bool := fun i => match vt[i]? with | some (_, s) => s.isO | _ => false
  have get : ∀ i t s, vt[i]? = some (t, s) → mask.testBit i = true → ∃ n s', out[i]? = some (some n) ∧ ix i = n ∧ Fact.sl t (.is n []) ∈ st ∧ Fact.en n s' ∈ st ∧ (s' = s ∨ (s = .v ∧ s'.okF = true) ∨ (s = .y ∧ s'.okF = true)) := by
    intro i t s h1 h2
    obtain ⟨n, s', q1, q2, q3, q4⟩ := hspec i t s h1 (by simpa using h2)
    exact ⟨n, s', q1, by simp [ix, q1], q2, q3, q4⟩
  let Bs' : Nat → List Nat := fun i => if own? i then Bs (ix i) else []
  have ownB : ∀ i t s, vt[i]? = some (t, s) → s.isO = true → Bs' i = Bs (ix i) := by
    intro i t s h hs; simp [Bs', own?, h, hs]
  have rdB : ∀ i t s, vt[i]? = some (t, s) → s = .v ∨ s = .y → Bs' i = [] := by
    intro i t s h hs; rcases hs with rfl | rfl <;> simp [Bs', own?, h, Sh.isO]
  have hO : ∀ b, OB (· ∈ stOf vt mask) Bs' b → OB (· ∈ st) Bs b := by
    rintro b ⟨i, s, hf, hb⟩
    obtain ⟨i', t, s', h1, h2, h3⟩ := mem_stOf.1 hf
    rcases h3 with h3 | h3
    · simp at h3
    · injection h3 with e1 e2
      subst e1 e2
      by_cases hs : s.isO = true
      · rw [ownB i t s h1 hs] at hb
        obtain ⟨n, s2, q1, q2, q3, q4, q5⟩ := get i t _ h1 h2
        exact ⟨n, s2, q4, q2 ▸ hb⟩
      · rw [rdB i t _ h1 (Sh.notO hs)] at hb; simp at hb
  refine ⟨fun i => vs (ix i), Bs', ?_, ?_, ?_, ?_, ?_, H.agr, H.os, H.tape, H.output, H.defers, H.size⟩
  · intro i s hf
    obtain ⟨i', t, s', h1, h2, h3⟩ := mem_stOf.1 hf
    rcases h3 with h3 | h3
    · simp at h3
    · injection h3 with e1 e2
      subst e1 e2
      obtain ⟨n, s2, q1, q2, q3, q4, q5⟩ := get i t _ h1 h2
      rw [outE_get q1, q2]
      have hown := H.own n s2 q4
      have fz : s = .v ∨ s = .y → s2.okF = true → Rd c.fid w.heap (fun b => OB (· ∈ stOf vt mask) Bs' b ∨ c.Xb b) (e.E n) (vs n) := by
        intro hs q5
        refine Own.freeze (fun b _ q => q.imp (hO b) id) s2 _ _ _ q5 ?_ hown
        rintro b hb (⟨j, s3, hf3, hb3⟩ | hx)
        · obtain ⟨j', t3, s4, k1, k2, k3⟩ := mem_stOf.1 hf3
          rcases k3 with k3 | k3
          · simp at k3
          · injection k3 with e1 e2
            subst e1 e2
            by_cases hs3 : s3.isO = true
            · rw [ownB j t3 s3 k1 hs3] at hb3
              obtain ⟨m, s5, r1, r2, r3, r4, r5⟩ := get j t3 _ k1 k2
              rw [r2] at hb3
              have hne : n ≠ m := by
                rintro rfl
                exact hd n (ownOut_mem hs3 r1 k1) (rdOut_mem q1 h1 hs)
              exact H.apart n s2 m s5 q4 r4 hne b hb hb3
            · rw [rdB j t3 _ k1 (Sh.notO hs3)] at hb3; simp at hb3
        · have := c.hX b hx
          rcases H.mine n s2 q4 b hb with q | q
          · omega
          · exact this.2 q
      rcases q5 with rfl | ⟨rfl, q5⟩ | ⟨rfl, q5⟩
      · have := Own.ext (Agr.refl (fun _ => False) _) (fun _ _ q => q.elim) (fun b _ => hO b) _ _ _ _ (fun _ _ q => q) hown
        by_cases hs2 : s2.isO = true
        · rw [ownB i t s2 h1 hs2, q2]; exact this
        · rcases Sh.notO hs2 with rfl | rfl
          · rw [rdB i t _ h1 (.inl rfl)]; simp only [Own] at this ⊢; exact ⟨trivial, this.2⟩
          · rw [rdB i t _ h1 (.inr rfl)]; simp only [Own] at this ⊢; exact ⟨trivial, this.2⟩
      · rw [rdB i t _ h1 (.inl rfl)]
        simp only [Own]
        exact ⟨trivial, fz (.inl rfl) q5⟩
      · rw [rdB i t _ h1 (.inr rfl)]
        simp only [Own]
        exact ⟨trivial, (fz (.inr rfl) q5).mono fun b _ q => .inl q⟩
  · intro i s hf
    obtain ⟨i', t, s', h1, h2, h3⟩ := mem_stOf.1 hf
    rcases h3 with h3 | h3
    · simp at h3
    · injection h3 with e1 e2
      subst e1 e2
      obtain ⟨n, s2, q1, q2, q3, q4, q5⟩ := get i t _ h1 h2
      by_cases hs : s.isO = true
      · rw [ownB i t s h1 hs, q2]; exact H.nodup n s2 q4
      · rw [rdB i t _ h1 (Sh.notO hs)]; exact List.nodup_nil
  · intro i s hf b hb
    obtain ⟨n, s2, q4, hb2⟩ := hO b ⟨i, s, hf, hb⟩
    exact H.mine n s2 q4 b hb2
  · intro i s j r hf hg hne b hb hb2
    obtain ⟨i', t, s', h1, h2, h3⟩ := mem_stOf.1 hf
    obtain ⟨j', t2, r', k1, k2, k3⟩ := mem_stOf.1 hg
    rcases h3 with h3 | h3
    · simp at h3
    rcases k3 with k3 | k3
    · simp at k3
    injection h3 with e1 e2
    subst e1 e2
    injection k3 with e1 e2
    subst e1 e2
    obtain ⟨n, s2, q1, q2, q3, q4, q5⟩ := get i t _ h1 h2
    obtain ⟨m, r2, p1, p2, p3, p4, p5⟩ := get j t2 _ k1 k2
    by_cases hs : s.isO = true
    · by_cases hr : r.isO = true
      · rw [ownB i t s h1 hs, q2] at hb
        rw [ownB j t2 r k1 hr, p2] at hb2
        have : n ≠ m := by
          rintro rfl
          exact hne (ownOut_inj hn hs hr q1 h1 p1 k1)
        exact H.apart n s2 m r2 q4 p4 this b hb hb2
      · rw [rdB j t2 _ k1 (Sh.notO hr)] at hb2; simp at hb2
    · rw [rdB i t _ h1 (Sh.notO hs)] at hb; simp at hb
  · intro t l hf
    obtain ⟨i, t', s', h1, h2, h3⟩ := mem_stOf.1 hf
    rcases h3 with h3 | h3
    · injection h3 with e1 e2
      subst e1 e2
      obtain ⟨n, s2, q1, q2, q3, q4, q5⟩ := get i t _ h1 h2
      have := H.loc t _ q3
      refine ⟨fun _ => ?_, fun q => (q (by simp [gdOK])).elim⟩
      show a.tmps[t]? = some (vs (ix i))
      rw [q2]; exact this.1 (by simp [gdOK])
    · simp at h3

section
variable {cf : CF} {sg : Nat → Option Sg} {c : Cx} {K : Nat → List D → List D → Prop}

theorem reg_sound (hs : Sound cf sg K) (hc : cf.Fits c) (hm : cf.P.follows .mixedOrders = true) {vt : VT} {ops : Array Oper} {draw : Bool} {L : Nat} {h : Nat × List Nat} {s : S} (ht : trReg cf sg vt ops draw L h = some s)
    {Q : X → Env → Prop} {e : Env} (hQ : wpS K s Q e) (hl : e.length = vt.length) {a : Act} {w : World} (H : Holds c (· ∈ stOf vt L) e.E a w) {id : Nat} {Qc : Exit → Act → World → Prop}
    (hk : ∀ e' a' w', e'.length = vt.length → Q .n e' → Holds c (· ∈ stOf vt h.1) e'.E a' w' → Qc .normal a' w') : (Code.region id ops draw).wp c.P Qc a w := by
  unfold trReg at ht
  simp only [Option.bind_eq_some_iff] at ht
  obtain ⟨⟨qs, st', cnt'⟩, h1, out, h2, ht⟩ := ht
  simp only at h2 ht
  split at ht
  · rename_i hcond
    obtain ⟨hments, hdraw, hnd, hdis⟩ := hcond
    simp only [Option.some.injEq] at ht
    subst ht
    simp only [wpS] at hQ
    obtain ⟨t, q1, q2, q3⟩ := wpIts_ok _ e (by rw [hl]; exact hments) hQ
    rw [hl] at q3
    have H1 : Holds c (· ∈ stOf vt L) (Env.E (e ++ t)) a w := H.congr fun i tt s hi _ => by
      have : i < e.length := by
        rw [hl]
        rcases Nat.lt_or_ge i vt.length with q | q
        · exact q
        · rw [List.getElem?_eq_none q] at hi; simp at hi
      exact E_append this
    have fin : ∀ a' w', Holds c (· ∈ st') (Env.E (e ++ t)) a' w' → Qc .normal a' w' := by
      intro a' w' H'
      refine hk _ a' w' ?_ q1 (out_sound H' h2 hnd ?_)
      · rw [← (outOf_spec h2).1]; simp [outE]
      · intro n hn
        simp only [List.all_eq_true, Bool.not_eq_true', List.contains_eq_mem, decide_eq_false_iff_not] at hdis
        exact hdis n hn
    cases draw with
    | false =>
      refine wp_region ?_
      have := seq_sound hs hc (Q := Qc) ops.toList 0 _ _ _ _ _ _ h1 (fun j o hj => by simpa using hj) q3 a w H1 fin
      rw [List.range_eq_range']
      simpa using this
    | true =>
      simp only [Bool.not_true, Bool.false_or] at hdraw
      refine wp_region_any (by rw [hc.P]; exact hm) ?_
      obtain ⟨⟨vs, Bs, H2⟩, hfix⟩ := H1
      have H3 : Holds c (· ∈ stOf vt L) (Env.E (e ++ t)) a { w with drawn := w.drawn + 1 } :=
        ⟨⟨vs, Bs, H2.own, H2.nodup, H2.mine, H2.apart, H2.loc, H2.agr, H2.os, H2.tape, H2.output, H2.defers, H2.size⟩, hfix⟩
      refine draw_sound hs hc h1 hdraw q3 fin ops.size _ a _ (by simp) ?_ ?_ (H3.mono fun f hf => ?_)
      · exact Nat.le_trans (List.length_filter_le _ _) (by simp)
      · intro k o hk
        rw [Array.getD_eq_getD_getElem?, Array.getElem?_replicate] at hk
        split at hk <;> simp at hk
      · rcases hf with ⟨f1, _⟩ | ⟨j, r, f1, _⟩
        · exact f1
        · have f1' : (Array.replicate ops.size false).getD j false = true := f1
          rw [Array.getD_eq_getD_getElem?, Array.getElem?_replicate] at f1'
          split at f1' <;> simp at f1'
  · simp at ht
end
end Go.Cat

/-
  Whole functions: the translation of their code, and the contract that follows.
-/
namespace Go.Cat

abbrev Tr := Option (S × HL × Option Nat × List (Nat × Nat))

def meetL (o : Option Nat) (L : Nat) : Option Nat := match o with | none => some L | some a => some (a &&& L)
def meetO (a b : Option Nat) : Option Nat := match a, b with | none, b => b | a, none => a | some x, some y => some (x &&& y)

def idxOf (vt : VT) (t : Nat) : Option Nat := vt.findIdx? (fun x => x.1 == t)

/-- The head of a loop: what is alive there and stays so round by round. -/
def loopTr (body : HL → Nat → Tr) (hs : HL) : Nat → Nat → Option (Nat × S × HL × List (Nat × Nat))
  | 0, _ => none
  | n + 1, L => (body hs L).bind fun r => match r.2.2.1 with
    | none => some (L, r.1, r.2.1, r.2.2.2)
    | some L1 => if subB L L1 then some (L, r.1, r.2.1, r.2.2.2) else loopTr body hs n (L &&& L1)

section
variable (cf : CF) (sg : Nat → Option Sg) (vt : VT) (res : List Nat)
def trS : Code → HL → Nat → Tr
  | .skip, hs, L => some (.skip, hs, some L, [])
  | .region _ ops draw, h :: hs, L => (trReg cf sg vt ops draw L h).map fun s => (s, hs, some h.1, [])
  | .seq a b, hs, L => (trS a hs L).bind fun r => match r.2.2.1 with
    | none => some (.seq r.1 .skip, r.2.1, none, r.2.2.2)
    | some L1 => (trS b r.2.1 L1).map fun q => (.seq r.1 q.1, q.2.1, q.2.2.1, r.2.2.2 ++ q.2.2.2)
  | .cond (.tmp t) x y, hs, L => (idxOf vt t).bind fun i =>
    if L.testBit i then (trS x hs (L ^^^ 2 ^ i)).bind fun r => (trS y r.2.1 (L ^^^ 2 ^ i)).map fun q => (.cond i r.1 q.1, q.2.1, meetO r.2.2.1 q.2.2.1, r.2.2.2 ++ q.2.2.2)
    else none
  | .block id b, hs, L => (trS b hs L).map fun r =>
    (.block id r.1, r.2.1, (r.2.2.2.filter (fun x => x.1 == id)).foldl (fun o x => meetL o x.2) r.2.2.1, r.2.2.2.filter (fun x => x.1 != id))
  | .loop b, hs, L => (loopTr (trS b) hs 5 L).map fun r => (.loop r.2.1, r.2.2.1, none, r.2.2.2)
  | .exit id, hs, L => some (.exit id, hs, none, [(id, L)])
  | .ret, hs, L => if res.all (fun i => L.testBit i) then some (.ret, hs, none, []) else none
  | _, _, _ => none
end

def rOK (res : List Nat) (L : Nat) : Prop := ∀ i ∈ res, L.testBit i = true

theorem exists_least {J : Nat → Prop} (h : ∃ n, J n) : ∃ n, J n ∧ ∀ m, m < n → ¬ J m := by
  obtain ⟨n, hn⟩ := h
  induction n using Nat.strongRecOn with
  | _ n ih =>
    by_cases hm : ∃ m, m < n ∧ J m
    · obtain ⟨m, h1, h2⟩ := hm
      exact ih m h1 h2
    · exact ⟨n, hn, fun m h1 h2 => hm ⟨m, h1, h2⟩⟩

theorem loopTr_spec {body : HL → Nat → Tr} {hs : HL} : ∀ {n L : Nat} {r : Nat × S × HL × List (Nat × Nat)}, loopTr body hs n L = some r → subB r.1 L = true ∧ ∃ nb, body hs r.1 = some (r.2.1, r.2.2.1, nb, r.2.2.2) ∧ ∀ L1, nb = some L1 → subB r.1 L1 = true
  | 0, _, _ => fun h => by simp [loopTr] at h
  | n + 1, L, r => fun h => by
    simp only [loopTr, Option.bind_eq_some_iff] at h
    obtain ⟨⟨s, h2, nb, ex⟩, h1, h⟩ := h
    simp only at h
    split at h
    · simp only [Option.some.injEq] at h
      subst h
      exact ⟨by simp [subB], none, h1, fun L1 he => by simp at he⟩
    · rename_i L1
      split at h
      · rename_i hsub
        simp only [Option.some.injEq] at h
        subst h
        refine ⟨by simp [subB], some L1, h1, fun L2 he => ?_⟩
        injection he with he; subst he; exact hsub
      · obtain ⟨k1, k2⟩ := loopTr_spec h
        refine ⟨?_, k2⟩
        have hb : ∀ i, r.1.testBit i = true → L.testBit i = true := fun i hi => by
          have := subB_bit k1 i hi
          rw [Nat.testBit_and, Bool.and_eq_true] at this
          exact this.1
        simp only [subB, beq_iff_eq]
        apply Nat.eq_of_testBit_eq
        intro i
        rw [Nat.testBit_and]
        cases hi : r.1.testBit i with
        | false => rfl
        | true => rw [hb i hi]; rfl

theorem foldl_meet {id : Nat} : ∀ {exs : List (Nat × Nat)} {o : Option Nat} {L : Nat}, ((id, L) ∈ exs ∨ o = some L) → ∃ L', exs.foldl (fun o x => meetL o x.2) o = some L' ∧ ∀ i, L'.testBit i = true → L.testBit i = true
  | [], o, L => fun h => by
    simp only [List.not_mem_nil, false_or] at h
    exact ⟨L, by simp [h], fun _ h => h⟩
  | (k, M) :: exs, o, L => fun h => by
    simp only [List.foldl_cons]
    have step : ∀ N, (meetL o M = some N) → (∀ i, N.testBit i = true → L.testBit i = true) → ∃ L', exs.foldl (fun o x => meetL o x.2) (meetL o M) = some L' ∧ ∀ i, L'.testBit i = true → L.testBit i = true := by
      intro N hN hb
      obtain ⟨L', e1, e2⟩ := foldl_meet (id := id) (exs := exs) (o := meetL o M) (L := N) (.inr hN)
      exact ⟨L', e1, fun i hi => hb i (e2 i hi)⟩
    rcases h with h | h
    · rcases List.mem_cons.1 h with h | h
      · injection h with h1 h2
        subst h2
        cases o with
        | none => exact step L rfl fun _ h => h
        | some A =>
          refine step (A &&& L) rfl fun i hi => ?_
          rw [Nat.testBit_and, Bool.and_eq_true] at hi; exact hi.2
      · exact foldl_meet (id := id) (.inl h)
    · subst h
      refine step (L &&& M) rfl fun i hi => ?_
      rw [Nat.testBit_and, Bool.and_eq_true] at hi; exact hi.1

/-- The ends of a statement, as the model has them. -/
def xe : X → Exit
  | .n => .normal
  | .ex id => .exit id
  | .r => .ret

section
variable {cf : CF} {sg : Nat → Option Sg} {c : Cx} {K : Nat → List D → List D → Prop} {vt : VT} {res : List Nat}

theorem idxOf_spec {t i : Nat} (h : idxOf vt t = some i) : ∃ s, vt[i]? = some (t, s) := by
  unfold idxOf at h
  obtain ⟨h1, h2, _⟩ := List.findIdx?_eq_some_iff_getElem.1 h
  refine ⟨vt[i].2, ?_⟩
  rw [List.getElem?_eq_getElem h1]
  have : vt[i].1 = t := by simpa using h2
  rw [← this]

theorem set_E {e : Env} {i j : Nat} (h : j ≠ i) : Env.E (e.set i .u) j = e.E j := by
  simp [Env.E, List.getD_eq_getElem?_getD, List.getElem?_set_ne (Ne.symm h)]

theorem trS_sound (hs : Sound cf sg K) (hc : cf.Fits c) (hm : cf.P.follows .mixedOrders = true) : ∀ (code : Code) (hh : HL) (L : Nat) (s : S) (hh' : HL) (nrm : Option Nat) (exs : List (Nat × Nat)),
    trS cf sg vt res code hh L = some (s, hh', nrm, exs) → ∀ (Q : X → Env → Prop) (e : Env) (a : Act) (w : World) (Qc : Exit → Act → World → Prop), wpS K s Q e → e.length = vt.length → Holds c (· ∈ stOf vt L) e.E a w →
    (∀ x e' a' w', e'.length = vt.length → Q x e' → (∃ L', (match x with | .n => nrm = some L' | .ex id => (id, L') ∈ exs | .r => rOK res L') ∧ Holds c (· ∈ stOf vt L') e'.E a' w') → Qc (xe x) a' w') →
    code.wp c.P Qc a w
  | .skip, hh, L, s, hh', nrm, exs => fun ht Q e a w Qc hQ hl H hk => by
    simp only [trS, Option.some.injEq, Prod.mk.injEq] at ht
    obtain ⟨rfl, rfl, rfl, rfl⟩ := ht
    exact wp_skip (hk .n e a w hl hQ ⟨L, rfl, H⟩)
  | .region id ops draw, [], L, s, hh', nrm, exs => fun ht => by simp [trS] at ht
  | .region id ops draw, h :: hh, L, s, hh', nrm, exs => fun ht Q e a w Qc hQ hl H hk => by
    simp only [trS, Option.map_eq_some_iff, Prod.mk.injEq] at ht
    obtain ⟨s', h1, rfl, rfl, rfl, rfl⟩ := ht
    exact reg_sound hs hc hm h1 hQ hl H fun e' a' w' hl' hq H' => hk .n e' a' w' hl' hq ⟨h.1, rfl, H'⟩
  | .seq x y, hh, L, s, hh', nrm, exs => fun ht Q e a w Qc hQ hl H hk => by
    simp only [trS, Option.bind_eq_some_iff] at ht
    obtain ⟨⟨s1, h1, n1, e1⟩, hx, ht⟩ := ht
    simp only at ht
    split at ht
    · simp only [Option.some.injEq, Prod.mk.injEq] at ht
      obtain ⟨rfl, rfl, rfl, rfl⟩ := ht
      simp only [wpS] at hQ
      refine wp_seq (trS_sound hs hc hm x hh L _ _ _ _ hx _ e a w _ hQ hl H ?_)
      rintro z e' a' w' hl' hq ⟨L', hz, H'⟩
      cases z with
      | n => simp at hz
      | ex id => exact hk (.ex id) e' a' w' hl' hq ⟨L', hz, H'⟩
      | r => exact hk .r e' a' w' hl' hq ⟨L', hz, H'⟩
    · rename_i L1
      simp only [Option.map_eq_some_iff, Prod.mk.injEq] at ht
      obtain ⟨⟨s2, h2, n2, e2⟩, hy, rfl, rfl, rfl, rfl⟩ := ht
      simp only [wpS] at hQ
      refine wp_seq (trS_sound hs hc hm x hh L _ _ _ _ hx _ e a w _ hQ hl H ?_)
      rintro z e' a' w' hl' hq ⟨L', hz, H'⟩
      cases z with
      | n =>
        injection hz with hz
        subst hz
        refine trS_sound hs hc hm y _ _ _ _ _ _ hy Q e' a' w' Qc hq hl' H' ?_
        rintro z2 e3 a3 w3 hl3 hq3 ⟨L3, hz3, H3⟩
        refine hk z2 e3 a3 w3 hl3 hq3 ⟨L3, ?_, H3⟩
        cases z2 with
        | n => exact hz3
        | ex id => exact List.mem_append_right _ hz3
        | r => exact hz3
      | ex id => exact hk (.ex id) e' a' w' hl' hq ⟨L', List.mem_append_left _ hz, H'⟩
      | r => exact hk .r e' a' w' hl' hq ⟨L', hz, H'⟩
  | .cond (.tmp t) x y, hh, L, s, hh', nrm, exs => fun ht Q e a w Qc hQ hl H hk => by
    simp only [trS, Option.bind_eq_some_iff] at ht
    obtain ⟨i, hi, ht⟩ := ht
    split at ht
    · rename_i hL
      simp only [Option.bind_eq_some_iff, Option.map_eq_some_iff, Prod.mk.injEq] at ht
      obtain ⟨⟨s1, h1, n1, e1⟩, hx, ⟨s2, h2, n2, e2⟩, hy, rfl, rfl, rfl, rfl⟩ := ht
      obtain ⟨sh, hvt⟩ := idxOf_spec hi
      obtain ⟨⟨vs, Bs, HG⟩, hfix⟩ := H
      have f1 := HG.own i sh (mem_stOf.2 ⟨i, t, sh, hvt, hL, .inr rfl⟩)
      have f2 := (HG.loc t _ (mem_stOf.2 ⟨i, t, sh, hvt, hL, .inl rfl⟩)).1 (by simp [gdOK])
      have hsub : ∀ j, (L ^^^ 2 ^ i).testBit j = true → L.testBit j = true ∧ j ≠ i := by
        intro j hj
        rw [Nat.testBit_xor, Nat.testBit_two_pow] at hj
        by_cases hij : i = j
        · subst hij; simp [hL] at hj
        · simp [hij] at hj; exact ⟨hj, fun q => hij q.symm⟩
      have H' : Holds c (· ∈ stOf vt (L ^^^ 2 ^ i)) (Env.E (e.set i .u)) a w :=
        (Holds.mono ⟨⟨vs, Bs, HG⟩, hfix⟩ (stOf_mono fun j hj => (hsub j hj).1)).congr fun j _ _ _ hj => set_E (hsub j hj).2
      simp only [wpS] at hQ
      split at hQ
      · rename_i hb
        rw [hb] at f1
        have hv : a.eval (.tmp t) = .bool true := by
          rw [f1.bool] at f2; simp [Act.eval, f2]
        refine wp_cond_true hv (trS_sound hs hc hm x hh _ _ _ _ _ hx Q _ a w Qc hQ (by simpa using hl) H' ?_)
        rintro z e' a' w' hl' hq ⟨L', hz, H2⟩
        cases z with
        | n =>
          cases n2 with
          | none =>
            have hz' : n1 = some L' := hz
            exact hk .n e' a' w' hl' hq ⟨L', by simp [meetO, hz'], H2⟩
          | some M =>
            have hz' : n1 = some L' := hz
            refine hk .n e' a' w' hl' hq ⟨L' &&& M, by simp [meetO, hz'], H2.mono (stOf_mono fun j hj => ?_)⟩
            rw [Nat.testBit_and, Bool.and_eq_true] at hj; exact hj.1
        | ex id => exact hk (.ex id) e' a' w' hl' hq ⟨L', List.mem_append_left _ hz, H2⟩
        | r => exact hk .r e' a' w' hl' hq ⟨L', hz, H2⟩
      · rename_i hb
        rw [hb] at f1
        have hv : a.eval (.tmp t) = .bool false := by
          rw [f1.bool] at f2; simp [Act.eval, f2]
        refine wp_cond_false hv (trS_sound hs hc hm y _ _ _ _ _ _ hy Q _ a w Qc hQ (by simpa using hl) H' ?_)
        rintro z e' a' w' hl' hq ⟨L', hz, H2⟩
        cases z with
        | n =>
          have hz' : n2 = some L' := hz
          cases n1 with
          | none => exact hk .n e' a' w' hl' hq ⟨L', by simp [meetO, hz'], H2⟩
          | some M =>
            refine hk .n e' a' w' hl' hq ⟨M &&& L', by simp [meetO, hz'], H2.mono (stOf_mono fun j hj => ?_)⟩
            rw [Nat.testBit_and, Bool.and_eq_true] at hj; exact hj.2
        | ex id => exact hk (.ex id) e' a' w' hl' hq ⟨L', List.mem_append_right _ hz, H2⟩
        | r => exact hk .r e' a' w' hl' hq ⟨L', hz, H2⟩
      · exact hQ.elim
    · simp at ht
  | .block id b, hh, L, s, hh', nrm, exs => fun ht Q e a w Qc hQ hl H hk => by
    simp only [trS, Option.map_eq_some_iff, Prod.mk.injEq] at ht
    obtain ⟨⟨s1, h1, n1, e1⟩, hb, rfl, rfl, rfl, rfl⟩ := ht
    simp only [wpS] at hQ
    refine wp_block (trS_sound hs hc hm b hh L _ _ _ _ hb _ e a w _ hQ hl H ?_)
    rintro z e' a' w' hl' hq ⟨L', hz, H'⟩
    cases z with
    | n =>
      have hz' : n1 = some L' := hz
      obtain ⟨L2, q1, q2⟩ := foldl_meet (id := id) (exs := e1.filter (fun x => x.1 == id)) (o := n1) (L := L') (.inr hz')
      exact hk .n e' a' w' hl' hq ⟨L2, q1, H'.mono (stOf_mono q2)⟩
    | ex j =>
      have hz' : (j, L') ∈ e1 := hz
      by_cases hj : j = id
      · subst hj
        have hq' : Q .n e' := by simpa using hq
        obtain ⟨L2, q1, q2⟩ := foldl_meet (id := j) (exs := e1.filter (fun x => x.1 == j)) (o := n1) (L := L') (.inl (by simp [hz']))
        simp only [xe, Exit.inBlock, if_true]
        exact hk .n e' a' w' hl' hq' ⟨L2, q1, H'.mono (stOf_mono q2)⟩
      · have hq' : Q (.ex j) e' := by simpa [hj] using hq
        simp only [xe, Exit.inBlock, if_neg hj]
        exact hk (.ex j) e' a' w' hl' hq' ⟨L', by simp [hz', hj], H'⟩
    | r => exact hk .r e' a' w' hl' hq ⟨L', hz, H'⟩
  | .loop b, hh, L, s, hh', nrm, exs => fun ht Q e a w Qc hQ hl H hk => by
    simp only [trS, Option.map_eq_some_iff, Prod.mk.injEq] at ht
    obtain ⟨⟨Lh, s1, h1, e1⟩, hb, rfl, rfl, rfl, rfl⟩ := ht
    obtain ⟨k1, nb, k2, k3⟩ := loopTr_spec hb
    simp only at k1 k2 k3
    simp only [wpS] at hQ
    let J : Act → World → Nat → Prop := fun a w n => ∃ e, wpLoop (wpS K s1) n Q e ∧ e.length = vt.length ∧ Holds c (· ∈ stOf vt Lh) e.E a w
    let I : Act → World → Prop := fun a w => ∃ n, J a w n
    open Classical in
    let μ : Act → World → Nat := fun a w => if h : ∃ n, J a w n then Classical.choose (exists_least h) else 0
    have hμ : ∀ a w, I a w → J a w (μ a w) ∧ ∀ m, m < μ a w → ¬ J a w m := by
      intro a w h
      have h' : ∃ n, J a w n := h
      simp only [μ, dif_pos h']
      exact Classical.choose_spec (exists_least h')
    obtain ⟨n, hn⟩ := hQ
    refine wp_loop I μ ⟨n, e, hn, hl, H.mono (stOf_mono (subB_bit k1))⟩ ?_
    intro a w hI
    obtain ⟨⟨e, hw, hl2, H2⟩, hmin⟩ := hμ a w hI
    generalize hμn : μ a w = n at *
    cases n with
    | zero => simp [wpLoop] at hw
    | succ n =>
      simp only [wpLoop] at hw
      refine trS_sound hs hc hm b hh Lh _ _ _ _ k2 _ e a w _ hw hl2 H2 ?_
      rintro z e' a' w' hl' hq ⟨L', hz, H'⟩
      cases z with
      | n =>
        have hJ : J a' w' n := ⟨e', hq, hl', H'.mono (stOf_mono (subB_bit (k3 L' hz)))⟩
        refine ⟨⟨n, hJ⟩, ?_⟩
        have := hμ a' w' ⟨n, hJ⟩
        have hle : ¬ n < μ a' w' := fun q => this.2 n q hJ
        show μ a' w' < n + 1
        omega
      | ex id => exact hk (.ex id) e' a' w' hl' hq ⟨L', hz, H'⟩
      | r => exact hk .r e' a' w' hl' hq ⟨L', hz, H'⟩
  | .exit id, hh, L, s, hh', nrm, exs => fun ht Q e a w Qc hQ hl H hk => by
    simp only [trS, Option.some.injEq, Prod.mk.injEq] at ht
    obtain ⟨rfl, rfl, rfl, rfl⟩ := ht
    exact wp_exit (hk (.ex id) e a w hl hQ ⟨L, by simp, H⟩)
  | .ret, hh, L, s, hh', nrm, exs => fun ht Q e a w Qc hQ hl H hk => by
    simp only [trS] at ht
    split at ht
    · rename_i hr
      simp only [Option.some.injEq, Prod.mk.injEq] at ht
      obtain ⟨rfl, rfl, rfl, rfl⟩ := ht
      exact wp_ret (hk .r e a w hl hQ ⟨L, fun i hi => List.all_eq_true.1 hr i hi, H⟩)
    · simp at ht
  | .cond (.const _) _ _, _, _, _, _, _, _ => fun ht => by simp [trS] at ht
  | .cond (.global _) _ _, _, _, _, _, _, _ => fun ht => by simp [trS] at ht
  | .cond (.func _) _ _, _, _, _, _, _, _ => fun ht => by simp [trS] at ht
  | .rangeFunc .., _, _, _, _, _, _ => fun ht => by simp [trS] at ht
  | .scope _, _, _, _, _, _, _ => fun ht => by simp [trS] at ht
  | .label _, _, _, _, _, _, _ => fun ht => by simp [trS] at ht
  | .goto _, _, _, _, _, _, _ => fun ht => by simp [trS] at ht
  | .refuse _, _, _, _, _, _, _ => fun ht => by simp [trS] at ht
end

/-! ### A function -/

/-- A function in the little language: which results are structs that are read from their boxes, of how many cells; how many parameters, how many variables, which of them are the results, the body. -/
structure IF where
  cl : List (Nat × Nat)
  np : Nat
  nv : Nat
  res : List Nat
  body : S

def cellsOK (cl : List (Nat × Nat)) (rs : List D) : Bool := cl.all fun x => match rs[x.1]? with
  | some d => lenG x.2 d
  | none => false

/-- What the body gives: the results, at each of its ends. -/
def Body (K : Nat → List D → List D → Prop) (f : IF) (ds rs : List D) : Prop :=
  (ds.length = f.np ∧ cellsOK f.cl rs = true) ∧ wpS K f.body (fun x e => (match x with | .ex _ => False | _ => True) ∧ rs = f.res.map e.E) (ds ++ List.replicate (f.nv - f.np) .u)

/-- The results' variables; the structs' cells. -/
def resIdx (P : Program) (vt : VT) : List ResultVar → Option (List (Nat × Option Nat))
  | [] => some []
  | .tmp t :: r => (idxOf vt t).bind fun i => (resIdx P vt r).map ((i, none) :: ·)
  | .cell t ty :: r => (structN P ty).bind fun n => (idxOf vt t).bind fun i => (resIdx P vt r).map ((i, some n) :: ·)

def parsOK (vt : VT) (ps : List Sh) : Bool := ps.zipIdx.all fun x => vt[x.2]? == some (x.2, x.1)

/-- The shape of a result, by its variable's. -/
def outSh : Option Nat → Sh → Option Sh
  | none, q => some q
  | some _, .b s => some (.a s)
  | some _, _ => none

def shOK (vt : VT) (rx : List (Nat × Option Nat)) (qs : List Sh) : Bool := rx.length == qs.length && (rx.zip qs).all fun x => ((vt[x.1.1]?).bind fun y => outSh x.1.2 y.2) == some x.2

def clOf (rx : List (Nat × Option Nat)) : List (Nat × Nat) := rx.zipIdx.filterMap fun x => x.1.2.map fun n => (x.2, n)

def nrmOK (res : List Nat) : Option Nat → Bool
  | some L => res.all (fun i => L.testBit i)
  | none => true

/-- The translation of a function. -/
def trF (cf : CF) (sg : Nat → Option Sg) (vt : VT) (hl : HL) (fn : Func) (s : Sg) : Option IF :=
  match fn.body with
  | none => none
  | some code => (resIdx cf.P vt fn.results.toList).bind fun rx => (trS cf sg vt (rx.map (·.1) ++ s.io) code hl (2 ^ s.ps.length - 1)).bind fun r =>
    if s.ps.length ≤ vt.length ∧ s.ps.length ≤ fn.ntmps ∧ parsOK vt s.ps = true ∧ shOK vt (rx ++ s.io.map fun i => (i, none)) s.outs = true ∧ (rx.map (·.1) ++ s.io).Nodup ∧ r.2.2.2 = [] ∧ nrmOK (rx.map (·.1) ++ s.io) r.2.2.1 = true ∧ cf.nt = fn.ntmps ∧
        (s.io.all fun i => cf.fx.contains i && decide (i < s.ps.length)) = true ∧ rx.length = s.qs.length then
      some ⟨clOf rx, s.ps.length, vt.length, rx.map (·.1) ++ s.io, r.1⟩
    else none

theorem resIdx_spec {P : Program} {vt : VT} : ∀ {l : List ResultVar} {res : List (Nat × Option Nat)}, resIdx P vt l = some res → l.length = res.length ∧
    ∀ (j : Nat) (x : Nat × Option Nat), res[j]? = some x → ∃ t s, vt[x.1]? = some (t, s) ∧ ((x.2 = none ∧ l[j]? = some (ResultVar.tmp t)) ∨ ∃ n ty, x.2 = some n ∧ structN P ty = some n ∧ l[j]? = some (ResultVar.cell t ty))
  | [], res, h => by simp only [resIdx, Option.some.injEq] at h; subst h; simp
  | .tmp t :: l, res, h => by
    simp only [resIdx, Option.bind_eq_some_iff, Option.map_eq_some_iff] at h
    obtain ⟨i, hi, r, hr, rfl⟩ := h
    obtain ⟨e1, e2⟩ := resIdx_spec hr
    refine ⟨by simp [e1], fun j k hj => ?_⟩
    cases j with
    | zero =>
      simp at hj; subst hj
      obtain ⟨s, hs⟩ := idxOf_spec hi
      exact ⟨t, s, hs, .inl ⟨rfl, by simp⟩⟩
    | succ j => simpa using e2 j k (by simpa using hj)
  | .cell t ty :: l, res, h => by
    simp only [resIdx, Option.bind_eq_some_iff, Option.map_eq_some_iff] at h
    obtain ⟨n, hn, i, hi, r, hr, rfl⟩ := h
    obtain ⟨e1, e2⟩ := resIdx_spec hr
    refine ⟨by simp [e1], fun j k hj => ?_⟩
    cases j with
    | zero =>
      simp at hj; subst hj
      obtain ⟨s, hs⟩ := idxOf_spec hi
      exact ⟨t, s, hs, .inr ⟨n, ty, rfl, hn, by simp⟩⟩
    | succ j => simpa using e2 j k (by simpa using hj)

theorem clOf_ok {rx : List (Nat × Option Nat)} {rs : List D} (h : cellsOK (clOf rx) rs = true) {j i n : Nat} (hj : rx[j]? = some (i, some n)) : ∃ xs, rs[j]? = some (.g xs) ∧ xs.length = n := by
  simp only [cellsOK, List.all_eq_true] at h
  have := h (j, n) (by
    unfold clOf
    refine List.mem_filterMap.2 ⟨((i, some n), j), ?_, rfl⟩
    rw [List.mem_iff_getElem?]
    exact ⟨j, by simp [List.getElem?_zipIdx, hj]⟩)
  simp only at this
  split at this
  · rename_i d hd
    unfold lenG at this
    split at this
    · rename_i xs; exact ⟨xs, hd, by simpa using this⟩
    · cases this
  · cases this

theorem testBit_ones {n i : Nat} : (2 ^ n - 1).testBit i = decide (i < n) := Nat.testBit_two_pow_sub_one n i

theorem EachS.of {α : Type} {R : Sh → D → Value → List Nat → Prop} {E : α → D} {vs : α → Value} {Bs : α → List Nat} : ∀ (res : List α) (qs : List Sh), res.length = qs.length →
    (∀ (j : Nat) (i : α) (q : Sh), res[j]? = some i → qs[j]? = some q → R q (E i) (vs i) (Bs i)) → EachS R qs (res.map E) (res.map vs) (res.flatMap Bs)
  | [], [], _, _ => by simp [EachS]
  | i :: res, q :: qs, hl, h => by
    simp only [List.map_cons, List.flatMap_cons, EachS]
    exact ⟨Bs i, res.flatMap Bs, rfl, h 0 i q (by simp) (by simp), EachS.of res qs (by simpa using hl) fun j k r h1 h2 => h (j + 1) k r (by simpa using h1) (by simpa using h2)⟩
  | [], _ :: _, hl, _ => by simp at hl
  | _ :: _, [], hl, _ => by simp at hl

theorem run_results {P : Program} {w : World} {tm : Array Value} : ∀ (l : List ResultVar) (vals : List Value), l.length = vals.length →
    (∀ (j : Nat) (v : Value), vals[j]? = some v → (∃ t, l[j]? = some (ResultVar.tmp t) ∧ tm.getD t undef = v) ∨ ∃ t ty, l[j]? = some (ResultVar.cell t ty) ∧ (do loadVar ty (← asAddr (tm.getD t undef)) : Sem Value).run P w = .ok v w) →
    (l.mapM (fun (x : ResultVar) => match x with | .tmp t => (Pure.pure (tm.getD t undef) : Sem Value) | .cell a t => do loadVar t (← asAddr (tm.getD a undef)))).run P w = .ok vals w
  | [], [], _, _ => rfl
  | r :: l, v :: vals, hl, h => by
    rw [List.mapM_cons, Sem.run_bind]
    have ih := run_results l vals (by simpa using hl) fun j v hj => by simpa using h (j + 1) v (by simpa using hj)
    rcases h 0 v (by simp) with ⟨t, h1, h2⟩ | ⟨t, ty, h1, h2⟩
    · simp only [List.getElem?_cons_zero, Option.some.injEq] at h1
      subst h1
      simp only [Sem.run_pure, Result.andThen, Sem.run_bind]
      rw [ih]
      simp [h2]
    · simp only [List.getElem?_cons_zero, Option.some.injEq] at h1
      subst h1
      simp only [h2, Result.andThen, Sem.run_bind]
      rw [ih]
      simp
  | [], _ :: _, hl, _ => by simp at hl
  | _ :: _, [], hl, _ => by simp at hl

section
variable {cf : CF} {sg : Nat → Option Sg} {K : Nat → List D → List D → Prop} {vt : VT}

theorem tupled_of (l : List Value) : tupled (if h : l.toArray.size = 1 then l.toArray[0] else .tuple l.toArray) l := by
  match l with
  | [] => simp [tupled]
  | [x] => simp [tupled]
  | x :: y :: l => simp [tupled]

theorem flat_nodup {Bs : Nat → List Nat} : ∀ {res : List Nat}, res.Nodup → (∀ i ∈ res, (Bs i).Nodup) → (∀ i ∈ res, ∀ j ∈ res, i ≠ j → ∀ b ∈ Bs i, b ∉ Bs j) → (res.flatMap Bs).Nodup
  | [], _, _, _ => by simp
  | i :: res, hn, h1, h2 => by
    simp only [List.flatMap_cons]
    obtain ⟨q1, q2⟩ := List.nodup_cons.1 hn
    refine List.nodup_append.2 ⟨h1 i (List.mem_cons_self ..), flat_nodup q2 (fun j hj => h1 j (List.mem_cons_of_mem _ hj)) (fun j hj k hk => h2 j (List.mem_cons_of_mem _ hj) k (List.mem_cons_of_mem _ hk)), ?_⟩
    intro b hb b' hb' e
    subst e
    obtain ⟨m, hm, hb'⟩ := List.mem_flatMap.1 hb'
    exact h2 i (List.mem_cons_self ..) m (List.mem_cons_of_mem _ hm) (fun e => q1 (e ▸ hm)) b hb hb'

theorem fst_inj {α β : Type} : ∀ {l : List (α × β)}, l.Pairwise (fun a b => a.1 ≠ b.1) → ∀ x ∈ l, ∀ y ∈ l, x ≠ y → x.1 ≠ y.1
  | [], _, x, hx, _, _, _ => by simp at hx
  | a :: l, h, x, hx, y, hy, hne => by
    obtain ⟨h1, h2⟩ := List.pairwise_cons.1 h
    rcases List.mem_cons.1 hx with rfl | hx2
    · rcases List.mem_cons.1 hy with rfl | hy2
      · exact (hne rfl).elim
      · exact h1 y hy2
    · rcases List.mem_cons.1 hy with rfl | hy2
      · exact fun e => h1 x hx2 e.symm
      · exact fst_inj h2 x hx2 y hy2 hne

/-- THE CONTRACT OF A FUNCTION, from its body. -/
theorem con_of_body (hs : Sound cf sg K) (hm : cf.P.follows .mixedOrders = true) (hgof : ∀ f k, cf.gof f = some k → cf.fid k = f) {hl : HL} {fn : Func} {s : Sg} {f : IF} {fi : FuncId}
    (ht : trF cf sg vt hl fn s = some f) (hfn : cf.P.funcs[fi]? = some fn) {ds rs : List D} (hb : Body K f ds rs) : Con cf.P cf.fid fi s ds rs := by
  intro w X args B hB hX hargs
  unfold trF at ht
  split at ht
  · simp at ht
  · rename_i code hcode
    simp only [Option.bind_eq_some_iff] at ht
    obtain ⟨rx, hres, ⟨st, hl2, nrm, exs⟩, htr, ht⟩ := ht
    split at ht
    · rename_i hcond
      obtain ⟨c1, c2, c3, c4, c5, c6, c7, c8, c9, c10⟩ := hcond
      simp only [List.all_eq_true, Bool.and_eq_true, List.contains_eq_mem, decide_eq_true_eq] at c9
      simp only [Option.some.injEq] at ht
      subst ht
      subst c6
      obtain ⟨⟨hdl, hcl⟩, hwp⟩ := hb
      obtain ⟨l1, l2, bf, k1, k2, k3, k4⟩ := EachS.fn hargs hB
      let c : Cx := ⟨cf.P, cf.fid, w, (· ∈ B), X, cf.nt, s.io.map fun i => (i, args.getD i undef), hX⟩
      have hc : cf.Fits c := ⟨rfl, rfl, rfl, hgof, by
        intro x hx
        obtain ⟨i, hi, rfl⟩ := List.mem_map.1 hx
        exact (c9 i hi).1⟩
      let a0 : Act := { tmps := args.toArray ++ Array.replicate (fn.ntmps - args.toArray.size) undef, defers := [] }
      let e0 : Env := ds ++ List.replicate (vt.length - s.ps.length) D.u
      have he0 : e0.length = vt.length := by simp [e0]; omega
      have pv : ∀ i t sh, vt[i]? = some (t, sh) → (2 ^ s.ps.length - 1).testBit i = true → i < s.ps.length ∧ t = i ∧ s.ps[i]? = some sh := by
        intro i t sh h1 h2
        rw [testBit_ones] at h2
        have hi : i < s.ps.length := by simpa using h2
        simp only [parsOK, List.all_eq_true] at c3
        have := c3 (s.ps[i], i) (List.mem_zipIdx_iff_getElem?.2 (by simp [hi]))
        simp only [beq_iff_eq] at this
        rw [h1] at this
        simp only [Option.some.injEq, Prod.mk.injEq] at this
        exact ⟨hi, this.1, by rw [this.2]; simp [hi]⟩
      have getE : ∀ i, i < ds.length → e0.E i = ds.getD i .u := by
        intro i hi
        simp [Env.E, e0, List.getD_eq_getElem?_getD, List.getElem?_append_left hi]
      have H0 : Holds c (· ∈ stOf vt (2 ^ s.ps.length - 1)) e0.E a0 w := by
        refine ⟨⟨fun i => args.getD i undef, bf, ?_, ?_, ?_, ?_, ?_, Agr.refl _ _, rfl, rfl, rfl, rfl, ?_⟩, ?fixed⟩
        case fixed =>
          intro x hx
          obtain ⟨i, hi, rfl⟩ := List.mem_map.1 hx
          have hil := (c9 i hi).2
          show (args.toArray ++ Array.replicate (fn.ntmps - args.toArray.size) undef)[i]? = _
          rw [Array.getElem?_append_left (by simp; omega)]
          simp [List.getD_eq_getElem?_getD, show i < args.length by omega]
        · intro n sh hf
          obtain ⟨i, t, s', h1, h2, h3⟩ := mem_stOf.1 hf
          rcases h3 with h3 | h3
          · simp at h3
          · injection h3 with e1 e2
            subst e1 e2
            obtain ⟨q1, q2, q3⟩ := pv n t sh h1 h2
            rw [getE n (by omega)]
            have := k1 n sh (ds.getD n .u) (args.getD n undef) q3 (by simp [List.getD_eq_getElem?_getD, show n < ds.length by omega]) (by simp [List.getD_eq_getElem?_getD, show n < args.length by omega])
            refine Own.ext (Agr.refl (fun _ => False) _) (fun _ _ q => q.elim) (fun b _ hb => ?_) _ _ _ _ (fun _ _ q => q) this
            obtain ⟨m, r, hm, hbm⟩ := hb
            obtain ⟨i2, t2, s2, g1, g2, g3⟩ := mem_stOf.1 hm
            rcases g3 with g3 | g3
            · simp at g3
            · injection g3 with e1 e2
              subst e1 e2
              exact (k2 m (by have := (pv m t2 r g1 g2).1; omega)).2 b hbm
        · intro n sh hf
          obtain ⟨i, t, s', h1, h2, h3⟩ := mem_stOf.1 hf
          rcases h3 with h3 | h3
          · simp at h3
          · injection h3 with e1 e2
            subst e1 e2
            exact (k2 n (by have := (pv n t sh h1 h2).1; omega)).1
        · intro n sh hf b hb
          obtain ⟨i, t, s', h1, h2, h3⟩ := mem_stOf.1 hf
          rcases h3 with h3 | h3
          · simp at h3
          · injection h3 with e1 e2
            subst e1 e2
            exact .inr ((k2 n (by have := (pv n t sh h1 h2).1; omega)).2 b hb)
        · intro n sh m r hf hg hne b hb hb2
          obtain ⟨i, t, s', h1, h2, h3⟩ := mem_stOf.1 hf
          obtain ⟨i2, t2, s2, g1, g2, g3⟩ := mem_stOf.1 hg
          rcases h3 with h3 | h3
          · simp at h3
          rcases g3 with g3 | g3
          · simp at g3
          injection h3 with e1 e2
          subst e1 e2
          injection g3 with e1 e2
          subst e1 e2
          have p1 := (pv n t sh h1 h2).1
          have p2 := (pv m t2 r g1 g2).1
          exact k3 n m (by omega) (by omega) hne b hb hb2
        · intro t l hf
          obtain ⟨i, t', s', h1, h2, h3⟩ := mem_stOf.1 hf
          rcases h3 with h3 | h3
          · injection h3 with e1 e2
            subst e1 e2
            obtain ⟨q1, q2, q3⟩ := pv i t s' h1 h2
            subst q2
            refine ⟨fun _ => ?_, fun q => (q (by simp [gdOK])).elim⟩
            show (args.toArray ++ Array.replicate (fn.ntmps - args.toArray.size) undef)[t]? = _
            rw [Array.getElem?_append_left (by simp; omega)]
            simp [List.getD_eq_getElem?_getD, show t < args.length by omega]
          · simp at h3
        · show (args.toArray ++ Array.replicate (fn.ntmps - args.toArray.size) undef).size = cf.nt
          simp; omega
      refine calls_of_wp hfn hcode ?_
      refine trS_sound hs hc hm code hl _ _ _ _ _ htr _ e0 a0 w _ hwp he0 H0 ?_
      rintro z e' a' w' hl' ⟨hz1, hz2⟩ ⟨L', hz, ⟨vs, Bs, H⟩, hfix⟩
      have hrL : (∃ id, z = .ex id) ∨ rOK (rx.map (·.1) ++ s.io) L' := by
        cases z with
        | n =>
          right
          have hz' : nrm = some L' := hz
          simp only [hz', nrmOK] at c7
          exact fun i hi => List.all_eq_true.1 c7 i hi
        | ex id => exact .inl ⟨id, rfl⟩
        | r => exact .inr hz
      rcases hrL with ⟨id, rfl⟩ | hrL
      · exact hz1.elim
      have hres2 := resIdx_spec hres
      simp only [shOK, Bool.and_eq_true, beq_iff_eq, List.all_eq_true] at c4
      obtain ⟨ro, hro⟩ : ∃ ro : List (Nat × Option Nat), ro = rx ++ s.io.map fun i => (i, none) := ⟨_, rfl⟩
      have hro1 : rx.map (·.1) ++ s.io = ro.map (·.1) := by rw [hro]; simp [List.map_map, Function.comp_def]
      rw [hro1] at c5 hrL
      have hz2 : rs = (rx.map (·.1) ++ s.io).map e'.E := hz2
      rw [hro1] at hz2
      rw [← hro] at c4
      have rfact : ∀ (j : Nat) (x : Nat × Option Nat), ro[j]? = some x → ∃ t q q', vt[x.1]? = some (t, q) ∧ outSh x.2 q = some q' ∧ s.outs[j]? = some q' ∧ Fact.en x.1 q ∈ stOf vt L' ∧ Fact.sl t (.is x.1 []) ∈ stOf vt L' := by
        intro j x hj
        have hL := hrL x.1 (List.mem_map.2 ⟨x, List.mem_of_getElem? hj, rfl⟩)
        have hjl : j < ro.length := by
          rcases Nat.lt_or_ge j ro.length with q | q
          · exact q
          · rw [List.getElem?_eq_none q] at hj; simp at hj
        have hjq : s.outs[j]? = some (s.outs[j]'(by omega)) := by simp
        have := c4.2 (x, s.outs[j]'(by omega)) (by
          rw [List.mem_iff_getElem?]
          exact ⟨j, by simp [List.getElem?_zip_eq_some, hj]⟩)
        cases hvi : vt[x.1]? with
        | none => rw [hvi] at this; simp at this
        | some tq =>
          obtain ⟨t, q⟩ := tq
          rw [hvi] at this
          simp only [Option.bind_some] at this
          exact ⟨t, q, _, rfl, this, hjq, mem_stOf.2 ⟨x.1, t, q, hvi, hL, .inr rfl⟩, mem_stOf.2 ⟨x.1, t, q, hvi, hL, .inl rfl⟩⟩
      have hv : ∀ x, x ∈ ro → ∃ q, Fact.en x.1 q ∈ stOf vt L' := by
        intro x hi
        obtain ⟨j, hj⟩ := List.mem_iff_getElem?.1 hi
        obtain ⟨t, q, _, _, _, _, h3, _⟩ := rfact j x hj
        exact ⟨q, h3⟩
      -- each result: its value, its blocks
      let U : Nat × Option Nat → Value := fun x => match x.2 with
        | none => vs x.1
        | some _ => match vs x.1 with
          | .pointer (some ⟨b, _, _⟩) => match w'.heap[b]? with
            | some (.cells cs _ _) => .agg cs
            | _ => undef
          | _ => undef
      let C : Nat × Option Nat → List Nat := fun x => match x.2 with
        | none => Bs x.1
        | some _ => (Bs x.1).tail
      have hCB : ∀ x, ∀ b ∈ C x, b ∈ Bs x.1 := by
        intro x b hb
        obtain ⟨i, k⟩ := x
        cases k with
        | none => exact hb
        | some n => exact List.mem_of_mem_tail hb
      have hroN : ro.Nodup := (List.pairwise_map.1 c5).imp fun h e => h (congrArg _ e)
      have hinj : ∀ x ∈ ro, ∀ y ∈ ro, x ≠ y → x.1 ≠ y.1 := fst_inj (List.pairwise_map.1 c5)
      have hBn : (ro.flatMap C).Nodup := by
        have key : ∀ l : List (Nat × Option Nat), (∀ x ∈ l, x ∈ ro) → l.Nodup → (l.flatMap C).Nodup := by
          intro l
          induction l with
          | nil => intro _ _; simp
          | cons x l ih =>
            intro hm hn
            obtain ⟨n1, n2⟩ := List.nodup_cons.1 hn
            simp only [List.flatMap_cons]
            obtain ⟨s1, hs1⟩ := hv x (hm x (List.mem_cons_self ..))
            refine List.nodup_append.2 ⟨?_, ih (fun y hy => hm y (List.mem_cons_of_mem _ hy)) n2, fun b hb b' hb' e => ?_⟩
            · have h0 := H.nodup x.1 s1 hs1
              obtain ⟨i, k⟩ := x
              cases k with
              | none => exact h0
              | some n => exact List.Nodup.sublist (List.tail_sublist _) h0
            · subst e
              obtain ⟨y, hy, hb2⟩ := List.mem_flatMap.1 hb'
              obtain ⟨s2, hs2⟩ := hv y (hm y (List.mem_cons_of_mem _ hy))
              exact H.apart x.1 s1 y.1 s2 hs1 hs2 (hinj x (hm x (List.mem_cons_self ..)) y (hm y (List.mem_cons_of_mem _ hy)) (fun e => n1 (e ▸ hy))) b (hCB x b hb) (hCB y b hb2)
        exact key ro (fun _ h => h) hroN
      have hio : s.io.map vs = s.io.map fun i => args.getD i undef := by
        apply List.map_congr_left
        intro i hi
        have hmem : (i, none) ∈ ro := by rw [hro]; exact List.mem_append_right _ (List.mem_map.2 ⟨i, hi, rfl⟩)
        obtain ⟨j, hj⟩ := List.mem_iff_getElem?.1 hmem
        obtain ⟨t, q, _, h1, _, _, _, h4⟩ := rfact j _ hj
        obtain ⟨_, rfl, _⟩ := pv i t q h1 (by rw [testBit_ones]; simpa using (c9 i hi).2)
        have e1 := (H.loc t _ h4).1 (by simp [gdOK])
        have e2 := hfix (t, args.getD t undef) (List.mem_map.2 ⟨t, hi, rfl⟩)
        rw [e1] at e2
        injection e2
      -- a struct in its box
      have cell : ∀ (j i n : Nat), ro[j]? = some (i, some n) → ∃ q xs b cs e B', Fact.en i (.b q) ∈ stOf vt L' ∧ s.outs[j]? = some (.a q) ∧ e'.E i = .g xs ∧ xs.length = n ∧ vs i = .pointer (some ⟨b, 0, none⟩) ∧ w'.heap[b]? = some (.cells cs e (0, 0)) ∧ cs.size = n ∧ Bs i = b :: B' ∧
          Each (Own cf.fid w'.heap (OB (· ∈ stOf vt L') Bs) X q) xs cs.toList B' := by
        intro j i n hj
        obtain ⟨t, q, q', h1, h2, h3, h4, h5⟩ := rfact j _ hj
        cases q with
        | b q =>
          simp only [outSh, Option.some.injEq] at h2
          subst h2
          have hown := H.own i _ h4
          simp only [Own] at hown
          obtain ⟨xs, b, cs, e, fz, B', k1, k2, k3, k4, k5, k6, k7⟩ := hown
          have hfz : fz = (0, 0) := k5
          subst hfz
          have hjr : rx[j]? = some (i, some n) := by
            rw [hro] at hj
            rcases Nat.lt_or_ge j rx.length with r | r
            · rwa [List.getElem?_append_left r] at hj
            · rw [List.getElem?_append_right r] at hj
              simp only [List.getElem?_map, Option.map_eq_some_iff, Prod.mk.injEq] at hj
              obtain ⟨_, _, _, h⟩ := hj
              cases h
          obtain ⟨ys, z1, z2⟩ := clOf_ok hcl hjr
          have hrs : rs[j]? = some (e'.E i) := by rw [hz2]; simp [hj]
          rw [hrs, k1] at z1
          injection z1 with z1
          injection z1 with z1
          subst z1
          exact ⟨q, xs, b, cs, e, B', h4, h3, k1, z2, k3, k4, by omega, k2, k7⟩
        | _ => simp [outSh] at h2
      have hUc : ∀ (i n : Nat) (b : Nat) (cs : Array Value) (e : TypeId), vs i = .pointer (some ⟨b, 0, none⟩) → w'.heap[b]? = some (.cells cs e (0, 0)) → U (i, some n) = .agg cs := by
        intro i n b cs e h1 h2
        simp only [U, h1, h2]
      have hEach : EachS (Own cf.fid w'.heap (· ∈ ro.flatMap C) X) s.outs rs (rx.map U ++ s.io.map fun i => args.getD i undef) (ro.flatMap C) := by
        have hmapU : rx.map U ++ (s.io.map fun i => args.getD i undef) = ro.map U := by
          rw [hro, List.map_append, ← hio]
          simp [List.map_map, Function.comp_def, U]
        rw [hmapU, hz2, List.map_map]
        refine EachS.of ro s.outs c4.1 fun j x q h1 h2 => ?_
        have hO : ∀ b, b ∈ ro.flatMap C → OB (· ∈ stOf vt L') Bs b := by
          intro b hb
          obtain ⟨m, hm, hb⟩ := List.mem_flatMap.1 hb
          obtain ⟨r, hr⟩ := hv m hm
          exact ⟨m.1, r, hr, hCB m b hb⟩
        obtain ⟨i, k⟩ := x
        cases k with
        | none =>
          obtain ⟨t, q0, q', _, h3, h4, h5, _⟩ := rfact j _ h1
          simp only [outSh, Option.some.injEq] at h3
          subst h3
          rw [h2] at h4; injection h4 with h4; subst h4
          exact Own.ext (Agr.refl (fun _ => False) _) (fun _ _ q => q.elim) (fun b _ hb => hO b hb) _ _ _ _ (fun _ _ q => q) (H.own i q h5)
        | some n =>
          obtain ⟨q0, xs, b, cs, e, B', z1, z2, z3, z4, z5, z6, z7, z8, z9⟩ := cell j i n h1
          rw [h2] at z2; injection z2 with z2; subst z2
          rw [hUc i n b cs e z5 z6]
          show Own cf.fid w'.heap (· ∈ ro.flatMap C) X (.a q0) (e'.E i) (.agg cs) (Bs i).tail
          rw [z3, z8]
          simp only [Own, List.tail_cons]
          refine ⟨xs, cs, rfl, rfl, by omega, Each.imp (fun d v B1 _ r => ?_) z9⟩
          exact Own.ext (Agr.refl (fun _ => False) _) (fun _ _ q => q.elim) (fun b _ hb => hO b hb) _ _ _ _ (fun _ _ q => q) r
      have hvals : ∀ (j : Nat) (v : Value), (rx.map U)[j]? = some v → (∃ t, fn.results.toList[j]? = some (ResultVar.tmp t) ∧ a'.tmps.getD t undef = v) ∨ ∃ t ty, fn.results.toList[j]? = some (ResultVar.cell t ty) ∧ (do loadVar ty (← asAddr (a'.tmps.getD t undef)) : Sem Value).run cf.P w' = .ok v w' := by
        intro j v hj
        simp only [List.getElem?_map, Option.map_eq_some_iff] at hj
        obtain ⟨x, hi, rfl⟩ := hj
        obtain ⟨t, s1, h1, h7⟩ := hres2.2 j x hi
        have hj2 : ro[j]? = some x := by
          rw [hro, List.getElem?_append_left]
          · exact hi
          · rcases Nat.lt_or_ge j rx.length with q | q
            · exact q
            · rw [List.getElem?_eq_none q] at hi; simp at hi
        obtain ⟨t2, q, q', h1', _, _, _, h6⟩ := rfact j x hj2
        rw [h1] at h1'
        simp only [Option.some.injEq, Prod.mk.injEq] at h1'
        obtain ⟨rfl, rfl⟩ := h1'
        have hl := (H.loc t _ h6).1 (by simp [gdOK])
        have hg : a'.tmps.getD t undef = vs x.1 := by simp [Array.getD_eq_getD_getElem?, hl]
        rcases h7 with ⟨h7, h8⟩ | ⟨n, ty, h7, h8, h9⟩
        · left
          refine ⟨t, h8, ?_⟩
          rw [hg]
          obtain ⟨i, k⟩ := x
          simp only at h7
          subst h7
          rfl
        · right
          refine ⟨t, ty, h9, ?_⟩
          obtain ⟨i, k⟩ := x
          simp only at h7
          subst h7
          obtain ⟨q0, xs, b, cs, e, B', z1, z2, z3, z4, z5, z6, z7, z8, z9⟩ := cell j i n hj2
          rw [hUc i n b cs e z5 z6, hg, z5]
          obtain ⟨fs, inf, y1, y2, y3, _, _⟩ := structN_spec h8
          have := run_loadVar_row (P := cf.P) w' b e ty cs (0, 0) (.struct fs) z6 y1 rfl (by simp [y2, y3, z7])
          simpa [asAddr] using this
      have hrun : (results fn a'.tmps).run cf.P w' = .ok (if h : (rx.map U).toArray.size = 1 then (rx.map U).toArray[0] else .tuple (rx.map U).toArray) w' := by
        unfold results
        rw [Sem.run_bind]
        have e1 := run_results (P := cf.P) (w := w') (tm := a'.tmps) fn.results.toList (rx.map U) (by simp [hres2.1]) hvals
        rw [Array.mapM_eq_mapM_toList, Sem.run_map]
        erw [e1]
        rfl
      have hQ : ∃ v, (results fn a'.tmps).run cf.P w' = .ok v w' ∧ ∃ v_1 vs_1 B', Ending.returned v = .returned v_1 ∧ tupled v_1 vs_1 ∧ vs_1.length = s.qs.length ∧ Agr (· ∈ B) w.heap w'.heap ∧ w'.os = w.os ∧ w'.tape = w.tape ∧ w'.output = w.output ∧
          B'.Nodup ∧ (∀ b ∈ B', b ∈ B ∨ w.heap.size ≤ b) ∧ EachS (Own cf.fid w'.heap (· ∈ B') X) s.outs rs (vs_1 ++ s.io.map fun i => args.getD i undef) B' := by
        refine ⟨_, hrun, _, rx.map U, ro.flatMap C, rfl, ?_, by simp [c10], H.agr, H.os, H.tape, H.output, hBn, ?_, hEach⟩
        · exact tupled_of _
        · intro b hb
          obtain ⟨m, hm, hb⟩ := List.mem_flatMap.1 hb
          obtain ⟨r, hr⟩ := hv m hm
          exact (H.mine m.1 r hr b (hCB m b hb)).symm
      cases z with
      | n => exact ⟨H.defers, hQ⟩
      | ex id => exact hz1.elim
      | r => exact ⟨H.defers, hQ⟩
    · simp at ht
end
end Go.Cat

/-
  A seat's program: its functions by their own numbers, and their contracts.
-/
namespace Go.Cat

/-- A function of the seat: its own number, its number in the program, its signature. -/
structure Row where
  k : Nat
  f : Nat
  s : Sg

def rowOf (tab : List Row) (k : Nat) : Option Row := tab.find? fun r => r.k == k

def fidOf (tab : List Row) (k : Nat) : Nat := match rowOf tab k with | some r => r.f | none => 0
def gofOf (tab : List Row) (f : Nat) : Option Nat := (tab.find? fun r => r.f == f).map (·.k)
def sgOf (tab : List Row) (k : Nat) : Option Sg := (rowOf tab k).map (·.s)

def entersB (P : Program) (f : Nat) : Bool := match P.funcs[f]? with
  | some fn => fn.body.isSome && fn.name != "runtime.NumGoroutine"
  | none => false

def tabOK (P : Program) (tab : List Row) : Bool := tab.all fun r => (fidOf tab r.k == r.f) && entersB P r.f

def cfOf (P : Program) (tab : List Row) (nt : Nat) (io : List Nat := []) : CF := ⟨P, fidOf tab, gofOf tab, nt, io⟩

/-- The contracts of a seat. -/
def KS (P : Program) (tab : List Row) : Nat → List D → List D → Prop := fun k ds rs => ∃ r, rowOf tab k = some r ∧ Con P (fidOf tab) r.f r.s ds rs

theorem enters {P : Program} {f : Nat} (h : entersB P f = true) (args : Array Value) (w : World) : (callFunc f args).run P w = .ok (.enter f args) w := by
  unfold entersB at h
  split at h
  · rename_i fn hf
    simp only [Bool.and_eq_true, bne_iff_ne] at h
    unfold callFunc
    rw [Sem.run_bind]
    simp only [run_program, Result.andThen, hf]
    rw [if_neg (by simpa using h.2), if_neg (by cases hb : fn.body <;> simp [hb] at h ⊢)]
    rfl
  · simp at h

theorem row_mem {tab : List Row} {k : Nat} {r : Row} (h : rowOf tab k = some r) : r ∈ tab ∧ r.k = k := by
  refine ⟨List.mem_of_find?_eq_some h, ?_⟩
  have := List.find?_some h
  simpa using this

theorem KS.sound {P : Program} {tab : List Row} {nt : Nat} {io : List Nat} (h : tabOK P tab = true) : Sound (cfOf P tab nt io) (sgOf tab) (KS P tab) := by
  simp only [tabOK, List.all_eq_true, Bool.and_eq_true] at h
  constructor
  · rintro k ds rs s ⟨r, hr, hc⟩ hs
    simp only [sgOf, hr, Option.map_some, Option.some.injEq] at hs
    subst hs
    show Con P (fidOf tab) (fidOf tab k) r.s ds rs
    simp only [fidOf, hr]
    exact hc
  · intro k s hs args w
    simp only [sgOf, Option.map_eq_some_iff] at hs
    obtain ⟨r, hr, _⟩ := hs
    show (callFunc (fidOf tab k) args).run P w = _
    have : fidOf tab k = r.f := by simp only [fidOf, hr]
    rw [show (cfOf P tab nt io).fid k = r.f from this, show fidOf tab k = r.f from this]
    exact enters (h r (row_mem hr).1).2 args w

/-- A function's contract, from its body. -/
theorem KS.of_body {P : Program} {tab : List Row} (h : tabOK P tab = true) (hm : P.follows .mixedOrders = true) {k nt : Nat} {io : List Nat} {r : Row} {vt : VT} {hl : HL} {fn : Func} {f : IF} (hr : rowOf tab k = some r)
    (ht : trF (cfOf P tab nt io) (sgOf tab) vt hl fn r.s = some f) (hfn : P.funcs[r.f]? = some fn) {ds rs : List D} (hb : Body (KS P tab) f ds rs) : KS P tab k ds rs := by
  refine ⟨r, hr, con_of_body (cf := cfOf P tab nt io) (KS.sound h) hm ?_ ht hfn hb⟩
  intro g j hg
  simp only [cfOf, gofOf, Option.map_eq_some_iff] at hg
  obtain ⟨x, hx, rfl⟩ := hg
  have h1 := List.mem_of_find?_eq_some hx
  have h2 : x.f = g := by simpa using List.find?_some hx
  simp only [tabOK, List.all_eq_true, Bool.and_eq_true] at h
  have := (h x h1).1
  show fidOf tab x.k = g
  rw [← h2]
  simpa using this

end Go.Cat

