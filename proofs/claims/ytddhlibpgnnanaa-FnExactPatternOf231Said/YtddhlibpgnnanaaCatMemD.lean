/-
  Addresses of elements, and loads: that they are sound.
-/
import Derived.Test.YtddhlibpgnnanaaCatMemC
namespace Go.Cat

section
variable {cf : CF} {c : Cx} {F : Fact → Prop} {E : Nat → D} {a : Act} {w : World} {vs : Nat → Value} {Bs : Nat → List Nat} {cnt : Nat} {g : Gd} {sm : Sm} {st : List Fact} {o : Oper} {p : Pr}
  {K : Nat → List D → List D → Prop}

theorem exec_index {t : TypeId} {x i : Operand} (ho : o.op = .indexAddr t x i) {v : Value} (h : (Instr.indexAt t (a.eval x) (a.eval i)).run c.P w = .ok v w) : (execOp a.eval o).run c.P w = .ok (.value v) w := by
  simp only [execOp, ho]
  exact run_v h

theorem alive_next {F : Fact → Prop} {d : Nat} {m : Nat} {s : Sh} {ns : List Fact} {l : Loc} {n : Nat} (hn : n ≠ m) (h : alive (next F (some d) ⟨ns, [], one m s (some d) l⟩) n) : alive F n := by
  obtain ⟨r, h | h⟩ := h
  · exact ⟨r, h.1⟩
  · simp [one] at h; exact (hn h.1).elim

theorem Rd.flat {fid : Nat → Nat} {h : Array Obj} {Z Z' : Nat → Prop} {d : D} {v : Value} (hf : d.flat = true) (r : Rd fid h Z d v) : Rd fid h Z' d v := by
  cases d <;> simp [D.flat] at hf <;> simpa [Rd] using r

theorem trIx_ro {d : Nat} (hd : o.dst = some d) {s : Sh} (hsv : s = .v ∨ s = .y) {n : Nat} {ia : A} {ns : List Fact} {t e : TypeId} {ti : TypeInfo} {x i : Operand}
    (h : At cf c F E a w vs Bs cnt g (.ix (.e n) [] ia) ⟨ns, [], one cnt s (some d) (.vc cnt g)⟩) (hdn : d < cf.nt) (ho : o.op = .indexAddr t x i) (he : elem1 cf.P t = some (e, ti))
    {B Bi : List Nat} (hx : Own c.fid w.heap (OB F Bs) c.Xb s (E n) (a.eval x) B) {si : Sh} (hi : Own c.fid w.heap (OB F Bs) c.Xb si (ev E ia) (a.eval i) Bi) (hE : EvP K E cnt (.ix (.e n) [] ia)) :
    StepOK c o ⟨ns, [], one cnt s (some d) (.vc cnt g)⟩ F E a w := by
  have hE' : ixD (E n) (ev E ia) = some (E cnt) := by simpa [EvP, evP, pathD, getP, ev] using hE
  obtain ⟨xs, k, j, h1, h2, h3⟩ := ixD_spec hE'
  rw [h1] at hx
  rw [h2] at hi
  have hiv := hi.int
  obtain ⟨Z, hZ, hr⟩ : ∃ Z : Nat → Prop, (∀ b, OB F Bs b → Z b) ∧ Rd c.fid w.heap Z (.l xs) (a.eval x) ∧ (∀ u, Rd c.fid w.heap Z (E cnt) u → Own c.fid w.heap (OB F Bs) c.Xb s (E cnt) u []) := by
    rcases hsv with rfl | rfl
    · simp only [Own] at hx
      exact ⟨_, fun b q => .inl q, hx.2, fun u hu => by simp only [Own]; exact ⟨trivial, hu⟩⟩
    · simp only [Own] at hx
      exact ⟨_, fun b q => q, hx.2, fun u hu => by simp only [Own]; exact ⟨trivial, hu⟩⟩
  obtain ⟨b, off, cap, cs, e', fz, u, hv, hn, hb, hz, hc, hu⟩ := hr.1.elem h3
  have hP : c.P = cf.P := h.fits.P
  have hrun : (execOp a.eval o).run c.P w = .ok (.value (.pointer (some ⟨b, off + j, none⟩))) w := by
    refine exec_index ho ?_
    rw [hv, hiv]
    exact run_indexAt1 (by rw [hP]; exact he) hn
  refine StepOK.of_value hrun ⟨upd vs cnt u, upd Bs cnt [], ?_⟩
  rw [hd]
  refine h.H.leaf (s := s) (v := u) (by simpa using h.fresh 0 (by simp [Pr.np])) (by rw [h.fits.nt]; simpa [inB] using hdn) (same_world w) (hr.2 u hu) [] ?_
  intro tm htm t' ht' hg
  injection ht' with ht'; subst ht'
  refine ⟨b, off + j, cs, e', fz, htm d rfl, hb, ?_, fun q => hz (hZ b q)⟩
  rw [upd_same]; exact hc

theorem trIx_flat {d : Nat} (hd : o.dst = some d) {n : Nat} {ia : A} {ns : List Fact} {t e : TypeId} {ti : TypeInfo} {x i : Operand}
    (h : At cf c F E a w vs Bs cnt g (.iy (.e n) ia) ⟨ns, [], one cnt .v (some d) (.vc cnt g)⟩) (hdn : d < cf.nt) (ho : o.op = .indexAddr t x i) (he : elem1 cf.P t = some (e, ti))
    {B Bi : List Nat} (hx : Own c.fid w.heap (OB F Bs) c.Xb .y (E n) (a.eval x) B) {si : Sh} (hi : Own c.fid w.heap (OB F Bs) c.Xb si (ev E ia) (a.eval i) Bi) (hE : EvP K E cnt (.iy (.e n) ia)) :
    StepOK c o ⟨ns, [], one cnt .v (some d) (.vc cnt g)⟩ F E a w := by
  have hE0 : (ixD (E n) (ev E ia)).bind flatD = some (E cnt) := by simpa [EvP, evP, ev] using hE
  obtain ⟨y, hE1, hE2⟩ := Option.bind_eq_some_iff.1 hE0
  have hfl : y.flat = true ∧ y = E cnt := by
    unfold flatD at hE2
    split at hE2
    · rename_i q; injection hE2 with hE2; exact ⟨q, hE2⟩
    · cases hE2
  obtain ⟨hfl, rfl⟩ := hfl
  have hE' : ixD (E n) (ev E ia) = some (E cnt) := hE1
  obtain ⟨xs, k, j, h1, h2, h3⟩ := ixD_spec hE'
  rw [h1] at hx
  rw [h2] at hi
  have hiv := hi.int
  simp only [Own] at hx
  have hr := hx.2
  obtain ⟨b, off, cap, cs, e', fz, u, hv, hn, hb, hz, hc, hu⟩ := hr.elem h3
  have hP : c.P = cf.P := h.fits.P
  have hrun : (execOp a.eval o).run c.P w = .ok (.value (.pointer (some ⟨b, off + j, none⟩))) w := by
    refine exec_index ho ?_
    rw [hv, hiv]
    exact run_indexAt1 (by rw [hP]; exact he) hn
  refine StepOK.of_value hrun ⟨upd vs cnt u, upd Bs cnt [], ?_⟩
  rw [hd]
  refine h.H.leaf (s := .v) (v := u) (by simpa using h.fresh 0 (by simp [Pr.np])) (by rw [h.fits.nt]; simpa [inB] using hdn) (same_world w) (by simp only [Own]; exact ⟨trivial, Rd.flat hfl hu⟩) [] ?_
  intro tm htm t' ht' hg
  injection ht' with ht'; subst ht'
  refine ⟨b, off + j, cs, e', fz, htm d rfl, hb, ?_, fun q => hz q⟩
  rw [upd_same]; exact hc

theorem trIx_sound {t : TypeId} {x i : Operand} (ho : o.op = .indexAddr t x i) (ht : trIx cf st cnt o g t x i = some (p, sm)) (h : At cf c F E a w vs Bs cnt g p sm) (hE : EvP K E cnt p) : StepOK c o sm F E a w := by
  unfold trIx at ht
  split at ht
  · cases ht
  · rename_i d hd
    split at ht
    · rename_i hd2
      obtain ⟨hdn, hel⟩ := hd2
      obtain ⟨⟨e, ti⟩, hel⟩ := Option.isSome_iff_exists.1 hel
      simp only [Option.bind_eq_some_iff] at ht
      obtain ⟨⟨n, q, s, ns⟩, hroot, ⟨ia, si, ins⟩, hia, ht⟩ := ht
      simp only at ht
      split at ht
      · rename_i hs
        split at ht
        · rename_i hq
          subst hq
          simp only [Option.some.injEq, Prod.mk.injEq] at ht
          obtain ⟨rfl, rfl⟩ := ht
          obtain ⟨_, is, d1, k1, k2, ⟨B, hB, _⟩, k4⟩ := rootOf_sound hroot h (fun f hf => List.mem_append_left _ hf) hs
          have his : is = [] := by simpa [pathE] using k1.symm
          subst his
          obtain ⟨Bi, hi, _⟩ := h.opA hia (fun f hf => List.mem_append_right _ hf)
          have hdd : d1 = E n := by simpa [getP] using k2.symm
          subst hdd
          exact trIx_ro hd (.inl rfl) h hdn ho hel hB hi hE
        · cases ht
      · rename_i hs
        split at ht
        · rename_i hq
          subst hq
          split at ht
          all_goals
            simp only [Option.some.injEq, Prod.mk.injEq] at ht
            obtain ⟨rfl, rfl⟩ := ht
            obtain ⟨_, is, d1, k1, k2, ⟨B, hB, _⟩, k4⟩ := rootOf_sound hroot h (fun f hf => List.mem_append_left _ hf) hs
            have his : is = [] := by simpa [pathE] using k1.symm
            subst his
            obtain ⟨Bi, hi, _⟩ := h.opA hia (fun f hf => List.mem_append_right _ hf)
            have hdd : d1 = E n := by simpa [getP] using k2.symm
            subst hdd
          · exact trIx_flat hd h hdn ho hel hB hi hE
          · exact trIx_ro hd (.inr rfl) h hdn ho hel hB hi hE
        · cases ht
      · rename_i es hs
        simp only [Option.map_eq_some_iff, Prod.mk.injEq] at ht
        obtain ⟨pe, hpe, rfl, rfl⟩ := ht
        obtain ⟨hF, is, d1, k1, k2, ⟨B, hB, hBn⟩, k4⟩ := rootOf_sound hroot h (fun f hf => List.mem_append_left _ hf) hs
        obtain ⟨Bi, hi, _⟩ := h.opA hia (fun f hf => List.mem_append_right _ hf)
        have hE' : ixD d1 (ev E ia) = some (E cnt) := by
          have hm : q.mapM (PE.ev E) = some is := k1
          simpa [EvP, evP, pathD, hm, ev, k2] using hE
        obtain ⟨xs, k, j, e1, e2, e3⟩ := ixD_spec hE'
        subst e1
        rw [e2] at hi
        have hiv := hi.int
        have hg1 : getP [j] (.l xs) = some (E cnt) := by simp [getP, e3]
        obtain ⟨b, o', y, B', w1, w2, w3, _⟩ := Wk.of_own [j] (.o es) es _ _ _ B (by simp) hB hg1 (by simp [Sh.under])
        have hcell := w1
        simp only [Wk] at hcell
        obtain ⟨b', off, len, cap, cs, e', fz, y', hv, hjl, hb, hy, hh⟩ := hcell
        rcases hh with ⟨_, rfl, rfl, rfl⟩ | ⟨hne, _⟩
        · have hP : c.P = cf.P := h.fits.P
          have hrun : (execOp a.eval o).run c.P w = .ok (.value (.pointer (some ⟨b, off + j, none⟩))) w := by
            refine exec_index ho ?_
            rw [hv, hiv]
            exact run_indexAt1 (by rw [hP]; exact hel) hjl
          have hfr : Fresh F cnt := by simpa using h.fresh 0 (by simp [Pr.np])
          have hnc : n ≠ cnt := by rintro rfl; exact hfr.1 _ hF
          have hloc : ∀ (tm : Array Value) (al : Nat → Prop), tm[d]? = some (.pointer (some ⟨b, off + j, none⟩)) → LocR w.heap E (upd vs cnt y) (OB F Bs) al tm d (.ad n (q ++ [pe]) cnt g) := by
            intro tm al htm _ _
            refine ⟨is ++ [j], b, off + j, E cnt, pathE_snoc (peOf_ev hpe e2) k1, ?_, ?_, htm⟩
            · rw [getP_append, k2]; simpa using hg1
            · rw [upd_same, upd_ne vs y hnc]
              rcases k4 with ⟨rfl, hv0, _⟩ | ⟨hne, b0, o0, k4⟩
              · rw [← hv0]; simpa using w1
              · exact Wk.snoc is hne k4 w1
          split
          · rename_i hes
            subst hes
            rw [if_pos rfl] at h
            simp only [Own] at w2
            refine StepOK.of_value hrun ⟨upd vs cnt y, upd Bs cnt [], ?_⟩
            rw [hd]
            refine h.H.leaf (s := .v) (v := y) hfr (by rw [h.fits.nt]; simpa [inB] using hdn) (same_world w) (by simp only [Own]; exact ⟨trivial, w2.2⟩) [] ?_
            intro tm htm t' ht'
            injection ht' with ht'; subst ht'
            exact hloc tm _ (htm d rfl)
          · rename_i hes
            rw [if_neg hes] at h
            refine StepOK.of_value hrun ⟨upd vs cnt y, upd Bs cnt [], ?_⟩
            rw [hd]
            exact h.H.leaf0 hfr (by rw [h.fits.nt]; exact hdn) (same_world w) fun tm htm => hloc tm _ htm
        · exact (hne rfl).elim
      · cases ht
    · cases ht

theorem exec_load {t : TypeId} {x : Operand} (ho : o.op = .load t x) {v : Value} (h : (Instr.loadAt t (a.eval x)).run c.P w = .ok v w) : (execOp a.eval o).run c.P w = .ok (.value v) w := by
  simp only [execOp, ho]
  exact run_v h

theorem trLd_sound {t : TypeId} {x : Operand} (ho : o.op = .load t x) (ht : trLd cf st o g t x = some (p, sm)) (h : At cf c F E a w vs Bs cnt g p sm) : StepOK c o sm F E a w := by
  unfold trLd at ht
  split at ht
  · rename_i s d hd
    split at ht
    · rename_i hd2
      obtain ⟨hdn, hpl⟩ := hd2
      have hP : c.P = cf.P := h.fits.P
      have hput : ∀ v : Value, (a.put (some d) v).tmps[d]? = some v := fun v => put_self (by rw [h.H.size, h.fits.nt]; exact hdn)
      simp only [Option.bind_eq_some_iff] at ht
      obtain ⟨l, hl, ht⟩ := ht
      cases l with
      | vc n g' =>
        simp only at ht
        split at ht
        · rename_i hg'
          simp only [Option.some.injEq, Prod.mk.injEq] at ht
          obtain ⟨rfl, rfl⟩ := ht
          obtain ⟨b, o', cs, e, fz, k1, k2, k3, _⟩ := h.H.loc s (.vc n g') (h.needs _ (by simp)) (prefix_gd hg' h.g)
          have hev : a.eval (.tmp s) = .pointer (some ⟨b, o', none⟩) := by simp [Act.eval, Array.getD_eq_getD_getElem?, k1]
          have hrun : (execOp a.eval o).run c.P w = .ok (.value (vs n)) w := by
            refine exec_load ho ?_
            rw [hev]
            exact run_loadAt1 (by rw [hP]; exact hpl) k2 k3
          refine StepOK.of_value hrun ⟨vs, Bs, ?_⟩
          rw [hd]
          exact h.H.slot (same_world w) ⟨fun _ => hput _, fun q => (q h.g).elim⟩
        · cases ht
      | ad r q m g' =>
        simp only at ht
        split at ht
        · rename_i hg'
          simp only [Option.map_eq_some_iff, Prod.mk.injEq] at ht
          obtain ⟨sr, hsr, rfl, rfl⟩ := ht
          have hal : alive F r := ⟨sr, h.needs _ (by simp)⟩
          obtain ⟨is, b, o', d1, k1, k2, k3, k4⟩ := h.H.loc s (.ad r q m g') (h.needs _ (by simp)) (prefix_gd hg' h.g) hal
          have hev : a.eval (.tmp s) = .pointer (some ⟨b, o', none⟩) := by simp [Act.eval, Array.getD_eq_getD_getElem?, k4]
          obtain ⟨cs, e, fz, c1, c2⟩ := k3.cell
          have hrun : (execOp a.eval o).run c.P w = .ok (.value (vs m)) w := by
            refine exec_load ho ?_
            rw [hev]
            exact run_loadAt1 (by rw [hP]; exact hpl) c1 c2
          refine StepOK.of_value hrun ⟨vs, Bs, ?_⟩
          rw [hd]
          refine h.H.slot (same_world w) ?_
          split
          · exact ⟨fun _ => hput _, fun q => (q h.g).elim⟩
          · exact fun _ _ => ⟨is, b, o', d1, k1, k2, k3, hput _⟩
        · cases ht
      | is _ _ => cases ht
      | ip _ _ _ _ => cases ht
      | tu _ _ => cases ht
      | aw _ _ _ => cases ht
    · cases ht
  · cases ht

end
end Go.Cat
