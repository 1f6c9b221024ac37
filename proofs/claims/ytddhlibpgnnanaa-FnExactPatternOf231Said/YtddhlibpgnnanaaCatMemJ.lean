/-
  The store.
-/
import Derived.Test.YtddhlibpgnnanaaCatMemI
namespace Go.Cat
set_option linter.unusedVariables false

theorem StepOK.of_skip {c : Cx} {o : Oper} {sm : Sm} {F : Fact → Prop} {E : Nat → D} {a : Act} {w w' : World} (hr : (execOp a.eval o).run c.P w = .ok .skip w')
    (hd : o.dst = none) (hh : HoldsX c (next F none sm) E a w') : StepOK c o sm F E a w := by
  intro nxt Q hn
  simp only [Oper.wp, hr, Oper.upon, hd]
  rw [hd] at hn
  exact hn _ _ hh

/-- The cell that a slot is the address of. -/
def adOf : Loc → Option (Nat × List PE × Gd)
  | .ad r p _ g => some (r, p, g)
  | .aw r p g => some (r, p, g)
  | _ => none

/-- The other addresses of cells of a row (asked for by the hint). -/
def awSlots (st : List Fact) (k r : Nat) : List PE → List (Nat × Loc × PE)
  | [_] => if k = 1 then st.filterMap fun f => match f with
      | .sl t l => (match adOf l with
        | some (r', [e], []) => if r' = r then some (t, l, e) else none
        | _ => none)
      | .en _ _ => none
    else []
  | _ => []

theorem awSlots_spec {st : List Fact} {k r : Nat} {p : List PE} {t : Nat} {l : Loc} {e : PE} (h : (t, l, e) ∈ awSlots st k r p) : (∃ e0, p = [e0]) ∧ adOf l = some (r, [e], []) := by
  unfold awSlots at h
  split at h
  · rename_i e0
    refine ⟨⟨e0, rfl⟩, ?_⟩
    split at h
    · simp only [List.mem_filterMap] at h
      obtain ⟨f, _, hf⟩ := h
      split at hf
      · split at hf
        · rename_i h1
          split at hf
          · rename_i hr
            simp only [Option.some.injEq, Prod.mk.injEq] at hf
            obtain ⟨rfl, rfl, rfl⟩ := hf
            rw [h1, hr]
          · cases hf
        · cases hf
      · cases hf
    · simp at h
  · simp at h

theorem adOf_loc {h : Array Obj} {E : Nat → D} {vs : Nat → Value} {O al : Nat → Prop} {tm : Array Value} {t : Nat} {l : Loc} {r : Nat} {p : List PE} {g : Gd} (hl : adOf l = some (r, p, g)) (H : LocR h E vs O al tm t l) :
    gdOK E g → al r → ∃ is b o d x, pathE E p = some is ∧ getP is (E r) = some d ∧ Wk h is (vs r) b o x ∧ tm[t]? = some (.pointer (some ⟨b, o, none⟩)) := by
  cases l with
  | ad r' p' m g' =>
    simp only [adOf, Option.some.injEq, Prod.mk.injEq] at hl
    obtain ⟨rfl, rfl, rfl⟩ := hl
    intro hg ha
    obtain ⟨is, b, o, d, k1, k2, k3, k4⟩ := H hg ha
    exact ⟨is, b, o, d, _, k1, k2, k3, k4⟩
  | aw r' p' g' =>
    simp only [adOf, Option.some.injEq, Prod.mk.injEq] at hl
    obtain ⟨rfl, rfl, rfl⟩ := hl
    exact H
  | _ => simp [adOf] at hl

/-- The slots that take the new name: all, or the one that the hint tells. -/
def slotsK (st : List Fact) (k r : Nat) : List (Nat × Gd) := if k < 2 then slotsOf st r else (slotsOf st r).filter fun x => x.1 == k - 2

section
variable (cf : CF) (st : List Fact) (cnt : Nat) (o : Oper) (g : Gd)

def trSt (k : Nat) (t : TypeId) (x v : Operand) : Option (Pr × Sm) :=
  match x with
  | .tmp s => if g = [] ∧ o.dst = none ∧ plain1 cf.P t = true then match findSl st s with
    | some l => match adOf l with
      | some (r, p, []) =>
        (findEn st r).bind fun sr => match sr.under p.length with
          | some es => (trPut cf st g es v).bind fun a =>
              if r ∉ a.2.1 then some (.up r p a.1, ⟨[.sl s l, .en r sr] ++ (a.2.2 ++ ((slotsK st k r).map fun x => .sl x.1 (.is r x.2)) ++ (awSlots st k r p).map fun x => .sl x.1 x.2.1), r :: a.2.1,
                .en cnt sr :: ((slotsK st k r).map fun x => .sl x.1 (.is cnt x.2)) ++ (awSlots st k r p).map fun x => .sl x.1 (.aw cnt [x.2.2] [])⟩)
              else none
          | none => none
      | _ => none
    | none => none
    else none
  | _ => none
end

section
variable {cf : CF} {c : Cx} {F : Fact → Prop} {E : Nat → D} {a : Act} {w : World} {vs : Nat → Value} {Bs : Nat → List Nat} {cnt : Nat} {g : Gd} {sm : Sm} {st : List Fact} {o : Oper} {p : Pr}
  {K : Nat → List D → List D → Prop}

theorem trSt_sound {k : Nat} {t : TypeId} {x v : Operand} (ho : o.op = .store t x v) (ht : trSt cf st cnt o g k t x v = some (p, sm)) (h : At cf c F E a w vs Bs cnt g p sm) (hE : EvP K E cnt p) : StepOK c o sm F E a w := by
  unfold trSt at ht
  split at ht
  · rename_i s
    split at ht
    · rename_i hc
      obtain ⟨hg0, hdst, hpl⟩ := hc
      split at ht
      · rename_i l hl
        split at ht
        · rename_i r q had
          simp only [Option.bind_eq_some_iff] at ht
          obtain ⟨sr, hsr, ht⟩ := ht
          split at ht
          · rename_i es hes
            simp only [Option.bind_eq_some_iff] at ht
            obtain ⟨⟨α, ks, ns⟩, hput, ht⟩ := ht
            simp only at ht
            split at ht
            · rename_i hrk
              simp only [Option.some.injEq, Prod.mk.injEq] at ht
              obtain ⟨rfl, rfl⟩ := ht
              have hP : c.P = cf.P := h.fits.P
              have hr : F (.en r sr) := h.needs _ (by simp)
              have hown := h.H.own r sr hr
              obtain ⟨is, gb, go, d0, x0, k1, k2, k3, k4⟩ := adOf_loc had (h.H.loc s l (h.needs _ (by simp))) (by intro x hx; simp at hx) ⟨sr, hr⟩
              have hev : a.eval (.tmp s) = .pointer (some ⟨gb, go, none⟩) := by simp [Act.eval, Array.getD_eq_getD_getElem?, k4]
              have hne : is ≠ [] := by rintro rfl; simp [Wk] at k3
              have hsu : sr.under is.length = some es := by rw [pathE_len k1]; exact hes
              obtain ⟨b2, o2, x2, B2, w1, w2, w3, hgbB⟩ := Wk.of_own is sr es (E r) d0 (vs r) (Bs r) hne hown k2 hsu
              obtain ⟨rfl, rfl, _⟩ := Wk.det is k3 w1
              have hE' : (if (ev E α).one = true then (q.mapM (PE.ev E)).bind fun is => setP is (E r) (ev E α) else none) = some (E cnt) := hE
              have hq : q.mapM (PE.ev E) = some is := k1
              split at hE'
              · rename_i hone
                rw [hq, Option.bind_some] at hE'
                have hlt : ∀ n s, F (.en n s) → ∀ b ∈ Bs n, b < w.heap.size := fun n s hs => Own.blocks_lt s _ _ _ (h.H.own n s hs)
                have hO := Oput_old h.H (ks := r :: ks) (es := es) (N := fun b => b ∈ Bs r) (fun b hb q => ⟨r, sr, hr, q⟩)
                have hnsn : ∀ f ∈ ns, f ∈ ([.sl s l, .en r sr] ++ (ns ++ ((slotsK st k r).map fun x => Fact.sl x.1 (.is r x.2)) ++ (awSlots st k r q).map fun x => Fact.sl x.1 x.2.1)) := fun f hf => by simp [hf]
                have hal : ∀ n ∈ ks, alive F n := by
                  obtain ⟨_, _, _, k⟩ := trPut_sound (O' := fun _ => False) hput h hnsn (fun _ _ q => q.elim) (fun _ _ _ _ _ q => q)
                  exact k
                obtain ⟨Bx, x1, x2', _⟩ := trPut_sound hput h hnsn hO (fun q => by
                  subst q
                  refine Oput_fr h.H (fun n hn => List.mem_cons_of_mem _ hn) hal (fun n hn b hb hbr => ?_)
                  obtain ⟨rn, hrn⟩ := hal n hn
                  exact h.H.apart n rn r sr hrn hr (fun e => hrk (e ▸ hn)) b hb hbr)
                have hBx : ∀ b ∈ Bx, ∃ n ∈ ks, alive F n ∧ b ∈ Bs n ∧ es ≠ .v := by
                  intro b hb
                  rcases x2' with ⟨_, rfl⟩ | ⟨n, rfl, rfl, q⟩
                  · simp at hb
                  · exact ⟨n, by simp, hal n (by simp), hb, q⟩
                have hBxr : ∀ b ∈ Bx, b ∉ Bs r := by
                  intro b hb hbr
                  obtain ⟨n, hn, ⟨rn, hrn⟩, hbn, _⟩ := hBx b hb
                  exact h.H.apart n rn r sr hrn hr (fun e => hrk (e ▸ hn)) b hbn hbr
                have hBxn : Bx.Nodup := by
                  rcases x2' with ⟨_, rfl⟩ | ⟨n, rfl, rfl, q⟩
                  · simp
                  · obtain ⟨rn, hrn⟩ := hal n (by simp)
                    exact h.H.nodup n rn hrn
                obtain ⟨gcs, ge, gfz, c1, c2⟩ := k3.cell
                have hfz : gfz = (0, 0) := own_thawed is sr (E r) d0 (vs r) (Bs r) hown k2 hsu k3 c1
                subst hfz
                have hv1 := x1.one hone
                have hrun : (execOp a.eval o).run c.P w = .ok .skip (w.setRow gb (gcs.setIfInBounds go (a.eval v))) := by
                  simp only [execOp, ho]
                  rw [Sem.run_bind, hev, run_storeAt1 (by rw [hP]; exact hpl) c1 c2 hv1]
                  rfl
                have hheap' := setRow_heap w gb gcs (gcs.setIfInBounds go (a.eval v)) ge (0, 0) c1
                have hagr : Agr (fun b => b = gb) w.heap (w.setRow gb (gcs.setIfInBounds go (a.eval v))).heap := ⟨by simp, fun b _ hb => setRow_other w gb b _ hb⟩
                have x1' : Own c.fid (w.setRow gb (gcs.setIfInBounds go (a.eval v))).heap (Oput F Bs (r :: ks) es fun b => b ∈ Bs r) c.Xb es (ev E α) (a.eval v) Bx :=
                  Own.ext hagr (fun b _ hb => .inr (.inr (by rw [hb]; exact hgbB))) (fun _ _ q => q) _ _ _ _ (fun b hb e => hBxr b hb (by rw [e]; exact hgbB)) x1
                obtain ⟨B', s1, s2, s3, _⟩ := Own.set (O := OB F Bs) (fun b hb => setRow_other w gb b _ hb) (by simp) c1 hheap' ⟨r, sr, hr, hgbB⟩ hO x1' is sr (E r) (E cnt) (vs r) _ (Bs r) hne hown (h.H.nodup r sr hr) (fun k hk hkx => hBxr k hkx hk) hBxn hsu hE' k3
                have hfr : Fresh F cnt := by simpa using h.fresh 0 (by simp [Pr.np])
                have hrc : r ≠ cnt := by rintro rfl; exact hfr.1 _ hr
                have H1 := h.H.put (m := cnt) (s := sr) (v := vs r) (B := B') (dst := none) (ns := []) hfr (by simp [inB]) (r :: ks) (hagr.mono fun b _ hb => ⟨r, sr, hr, by simp, by rw [hb]; exact hgbB⟩) rfl rfl rfl
                  (Own.ext (Agr.refl (fun _ => False) _) (fun _ _ q => q.elim) (fun b _ hb => by
                    rcases hb with hb | hb
                    · exact .inl hb
                    · rcases s2 b hb with hb | hb
                      · exact .inr (.inr hb)
                      · obtain ⟨n, hn, ha, hbn, hesv⟩ := hBx b hb
                        exact .inr (.inl ⟨hesv, n, List.mem_cons_of_mem _ hn, ha, hbn⟩)) _ _ _ _ (fun _ _ q => q) s1) s3
                  (fun b hb => by
                    rcases s2 b hb with hb | hb
                    · exact .inl ⟨r, sr, hr, by simp, hb⟩
                    · obtain ⟨n, hn, ⟨rn, hrn⟩, hbn, _⟩ := hBx b hb
                      exact .inl ⟨n, rn, hrn, List.mem_cons_of_mem _ hn, hbn⟩) h.g
                refine StepOK.of_skip hrun hdst ⟨upd vs cnt (vs r), upd Bs cnt B', ?_⟩
                refine H1.more2 ?_ ?_
                · intro n s'
                  simp only [next, one, List.cons_append, List.mem_cons, List.mem_append, List.mem_map, List.not_mem_nil, or_false]
                  constructor
                  · rintro (q | q | ⟨_, _, q⟩ | ⟨_, _, q⟩)
                    · exact .inl q
                    · exact .inr q
                    · cases q
                    · cases q
                  · rintro (q | q)
                    · exact .inl q
                    · exact .inr (.inl q)
                · intro t' l' hf
                  rcases hf with ⟨q1, _⟩ | q
                  · exact .inl (.inl ⟨q1, by simp⟩)
                  · simp only [List.cons_append, List.mem_cons, List.mem_append, List.mem_map] at q
                    rcases q with q | ⟨⟨u, gu⟩, hu, q⟩ | ⟨⟨u, lu, e2⟩, hu, q⟩
                    · cases q
                    · injection q with q1 q2
                      subst q1 q2
                      have hf0 : F (.sl u (.is r gu)) := h.needs _ (by simp only [List.mem_append, List.mem_map]; exact .inr (.inl (.inr ⟨(u, gu), hu, rfl⟩)))
                      have := H1.loc u (.is r gu) (.inl ⟨hf0, by simp⟩)
                      right
                      refine ⟨fun hg => ?_, this.2⟩
                      have h1 := this.1 hg
                      rw [upd_ne vs _ hrc] at h1
                      rw [upd_same]; exact h1
                    · injection q with q1 q2
                      subst q1 q2
                      right
                      intro hg _
                      obtain ⟨⟨e0, hq0⟩, had2⟩ := awSlots_spec hu
                      subst hq0
                      have hf0 : F (.sl u lu) := h.needs _ (by simp only [List.mem_append, List.mem_map]; exact .inr (.inr ⟨(u, lu, e2), hu, rfl⟩))
                      obtain ⟨is2, b2, o2, d2, y2, j1, j2, j3, j4⟩ := adOf_loc had2 (h.H.loc u lu hf0) hg ⟨sr, hr⟩
                      have l1 : is.length = 1 := pathE_len k1
                      have l2 : is2.length = 1 := pathE_len j1
                      match is, l1, is2, l2 with
                      | [i], _, [i2], _ =>
                        cases hxs : E r with
                        | l xs =>
                          rw [hxs] at hE' j2
                          simp only [setP, Option.map_eq_some_iff, Option.bind_eq_some_iff, Option.some.injEq] at hE'
                          obtain ⟨_, ⟨_, _, rfl⟩, hE2⟩ := hE'
                          simp only [getP] at j2
                          cases hx2 : xs[i2]? with
                          | none => rw [hx2] at j2; simp at j2
                          | some z2 =>
                            simp only [Wk] at j3
                            obtain ⟨b', off, len, cap, cs, e, fz, y, e1, e2', e3, e4, ⟨_, rfl, rfl, rfl⟩ | ⟨q, _⟩⟩ := j3
                            · have hi2 : i2 < xs.length := (List.getElem?_eq_some_iff.1 hx2).1
                              have hget : ∃ zz, (xs.set i (ev E α))[i2]? = some zz := ⟨(xs.set i (ev E α))[i2]'(by simpa using hi2), by simp [hi2]⟩
                              obtain ⟨zz, hz⟩ := hget
                              have hcell : ∃ cs' y', (w.setRow gb (gcs.setIfInBounds go (a.eval v))).heap[b2]? = some (.cells cs' e fz) ∧ cs'[off + i2]? = some y' := by
                                by_cases hbb : b2 = gb
                                · subst hbb
                                  rw [e3] at c1
                                  injection c1 with c1
                                  injection c1 with c1 c1' c1''
                                  subst c1 c1' c1''
                                  have hlt2 : off + i2 < cs.size := (Array.getElem?_eq_some_iff.1 e4).1
                                  exact ⟨_, (cs.setIfInBounds go (a.eval v))[off + i2]'(by simpa using hlt2), hheap', Array.getElem?_eq_getElem (by simpa using hlt2)⟩
                                · exact ⟨cs, _, (setRow_other w gb b2 _ hbb).trans e3, e4⟩
                              obtain ⟨cs', y', m1, m2⟩ := hcell
                              refine ⟨[i2], b2, off + i2, zz, y', j1, ?_, ?_, by rw [put_get (by simp)]; exact j4⟩
                              · rw [← hE2]; simp [getP, hz]
                              · simp only [Wk]
                                exact ⟨b2, off, len, cap, cs', e, fz, y', by rw [upd_same]; exact e1, e2', m1, m2, .inl ⟨trivial, rfl, rfl, rfl⟩⟩
                            · exact (q rfl).elim
                        | _ => rw [hxs] at j2; simp [getP] at j2
              · cases hE'
            · cases ht
          · cases ht
        · cases ht
      · cases ht
    · cases ht
  · cases ht
where
  own_thawed {fid : Nat → Nat} {h : Array Obj} {O X : Nat → Prop} : ∀ (is : List Nat) (s : Sh) {es : Sh} (d d' : D) (v : Value) (B : List Nat) {gb go : Nat} {y : Value} {cs : Array Value} {e : TypeId} {fz : Nat × Nat},
      Own fid h O X s d v B → getP is d = some d' → s.under is.length = some es → Wk h is v gb go y → h[gb]? = some (.cells cs e fz) → fz = (0, 0)
    | [], _, _, _, _, _, _, _, _, _, _, _, _ => fun _ _ _ k => by simp [Wk] at k
    | i :: is, s, es, d, d', v, B, gb, go, y, cs, e, fz => fun r hg hs hw hb => by
      cases s with
      | v => simp [Sh.under] at hs
      | y => simp [Sh.under] at hs
      | o s =>
        simp only [List.length_cons, Sh.under] at hs
        cases d with
        | l xs =>
          simp only [getP] at hg
          cases hx : xs[i]? with
          | none => simp [hx] at hg
          | some d1 =>
            simp only [hx, Option.bind_some] at hg
            simp only [Own] at r
            rcases r with ⟨r, _⟩ | ⟨ys, hy, r⟩
            · cases r
            injection hy with hy; subst hy
            rcases r with ⟨_, rfl, _⟩ | ⟨b, off, cap, cs1, e1, fz1, B', rfl, rfl, hb1, ht, h1, h2, h3, he⟩
            · simp at hx
            simp only [Wk] at hw
            obtain ⟨b2, off2, len2, cap2, cs2, e2, fz2, z', hv, hil, hb2, hz, hw⟩ := hw
            injection hv with q1 q2 q3
            injection q1 with q1
            injection q1 with q1 q4
            subst q1 q4
            rw [hb1] at hb2
            injection hb2 with hb2
            injection hb2 with q5 q6 q7
            subst q5 q6 q7
            rcases hw with ⟨_, rfl, _, _⟩ | ⟨hne, hw⟩
            · rw [hb] at hb1
              injection hb1 with hb1
              injection hb1 with _ _ q
              rw [q]; exact ht
            · obtain ⟨u, B1, hu, _, hr⟩ := Each.get he hx
              rw [drop_get, hz] at hu
              injection hu with hu
              subst hu
              exact own_thawed is s d1 d' _ B1 hr hg hs hw hb
        | _ => simp [getP] at hg

end
end Go.Cat
