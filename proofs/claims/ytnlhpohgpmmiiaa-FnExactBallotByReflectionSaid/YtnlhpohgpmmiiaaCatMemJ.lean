/-
  The store.
-/
import Derived.Test.YtnlhpohgpmmiiaaCatMemI
namespace Go.Cat
set_option linter.unusedVariables false

theorem HoldsG.more {c : Cx} {F G : Fact → Prop} {E : Nat → D} {a : Act} {w : World} {vs : Nat → Value} {Bs : Nat → List Nat} (H : HoldsG c F E a w vs Bs)
    (hen : ∀ n s, G (.en n s) ↔ F (.en n s)) (hsl : ∀ t l, G (.sl t l) → F (.sl t l) ∨ ∃ n g r, l = .is n g ∧ F (.sl t (.is r g)) ∧ vs n = vs r) : HoldsG c G E a w vs Bs := by
  have hOB : OB G Bs = OB F Bs := by
    funext b
    simp only [OB, hen]
  have hal : alive G = alive F := by
    funext n
    simp only [alive, hen]
  constructor
  · intro n s h; rw [hOB]; exact H.own n s ((hen n s).1 h)
  · intro n s h; exact H.nodup n s ((hen n s).1 h)
  · intro n s h; exact H.mine n s ((hen n s).1 h)
  · intro n s m r h h2; exact H.apart n s m r ((hen n s).1 h) ((hen m r).1 h2)
  · intro t l h
    rw [hOB, hal]
    rcases hsl t l h with h | ⟨n, g, r, rfl, h1, h2⟩
    · exact H.loc t l h
    · have := H.loc t _ h1
      refine ⟨fun hg => ?_, this.2⟩
      rw [h2]; exact this.1 hg
  · exact H.agr
  · exact H.os
  · exact H.tape
  · exact H.output
  · exact H.defers
  · exact H.size

theorem StepOK.of_skip {c : Cx} {o : Oper} {sm : Sm} {F : Fact → Prop} {E : Nat → D} {a : Act} {w w' : World} (hr : (execOp a.eval o).run c.P w = .ok .skip w')
    (hd : o.dst = none) (hh : Holds c (next F none sm) E a w') : StepOK c o sm F E a w := by
  intro nxt Q hn
  simp only [Oper.wp, hr, Oper.upon, hd]
  rw [hd] at hn
  exact hn _ _ hh

def slotsOf (st : List Fact) (r : Nat) : List (Nat × Gd) := st.filterMap fun f => match f with
  | .sl t (.is n g) => if n = r then some (t, g) else none
  | _ => none

section
variable (cf : CF) (st : List Fact) (cnt : Nat) (o : Oper) (g : Gd)

def trSt (t : TypeId) (x v : Operand) : Option (Pr × Sm) :=
  match x with
  | .tmp s => if g = [] ∧ o.dst = none ∧ plain1 cf.P t = true then match findSl st s with
    | some (.ad r p m g') => if g' = [] then
        (findEn st r).bind fun sr => match sr.under p.length with
          | some es => (trPut cf st g es v).bind fun a =>
              if r ∉ a.2.1 then some (.up r p a.1, ⟨[.sl s (.ad r p m g'), .en r sr] ++ (a.2.2 ++ (slotsOf st r).map fun x => .sl x.1 (.is r x.2)), r :: a.2.1, .en cnt sr :: (slotsOf st r).map fun x => .sl x.1 (.is cnt x.2)⟩)
              else none
          | none => none
        else none
    | _ => none
    else none
  | _ => none
end

section
variable {cf : CF} {c : Cx} {F : Fact → Prop} {E : Nat → D} {a : Act} {w : World} {vs : Nat → Value} {Bs : Nat → List Nat} {cnt : Nat} {g : Gd} {sm : Sm} {st : List Fact} {o : Oper} {p : Pr}
  {K : Nat → List D → List D → Prop}

theorem trSt_sound {t : TypeId} {x v : Operand} (ho : o.op = .store t x v) (ht : trSt cf st cnt o g t x v = some (p, sm)) (h : At cf c F E a w vs Bs cnt g p sm) (hE : EvP K E cnt p) : StepOK c o sm F E a w := by
  unfold trSt at ht
  split at ht
  · rename_i s
    split at ht
    · rename_i hc
      obtain ⟨hg0, hdst, hpl⟩ := hc
      split at ht
      · rename_i r q m g' hl
        split at ht
        · rename_i hg'
          simp only [Option.bind_eq_some_iff] at ht
          obtain ⟨sr, hsr, ht⟩ := ht
          split at ht
          · rename_i es hes
            simp only [Option.bind_eq_some_iff] at ht
            obtain ⟨⟨α, ks, ns⟩, hput, ht⟩ := ht
            simp only at ht
            split at ht
            · rename_i hrk
              simp only [Option.some.injEq, Prod.mk.injEq] at ht
              obtain ⟨rfl, rfl⟩ := ht
              have hP : c.P = cf.P := h.fits.P
              have hr : F (.en r sr) := h.needs _ (by simp)
              have hown := h.H.own r sr hr
              obtain ⟨is, gb, go, d0, k1, k2, k3, k4⟩ := h.H.loc s (.ad r q m g') (h.needs _ (by simp)) (by rw [hg']; intro x hx; simp at hx) ⟨sr, hr⟩
              have hev : a.eval (.tmp s) = .pointer (some ⟨gb, go, none⟩) := by simp [Act.eval, Array.getD_eq_getD_getElem?, k4]
              have hne : is ≠ [] := by rintro rfl; simp [Wk] at k3
              have hsu : sr.under is.length = some es := by rw [pathE_len k1]; exact hes
              obtain ⟨b2, o2, x2, B2, w1, w2, w3, hgbB⟩ := Wk.of_own is sr es (E r) d0 (vs r) (Bs r) hne hown k2 hsu
              obtain ⟨rfl, rfl, _⟩ := Wk.det is k3 w1
              have hE' : (if (ev E α).one = true then (q.mapM (PE.ev E)).bind fun is => setP is (E r) (ev E α) else none) = some (E cnt) := hE
              have hq : q.mapM (PE.ev E) = some is := k1
              split at hE'
              · rename_i hone
                rw [hq, Option.bind_some] at hE'
                have hlt : ∀ n s, F (.en n s) → ∀ b ∈ Bs n, b < w.heap.size := fun n s hs => Own.blocks_lt s _ _ _ (h.H.own n s hs)
                have hO := Oput_old h.H (ks := r :: ks) (es := es) (N := fun b => b ∈ Bs r) (fun b hb q => ⟨r, sr, hr, q⟩)
                have hnsn : ∀ f ∈ ns, f ∈ ([.sl s (.ad r q m g'), .en r sr] ++ (ns ++ (slotsOf st r).map fun x => Fact.sl x.1 (.is r x.2))) := fun f hf => by simp [hf]
                have hal : ∀ n ∈ ks, alive F n := by
                  obtain ⟨_, _, _, k⟩ := trPut_sound (O' := fun _ => False) hput h hnsn (fun _ _ q => q.elim) (fun _ _ _ _ _ q => q)
                  exact k
                obtain ⟨Bx, x1, x2', _⟩ := trPut_sound hput h hnsn hO (fun q => by
                  subst q
                  refine Oput_fr h.H (fun n hn => List.mem_cons_of_mem _ hn) hal (fun n hn b hb hbr => ?_)
                  obtain ⟨rn, hrn⟩ := hal n hn
                  exact h.H.apart n rn r sr hrn hr (fun e => hrk (e ▸ hn)) b hb hbr)
                have hBx : ∀ b ∈ Bx, ∃ n ∈ ks, alive F n ∧ b ∈ Bs n ∧ es ≠ .v := by
                  intro b hb
                  rcases x2' with ⟨_, rfl⟩ | ⟨n, rfl, rfl, q⟩
                  · simp at hb
                  · exact ⟨n, by simp, hal n (by simp), hb, q⟩
                have hBxr : ∀ b ∈ Bx, b ∉ Bs r := by
                  intro b hb hbr
                  obtain ⟨n, hn, ⟨rn, hrn⟩, hbn, _⟩ := hBx b hb
                  exact h.H.apart n rn r sr hrn hr (fun e => hrk (e ▸ hn)) b hbn hbr
                have hBxn : Bx.Nodup := by
                  rcases x2' with ⟨_, rfl⟩ | ⟨n, rfl, rfl, q⟩
                  · simp
                  · obtain ⟨rn, hrn⟩ := hal n (by simp)
                    exact h.H.nodup n rn hrn
                obtain ⟨gcs, ge, gfz, c1, c2⟩ := k3.cell
                have hfz : gfz = (0, 0) := own_thawed is sr (E r) d0 (vs r) (Bs r) hown k2 hsu k3 c1
                subst hfz
                have hv1 := x1.one hone
                have hrun : (execOp a.eval o).run c.P w = .ok .skip (w.setRow gb (gcs.setIfInBounds go (a.eval v))) := by
                  simp only [execOp, ho]
                  rw [Sem.run_bind, hev, run_storeAt1 (by rw [hP]; exact hpl) c1 c2 hv1]
                  rfl
                have hheap' := setRow_heap w gb gcs (gcs.setIfInBounds go (a.eval v)) ge (0, 0) c1
                have hagr : Agr (fun b => b = gb) w.heap (w.setRow gb (gcs.setIfInBounds go (a.eval v))).heap := ⟨by simp, fun b _ hb => setRow_other w gb b _ hb⟩
                have x1' : Own c.fid (w.setRow gb (gcs.setIfInBounds go (a.eval v))).heap (Oput F Bs (r :: ks) es fun b => b ∈ Bs r) c.Xb es (ev E α) (a.eval v) Bx :=
                  Own.ext hagr (fun b _ hb => .inr (.inr (by rw [hb]; exact hgbB))) (fun _ _ q => q) _ _ _ _ (fun b hb e => hBxr b hb (by rw [e]; exact hgbB)) x1
                obtain ⟨B', s1, s2, s3, _⟩ := Own.set (O := OB F Bs) (fun b hb => setRow_other w gb b _ hb) (by simp) c1 hheap' ⟨r, sr, hr, hgbB⟩ hO x1' is sr (E r) (E cnt) (vs r) _ (Bs r) hne hown (h.H.nodup r sr hr) (fun k hk hkx => hBxr k hkx hk) hBxn hsu hE' k3
                have hfr : Fresh F cnt := by simpa using h.fresh 0 (by simp [Pr.np])
                have hrc : r ≠ cnt := by rintro rfl; exact hfr.1 _ hr
                have H1 := h.H.put (m := cnt) (s := sr) (v := vs r) (B := B') (dst := none) (ns := []) hfr (by simp [inB]) (r :: ks) (hagr.mono fun b _ hb => ⟨r, sr, hr, by simp, by rw [hb]; exact hgbB⟩) rfl rfl rfl
                  (Own.ext (Agr.refl (fun _ => False) _) (fun _ _ q => q.elim) (fun b _ hb => by
                    rcases hb with hb | hb
                    · exact .inl hb
                    · rcases s2 b hb with hb | hb
                      · exact .inr (.inr hb)
                      · obtain ⟨n, hn, ha, hbn, hesv⟩ := hBx b hb
                        exact .inr (.inl ⟨hesv, n, List.mem_cons_of_mem _ hn, ha, hbn⟩)) _ _ _ _ (fun _ _ q => q) s1) s3
                  (fun b hb => by
                    rcases s2 b hb with hb | hb
                    · exact .inl ⟨r, sr, hr, by simp, hb⟩
                    · obtain ⟨n, hn, ⟨rn, hrn⟩, hbn, _⟩ := hBx b hb
                      exact .inl ⟨n, rn, hrn, List.mem_cons_of_mem _ hn, hbn⟩) h.g
                refine StepOK.of_skip hrun hdst ⟨upd vs cnt (vs r), upd Bs cnt B', ?_⟩
                refine H1.more ?_ ?_
                · intro n s'
                  simp only [next, one, List.mem_cons, List.mem_map, List.not_mem_nil, or_false]
                  constructor
                  · rintro (q | q | ⟨_, _, q⟩)
                    · exact .inl q
                    · exact .inr q
                    · cases q
                  · rintro (q | q)
                    · exact .inl q
                    · exact .inr (.inl q)
                · intro t' l' hf
                  rcases hf with ⟨q1, _⟩ | q
                  · exact .inl (.inl ⟨q1, by simp⟩)
                  · simp only [List.mem_cons, List.mem_map] at q
                    rcases q with q | ⟨⟨u, gu⟩, hu, q⟩
                    · cases q
                    · injection q with q1 q2
                      subst q1 q2
                      refine .inr ⟨cnt, gu, r, rfl, .inl ⟨h.needs _ ?_, by simp⟩, ?_⟩
                      · simp only [List.mem_append, List.mem_map]
                        exact .inr (.inr ⟨(u, gu), hu, rfl⟩)
                      · rw [upd_same, upd_ne vs _ hrc]
              · cases hE'
            · cases ht
          · cases ht
        · cases ht
      · cases ht
    · cases ht
  · cases ht
where
  own_thawed {fid : Nat → Nat} {h : Array Obj} {O X : Nat → Prop} : ∀ (is : List Nat) (s : Sh) {es : Sh} (d d' : D) (v : Value) (B : List Nat) {gb go : Nat} {y : Value} {cs : Array Value} {e : TypeId} {fz : Nat × Nat},
      Own fid h O X s d v B → getP is d = some d' → s.under is.length = some es → Wk h is v gb go y → h[gb]? = some (.cells cs e fz) → fz = (0, 0)
    | [], _, _, _, _, _, _, _, _, _, _, _, _ => fun _ _ _ k => by simp [Wk] at k
    | i :: is, s, es, d, d', v, B, gb, go, y, cs, e, fz => fun r hg hs hw hb => by
      cases s with
      | v => simp [Sh.under] at hs
      | y => simp [Sh.under] at hs
      | o s =>
        simp only [List.length_cons, Sh.under] at hs
        cases d with
        | l xs =>
          simp only [getP] at hg
          cases hx : xs[i]? with
          | none => simp [hx] at hg
          | some d1 =>
            simp only [hx, Option.bind_some] at hg
            simp only [Own] at r
            rcases r with ⟨r, _⟩ | ⟨ys, hy, r⟩
            · cases r
            injection hy with hy; subst hy
            rcases r with ⟨_, rfl, _⟩ | ⟨b, off, cap, cs1, e1, fz1, B', rfl, rfl, hb1, ht, h1, h2, h3, he⟩
            · simp at hx
            simp only [Wk] at hw
            obtain ⟨b2, off2, len2, cap2, cs2, e2, fz2, z', hv, hil, hb2, hz, hw⟩ := hw
            injection hv with q1 q2 q3
            injection q1 with q1
            injection q1 with q1 q4
            subst q1 q4
            rw [hb1] at hb2
            injection hb2 with hb2
            injection hb2 with q5 q6 q7
            subst q5 q6 q7
            rcases hw with ⟨_, rfl, _, _⟩ | ⟨hne, hw⟩
            · rw [hb] at hb1
              injection hb1 with hb1
              injection hb1 with _ _ q
              rw [q]; exact ht
            · obtain ⟨u, B1, hu, _, hr⟩ := Each.get he hx
              rw [drop_get, hz] at hu
              injection hu with hu
              subst hu
              exact own_thawed is s d1 d' _ B1 hr hg hs hw hb
        | _ => simp [getP] at hg

end
end Go.Cat
