/-
  Append to an owned slice whose elements are owned.
-/
import Derived.Test.YtddhlibpgnnanaaCatMemH
namespace Go.Cat
set_option linter.unusedVariables false

/-- Rows of rows. -/
def nested : Sh → Option Sh
  | .o (.o s) => some (.o s)
  | _ => none

theorem nested_spec {s e : Sh} (h : nested s = some e) : s = .o e := by
  unfold nested at h
  split at h
  · cases h; rfl
  · cases h

section
variable (cf : CF) (st : List Fact) (cnt : Nat) (o : Oper) (g : Gd)

def trAp2 (t : TypeId) (s x : Operand) : Option (Pr × Sm) :=
  match elem1 cf.P t with
  | some (_, ti) => if zeroOne ti = true ∧ ti.bytes ≤ 128 ∧ inB o.dst cf.nt = true ∧ g = [] then
      (opA cf st g s).bind fun r => (opA cf st g x).bind fun b => match r.1, b.1 with
        | .e n, .e m => if r.2.1 = b.2.1 ∧ n ≠ m ∧ (nested r.2.1).isSome = true then
            some (.ap false (.e n) (.e m), ⟨r.2.2 ++ b.2.2, [n, m], one cnt r.2.1 o.dst (.is cnt g)⟩) else none
        | _, _ => none
    else none
  | none => none
end

theorem Each.take {R : D → Value → List Nat → Prop} : ∀ {ds : List D} {vs : List Value} {B : List Nat}, Each R ds vs B → Each R ds (vs.take ds.length) B ∧ (vs.take ds.length).length = ds.length
  | [], _, _, h => by simp only [Each] at h; simp [Each, h]
  | d :: ds, [], _, r => by simp [Each] at r
  | d :: ds, v :: vs, B, r => by
    simp only [Each] at r
    obtain ⟨B1, B2, rfl, h1, h2⟩ := r
    have := Each.take h2
    simp only [List.length_cons, List.take_succ_cons, Each]
    exact ⟨⟨B1, B2, rfl, h1, this.1⟩, by simpa using this.2⟩

theorem Each.append {R : D → Value → List Nat → Prop} : ∀ {ds es : List D} {vs us : List Value} {B C : List Nat}, vs.length = ds.length → Each R ds vs B → Each R es us C → Each R (ds ++ es) (vs ++ us) (B ++ C)
  | [], es, [], us, B, C, _, r, q => by simp only [Each] at r; subst r; simpa using q
  | [], es, _ :: _, us, _, _, hl, _, _ => by simp at hl
  | d :: ds, es, [], us, _, _, hl, _, _ => by simp at hl
  | d :: ds, es, v :: vs, us, B, C, hl, r, q => by
    simp only [Each, List.cons_append] at r ⊢
    obtain ⟨B1, B2, rfl, h1, h2⟩ := r
    exact ⟨B1, B2 ++ C, by simp, h1, Each.append (by simpa using hl) h2 q⟩

theorem Each.congr {R : D → Value → List Nat → Prop} : ∀ {ds : List D} {vs us : List Value} {B : List Nat}, (∀ (j : Nat) (v : Value), vs[j]? = some v → us[j]? = some v) → Each R ds vs B → Each R ds us B
  | [], _, _, _, _, h => by simpa [Each] using h
  | d :: ds, [], us, _, _, r => by simp [Each] at r
  | d :: ds, v :: vs, [], _, hj, _ => by have := hj 0 v (by simp); simp at this
  | d :: ds, v :: vs, u :: us, B, hj, r => by
    simp only [Each] at r ⊢
    have h0 := hj 0 v (by simp)
    simp at h0
    subst h0
    obtain ⟨B1, B2, rfl, h1, h2⟩ := r
    exact ⟨B1, B2, rfl, h1, Each.congr (fun j v hv => by simpa using hj (j + 1) v (by simpa using hv)) h2⟩

theorem Own.oneCell {fid : Nat → Nat} {h : Array Obj} {O X : Nat → Prop} {s : Sh} {d : D} {v : Value} {B : List Nat} (r : Own fid h O X (.o s) d v B) (hd : d.one = true) : v.oneCell' = true := by
  simp only [Own] at r
  rcases r with ⟨rfl, _⟩ | ⟨xs, rfl, ⟨rfl, _, _⟩ | ⟨b, off, cap, cs, e, fz, B', _, rfl, _⟩⟩
  · simp [D.one] at hd
  · rfl
  · rfl

theorem Each.one2 {fid : Nat → Nat} {h : Array Obj} {O X : Nat → Prop} {s : Sh} : ∀ {ds : List D} {vs : List Value} {B : List Nat}, ds.all D.one = true → vs.length = ds.length → Each (Own fid h O X (.o s)) ds vs B → ∀ v ∈ vs, v.oneCell' = true
  | [], [], _, _, _, _ => by simp
  | [], _ :: _, _, _, hl, _ => by simp at hl
  | d :: ds, [], _, _, _, r => by simp [Each] at r
  | d :: ds, v :: vs, B, hf, hl, r => by
    simp only [Each] at r
    obtain ⟨B1, B2, rfl, h1, h2⟩ := r
    simp only [List.all_cons, Bool.and_eq_true] at hf
    intro u hu
    rcases List.mem_cons.1 hu with rfl | hu
    · exact h1.oneCell hf.1
    · exact Each.one2 hf.2 (by simpa using hl) h2 u hu

/-- An owned row of owned rows. -/
theorem Own.rows {fid : Nat → Nat} {h : Array Obj} {O X : Nat → Prop} {s : Sh} {xs : List D} {sv : Value} {B : List Nat} (r : Own fid h O X (.o s) (.l xs) sv B) :
    ∃ (olds : List Value) (B' : List Nat), ((sv = .slice none 0 0 ∧ olds = [] ∧ B = [] ∧ B' = []) ∨ ∃ b off cap cs e, B = b :: B' ∧ sv = .slice (some ⟨b, off, none⟩) olds.length cap ∧ h[b]? = some (.cells cs e (0, 0)) ∧ olds.length ≤ cap ∧ off + cap ≤ cs.size ∧
      ∀ (j : Nat) (v : Value), olds[j]? = some v → cs[off + j]? = some v) ∧ olds.length = xs.length ∧ Each (Own fid h O X s) xs olds B' := by
  simp only [Own] at r
  rcases r with ⟨r, _⟩ | ⟨ys, hy, r⟩
  · cases r
  injection hy with hy; subst hy
  rcases r with ⟨rfl, rfl, rfl⟩ | ⟨b, off, cap, cs, e, fz, B', rfl, rfl, hb, ht, h1, h2, h3, he⟩
  · exact ⟨[], [], .inl ⟨rfl, rfl, rfl, rfl⟩, rfl, by simp [Each]⟩
  · obtain ⟨k1, k2⟩ := Each.take he
    have hfz : fz = (0, 0) := ht
    subst hfz
    refine ⟨_, B', .inr ⟨b, off, cap, cs, e, rfl, by rw [k2], hb, by rw [k2]; exact h1, h2, ?_⟩, k2, k1⟩
    intro j u hj
    rw [List.getElem?_take] at hj
    split at hj
    · rwa [drop_get] at hj
    · cases hj

section
variable {cf : CF} {c : Cx} {F : Fact → Prop} {E : Nat → D} {a : Act} {w : World} {vs : Nat → Value} {Bs : Nat → List Nat} {cnt : Nat} {g : Gd} {sm : Sm} {st : List Fact} {o : Oper} {p : Pr}
  {K : Nat → List D → List D → Prop}

theorem trAp2_sound {t : TypeId} {s x : Operand} (ho : o.op = .call { callee := .builtin .append, args := #[s, x], argTypes := #[t, t] }) (ht : trAp2 cf st cnt o g t s x = some (p, sm)) (h : At cf c F E a w vs Bs cnt g p sm) (hE : EvP K E cnt p) : StepOK c o sm F E a w := by
  unfold trAp2 at ht
  split at ht
  · rename_i e ti hel
    split at ht
    · rename_i hc
      obtain ⟨hz, hby, hin, hg⟩ := hc
      simp only [Option.bind_eq_some_iff] at ht
      obtain ⟨⟨α, s1, n1⟩, h1, ⟨β, s2, n2⟩, h2, ht⟩ := ht
      simp only at ht
      split at ht
      · rename_i n m
        split at ht
        · rename_i hc2
          obtain ⟨hss, hnm, hns⟩ := hc2
          subst hss
          obtain ⟨es, hes⟩ := Option.isSome_iff_exists.1 hns
          obtain rfl := nested_spec hes
          have hes2 : ∃ s3, es = .o s3 := by
            unfold nested at hes
            split at hes
            · rename_i s3 hh; injection hh with hh; exact ⟨s3, hh⟩
            · cases hes
          obtain ⟨s3, rfl⟩ := hes2
          simp only [Option.some.injEq, Prod.mk.injEq] at ht
          obtain ⟨rfl, rfl⟩ := ht
          have hE' : appD false (E n) (E m) = some (E cnt) := hE
          obtain ⟨xs, ys, e1, e2, e3, e4, e5, _⟩ := appD_spec hE'
          obtain ⟨B, hB, hn1⟩ := h.opA h1 (fun f hf => List.mem_append_left _ hf)
          obtain ⟨B2, hB2, hn2⟩ := h.opA h2 (fun f hf => List.mem_append_right _ hf)
          obtain ⟨f1, f2, rfl⟩ := hn1 n rfl
          obtain ⟨g1, g2, rfl⟩ := hn2 m rfl
          simp only [ev] at hB hB2
          rw [e1] at hB
          rw [e2] at hB2
          obtain ⟨olds, Bo, hrow, hol, hro⟩ := hB.rows
          obtain ⟨news, Bn, hnv, hnl, hnr⟩ := hB2.rows
          have hapart := h.H.apart n _ m _ f1 g1 hnm
          have hnd1 := h.H.nodup n _ f1
          have hnd2 := h.H.nodup m _ g1
          have hlt : ∀ n s, F (.en n s) → ∀ b ∈ Bs n, b < w.heap.size := fun n s hs => Own.blocks_lt s _ _ _ (h.H.own n s hs)
          have hBo : ∀ b ∈ Bo, b ∈ Bs n := by
            rcases hrow with ⟨_, _, _, rfl⟩ | ⟨b, off, cap, cs, e, hb, _⟩
            · simp
            · rw [hb]; exact fun b hb => List.mem_cons_of_mem _ hb
          have hBn : ∀ b ∈ Bn, b ∈ Bs m := by
            rcases hnv with ⟨_, _, _, rfl⟩ | ⟨b, off, cap, cs, e, hb, _⟩
            · simp
            · rw [hb]; exact fun b hb => List.mem_cons_of_mem _ hb
          have hndo : Bo.Nodup := by
            rcases hrow with ⟨_, _, _, rfl⟩ | ⟨b, off, cap, cs, e, hb, _⟩
            · simp
            · rw [hb] at hnd1; exact (List.nodup_cons.1 hnd1).2
          have hndn : Bn.Nodup := by
            rcases hnv with ⟨_, _, _, rfl⟩ | ⟨b, off, cap, cs, e, hb, _⟩
            · simp
            · rw [hb] at hnd2; exact (List.nodup_cons.1 hnd2).2
          have hndall : (Bo ++ Bn).Nodup := List.nodup_append.2 ⟨hndo, hndn, fun b hb b' hb' e => by subst e; exact hapart b (hBo b hb) (hBn b hb')⟩
          have hP : c.P = cf.P := h.fits.P
          unfold zeroOne at hz
          split at hz
          · rename_i z hzz
            have hev1 : a.eval s = vs n := f2
            have hev2 : a.eval x = vs m := g2
            obtain ⟨v', w', hr, w1, w2, w3, hres⟩ := run_app (P := c.P) (w := w) (ty := o.type) (hP ▸ hel) hzz (cells_one hz) hby (olds := olds) (news := news) (sv := a.eval s) (xv := a.eval x)
              (by
                rcases hrow with ⟨q1, q2, _⟩ | ⟨b, off, cap, cs, e, _, q1, q2, q3, q4, q5⟩
                · exact .inl ⟨q1, q2⟩
                · exact .inr ⟨b, off, cap, cs, e, q1, q2, q3, q4, q5⟩)
              (by
                rcases hnv with ⟨q1, q2, _⟩ | ⟨b, off, cap, cs, e, _, q1, q2, q3, q4, q5⟩
                · exact .inl ⟨q1, q2⟩
                · exact .inr ⟨b, off, cap, q1, fun j v hj => by simp [World.cell?, q2, q5 j v hj]⟩)
              (Each.one2 e5 hnl hnr) (by rw [hol, hnl]; exact e4)
            have hrun : (execOp a.eval o).run c.P w = .ok (.value v') w' := by
              rw [exec_builtin ho]
              show (Bind.bind (Builtin.append_ #[t, t] o.type (#[s, x].map a.eval)) _).run c.P w = _
              refine run_v ?_
              simpa using hr
            have hall := Each.append hol hro hnr
            have hlen : (xs ++ ys).length = olds.length + news.length := by simp [hol, hnl]
            have hin' : inB o.dst c.nt = true := by rw [h.fits.nt]; exact hin
            have hfr : Fresh F cnt := by simpa using h.fresh 0 (by simp [Pr.np])
            have hkall : ∀ b ∈ Bo ++ Bn, ∃ k r, F (.en k r) ∧ k ∈ [n, m] ∧ b ∈ Bs k := by
              intro b hb
              rcases List.mem_append.1 hb with hb | hb
              · exact ⟨n, _, f1, by simp, hBo b hb⟩
              · exact ⟨m, _, g1, by simp, hBn b hb⟩
            have hOall : ∀ N : List Nat, (∀ b ∈ N, b < w.heap.size → b ∈ Bs n ∨ b ∈ Bs m) → ∀ b, b < w.heap.size → (OBk F Bs (fun k => k ∈ [n, m]) b ∨ b ∈ N) → OB F Bs b := by
              rintro N hN b hb (⟨k, s, q1, _, q3⟩ | q)
              · exact ⟨k, s, q1, q3⟩
              · rcases hN b q hb with q | q
                · exact ⟨n, _, f1, q⟩
                · exact ⟨m, _, g1, q⟩
            rcases hres with ⟨rfl, q1, q2, q3⟩ | ⟨gb, off, cap, cs, e', cs', q1, q2, rfl, q4, q5, q6, q7, q8, q9⟩ | ⟨cap, cs', rfl, q4, q5, q6, q9⟩
            · -- nil stays nil
              refine StepOK.of_value hrun ⟨upd vs cnt (.slice none 0 0), upd Bs cnt [], ?_⟩
              refine h.H.put hfr hin' [n, m] (by rw [q3]; exact Agr.refl _ _) w1 w2 w3 ?_ (by simp) (by simp) h.g
              rw [e3]
              have hx0 : xs = [] := List.eq_nil_of_length_eq_zero (by rw [← hol, q1]; rfl)
              have hy0 : ys = [] := List.eq_nil_of_length_eq_zero (by rw [← hnl, q2]; rfl)
              subst hx0 hy0
              exact Own.nil
            · -- in place
              have hBg : Bs n = gb :: Bo ∧ off + cap ≤ cs.size := by
                rcases hrow with ⟨r1, _, _⟩ | ⟨b, off2, cap2, cs2, e2', r0, r1, r2, r3, r4, r5⟩
                · rw [q1] at r1; cases r1
                · rw [q1] at r1
                  injection r1 with r1 _ r1c
                  injection r1 with r1
                  injection r1 with r1 r1o _
                  subst r1 r1c r1o
                  rw [q2] at r2
                  injection r2 with r2
                  injection r2 with r2 _ _
                  subst r2
                  exact ⟨r0, r4⟩
              obtain ⟨hBg, hoc⟩ := hBg
              have hgo : gb ∉ Bo := by rw [hBg] at hnd1; exact (List.nodup_cons.1 hnd1).1
              have hgn : gb ∉ Bn := fun q => hapart gb (by rw [hBg]; simp) (hBn gb q)
              have hagr : Agr (fun b => b = gb) w.heap w'.heap := ⟨by rw [q8]; exact Nat.le_refl _, fun b _ hb => q7 b hb⟩
              refine StepOK.of_value hrun ⟨upd vs cnt (.slice (some ⟨gb, off, none⟩) (olds.length + news.length) cap), upd Bs cnt (gb :: (Bo ++ Bn)), ?_⟩
              refine h.H.put hfr hin' [n, m] (hagr.mono fun b _ hb => ⟨n, _, f1, by simp, by rw [hb, hBg]; simp⟩) w1 w2 w3 ?_ (List.nodup_cons.2 ⟨by simp [hgo, hgn], hndall⟩) (fun b hb => .inl ?_) h.g
              · rw [e3]
                simp only [Own]
                refine .inr ⟨_, rfl, .inr ⟨gb, off, cap, cs', e', (0, 0), Bo ++ Bn, rfl, by rw [hlen], q6, rfl, by rw [hlen]; exact q4, by rw [q5]; exact hoc, by rw [hlen]; omega, ?_⟩⟩
                have hall2 := Each.congr (us := cs'.toList.drop off) (fun j v hj => by rw [drop_get]; exact q9 j v hj) hall
                refine Each.imp (fun d v B1 hb1 => ?_) hall2
                refine Own.ext hagr (fun b _ hb => ?_) (hOall _ fun b hb _ => ?_) _ d v B1 (fun b hb e => ?_)
                · rw [hb]; exact ⟨n, _, f1, by rw [hBg]; simp⟩
                · rcases List.mem_cons.1 hb with rfl | hb
                  · left; rw [hBg]; simp
                  · exact (List.mem_append.1 hb).imp (hBo b) (hBn b)
                · subst e
                  rcases List.mem_append.1 (hb1 b hb) with q | q
                  · exact hgo q
                  · exact hgn q
              · rcases List.mem_cons.1 hb with rfl | hb
                · exact ⟨n, _, f1, by simp, by rw [hBg]; simp⟩
                · exact hkall b hb
            · -- a new block
              have hagr : Agr (fun _ => False) w.heap w'.heap := by rw [q6]; exact Agr.push _ _
              have hnewb : w'.heap[w.heap.size]? = some (.cells cs' e (0, 0)) := by rw [q6]; simp
              have hnotin : w.heap.size ∉ Bo ++ Bn := by
                intro q
                obtain ⟨k, r, q1, _, q2⟩ := hkall _ q
                have := hlt k r q1 _ q2
                omega
              refine StepOK.of_value hrun ⟨upd vs cnt (.slice (some ⟨w.heap.size, 0, none⟩) (olds.length + news.length) cap), upd Bs cnt (w.heap.size :: (Bo ++ Bn)), ?_⟩
              refine h.H.put hfr hin' [n, m] (hagr.mono fun _ _ q => q.elim) w1 w2 w3 ?_ (List.nodup_cons.2 ⟨hnotin, hndall⟩) (fun b hb => ?_) h.g
              · rw [e3]
                simp only [Own]
                refine .inr ⟨_, rfl, .inr ⟨w.heap.size, 0, cap, cs', e, (0, 0), Bo ++ Bn, rfl, by rw [hlen], hnewb, rfl, by rw [hlen]; exact q4, by omega, by rw [hlen]; omega, ?_⟩⟩
                have hall2 := Each.congr (us := cs'.toList.drop 0) (fun j v hj => by rw [drop_get, Nat.zero_add]; exact q9 j v hj) hall
                refine Each.imp (fun d v B1 hb1 => ?_) hall2
                refine Own.ext hagr (fun _ _ q => q.elim) (hOall _ fun b hb hlt2 => ?_) _ d v B1 (fun _ _ q => q)
                rcases List.mem_cons.1 hb with rfl | hb
                · omega
                · exact (List.mem_append.1 hb).imp (hBo b) (hBn b)
              · rcases List.mem_cons.1 hb with rfl | hb
                · exact .inr (Nat.le_refl _)
                · exact .inl (hkall b hb)
          · cases hz
        · cases ht
      · cases ht
    · cases ht
  · cases ht
end
end Go.Cat
