/-
  Literals of slices.
-/
import Derived.Test.YtddhlibpgnnanaaCatMemE
namespace Go.Cat
set_option linter.unusedVariables false

theorem Rd.one {fid : Nat → Nat} {h : Array Obj} {Z : Nat → Prop} {d : D} {v : Value} (hd : d.one = true) (r : Rd fid h Z d v) : v.oneCell' = true := by
  cases d with
  | u => simp [D.one] at hd
  | g xs => simp [D.one] at hd
  | i k n => simp only [Rd] at r; subst r; rfl
  | b x => simp only [Rd] at r; subst r; rfl
  | s x => simp only [Rd, strV] at r; rw [r.1]; rfl
  | z => simp only [Rd] at r; subst r; rfl
  | l xs =>
    simp only [Rd] at r
    rcases r with ⟨_, rfl⟩ | ⟨b, off, cap, cs, e, fz, rfl, _⟩ <;> rfl
  | p xs =>
    simp only [Rd] at r
    obtain ⟨b, off, cs, e, fz, rfl, _⟩ := r
    rfl
  | f n xs =>
    simp only [Rd] at r
    obtain ⟨vs, rfl, _⟩ := r
    rfl

theorem Own.one {fid : Nat → Nat} {h : Array Obj} {O X : Nat → Prop} {s : Sh} {d : D} {v : Value} {B : List Nat} (hd : d.one = true) (r : Own fid h O X s d v B) : v.oneCell' = true := by
  cases s with
  | v => simp only [Own] at r; exact Rd.one hd r.2
  | y => simp only [Own] at r; exact Rd.one hd r.2
  | o s =>
    simp only [Own] at r
    rcases r with ⟨rfl, _⟩ | ⟨xs, rfl, ⟨rfl, _⟩ | ⟨b, off, cap, cs, e, fz, B', _, rfl, _⟩⟩
    · simp [D.one] at hd
    · rfl
    · rfl

theorem cells_one {v : Value} (h : v.oneCell' = true) : v.cells = #[v] := by cases v <;> simp_all [Value.cells, Value.oneCell']

theorem Each.one {fid : Nat → Nat} {h : Array Obj} {O X : Nat → Prop} {s : Sh} : ∀ {ds : List D} {vs : List Value} {B : List Nat}, ds.all D.one = true → vs.length = ds.length → Each (Own fid h O X s) ds vs B → ∀ v ∈ vs, v.oneCell' = true
  | [], [], _ => fun _ _ _ => by simp
  | d :: ds, v :: vs, B => fun hd hl r => by
    simp only [Each] at r
    simp only [List.all_cons, Bool.and_eq_true] at hd
    obtain ⟨B1, B2, rfl, r1, r2⟩ := r
    intro u hu
    rcases List.mem_cons.1 hu with rfl | hu
    · exact r1.one hd.1
    · exact Each.one hd.2 (by simpa using hl) r2 u hu
  | [], _ :: _, _ => fun _ hl _ => by simp at hl
  | _ :: _, [], _ => fun _ hl _ => by simp at hl

section
variable {cf : CF} {c : Cx} {F : Fact → Prop} {E : Nat → D} {a : Act} {w : World} {vs : Nat → Value} {Bs : Nat → List Nat} {cnt : Nat} {g : Gd} {sm : Sm} {st : List Fact} {o : Oper} {p : Pr}
  {K : Nat → List D → List D → Prop}

theorem trPuts_sound {es : Sh} (h : At cf c F E a w vs Bs cnt g p sm) {O' : Nat → Prop} (hO : ∀ b, b < w.heap.size → O' b → OB F Bs b) :
    ∀ {l : List Operand} {αs : List A} {ks : List Nat} {ns : List Fact}, trPuts cf st g es l = some (αs, ks, ns) → (∀ f ∈ ns, f ∈ sm.needs) → (es = .v → ∀ n ∈ ks, ∀ b ∈ Bs n, ¬ O' b) → ks.Nodup →
    αs.length = l.length ∧ ∃ B, Each (Own c.fid w.heap O' c.Xb es) (αs.map (ev E)) (l.map a.eval) B ∧ B.Nodup ∧ (∀ b ∈ B, ∃ n ∈ ks, alive F n ∧ b ∈ Bs n) ∧ (es = .v → B = []) ∧ ∀ n ∈ ks, alive F n
  | [], αs, ks, ns, ht, _, _, _ => by
    simp only [trPuts, Option.some.injEq, Prod.mk.injEq] at ht
    obtain ⟨rfl, rfl, rfl⟩ := ht
    exact ⟨rfl, [], by simp [Each], by simp, by simp, fun _ => rfl, by simp⟩
  | x :: l, αs, ks, ns, ht, hn, hfr, hnd => by
    simp only [trPuts, Option.bind_eq_some_iff, Option.map_eq_some_iff, Prod.mk.injEq] at ht
    obtain ⟨⟨α, k1, n1⟩, h1, ⟨αs', k2, n2⟩, h2, rfl, rfl, rfl⟩ := ht
    obtain ⟨hnd1, hnd2, hnd3⟩ := List.nodup_append.1 hnd
    obtain ⟨B1, e1, e2, e3⟩ := trPut_sound h1 h (fun f hf => hn f (List.mem_append_left _ hf)) hO (fun q n hnn => hfr q n (List.mem_append_left _ hnn))
    obtain ⟨f0, B2, f1, f2, f3, f4, f5⟩ := trPuts_sound h hO h2 (fun f hf => hn f (List.mem_append_right _ hf)) (fun q n hnn => hfr q n (List.mem_append_right _ hnn)) hnd2
    refine ⟨by simp [f0], B1 ++ B2, ?_, ?_, ?_, ?_, ?_⟩
    · simp only [List.map_cons, Each]; exact ⟨B1, B2, rfl, e1, f1⟩
    · rcases e2 with ⟨_, rfl⟩ | ⟨n, rfl, rfl, _⟩
      · simpa using f2
      · obtain ⟨s, hs⟩ := e3 n (by simp)
        refine List.nodup_append.2 ⟨h.H.nodup n s hs, f2, fun b hb b' hb' => ?_⟩
        rintro rfl
        obtain ⟨m, hm, ⟨r, hr⟩, hbm⟩ := f3 b hb'
        exact h.H.apart n s m r hs hr (hnd3 n (by simp) m hm) b hb hbm
    · intro b hb
      rcases List.mem_append.1 hb with hb | hb
      · rcases e2 with ⟨_, rfl⟩ | ⟨n, rfl, rfl, _⟩
        · simp at hb
        · exact ⟨n, by simp, e3 n (by simp), hb⟩
      · obtain ⟨m, hm, k⟩ := f3 b hb
        exact ⟨m, List.mem_append_right _ hm, k⟩
    · intro q
      rw [f4 q]
      rcases e2 with ⟨_, rfl⟩ | ⟨n, rfl, rfl, q'⟩
      · rfl
      · exact (q' q).elim
    · intro n hnn
      rcases List.mem_append.1 hnn with hnn | hnn
      · exact e3 n hnn
      · exact f5 n hnn

/-- What is owned once the entries ks are given up to a new row of elements es. -/
def Oput (F : Fact → Prop) (Bs : Nat → List Nat) (ks : List Nat) (es : Sh) (N : Nat → Prop) : Nat → Prop := fun b => OBk F Bs (fun n => n ∈ ks) b ∨ (es ≠ .v ∧ ∃ n ∈ ks, alive F n ∧ b ∈ Bs n) ∨ N b

theorem Oput_old (H : HoldsG c F E a w vs Bs) {ks : List Nat} {es : Sh} {N : Nat → Prop} (hN : ∀ b, b < w.heap.size → N b → OB F Bs b) : ∀ b, b < w.heap.size → Oput F Bs ks es N b → OB F Bs b := by
  rintro b hb (⟨n, s, h1, _, h3⟩ | ⟨_, n, _, ⟨s, h1⟩, h3⟩ | h)
  · exact ⟨n, s, h1, h3⟩
  · exact ⟨n, s, h1, h3⟩
  · exact hN b hb h

theorem Oput_fr (H : HoldsG c F E a w vs Bs) {ks l : List Nat} {N : Nat → Prop} (hl : ∀ n ∈ l, n ∈ ks) (ha : ∀ n ∈ l, alive F n) (hN : ∀ n ∈ l, ∀ b ∈ Bs n, ¬ N b) : ∀ n ∈ l, ∀ b ∈ Bs n, ¬ Oput F Bs ks .v N b := by
  rintro n hn b hb (⟨m, s, h1, h2, h3⟩ | ⟨q, _⟩ | h)
  · obtain ⟨r, hr⟩ := ha n hn
    exact H.apart n r m s hr h1 (fun e => h2 (e ▸ hl n hn)) b hb h3
  · exact q rfl
  · exact hN n hn b hb h

theorem trPuts_alive {es : Sh} (h : At cf c F E a w vs Bs cnt g p sm) : ∀ {l : List Operand} {αs : List A} {ks : List Nat} {ns : List Fact}, trPuts cf st g es l = some (αs, ks, ns) → (∀ f ∈ ns, f ∈ sm.needs) → ∀ n ∈ ks, alive F n
  | [], αs, ks, ns, ht, _ => by
    simp only [trPuts, Option.some.injEq, Prod.mk.injEq] at ht
    obtain ⟨rfl, rfl, rfl⟩ := ht
    simp
  | x :: l, αs, ks, ns, ht, hn => by
    simp only [trPuts, Option.bind_eq_some_iff, Option.map_eq_some_iff, Prod.mk.injEq] at ht
    obtain ⟨⟨α, k1, n1⟩, h1, ⟨αs', k2, n2⟩, h2, rfl, rfl, rfl⟩ := ht
    intro n hnn
    rcases List.mem_append.1 hnn with hnn | hnn
    · obtain ⟨_, _, _, k⟩ := trPut_sound (O' := fun _ => False) h1 h (fun f hf => hn f (List.mem_append_left _ hf)) (fun _ _ q => q.elim) (fun _ _ _ _ _ q => q)
      exact k n hnn
    · exact trPuts_alive h h2 (fun f hf => hn f (List.mem_append_right _ hf)) n hnn

theorem trLi_sound {k : Nat} {t : TypeId} {len : Nat} {ps : Array (Nat × Operand)} (ho : o.op = .buildSlice t len ps) (ht : trLi cf st cnt o g k t len ps = some (p, sm)) (h : At cf c F E a w vs Bs cnt g p sm) (hE : EvP K E cnt p) : StepOK c o sm F E a w := by
  unfold trLi at ht
  split at ht
  · rename_i e ti hel
    split at ht
    · rename_i hc
      obtain ⟨hz, hlen, hps, hin⟩ := hc
      obtain ⟨z, hz⟩ := Option.isSome_iff_exists.1 hz
      simp only [Option.bind_eq_some_iff] at ht
      obtain ⟨⟨αs, ks, ns⟩, h1, ht⟩ := ht
      split at ht
      · rename_i hnd
        simp only [Option.some.injEq, Prod.mk.injEq] at ht
        obtain ⟨rfl, rfl⟩ := ht
        have hlt : ∀ n s, F (.en n s) → ∀ b ∈ Bs n, b < w.heap.size := fun n s hs => Own.blocks_lt s _ _ _ (h.H.own n s hs)
        have hO := Oput_old h.H (ks := ks) (es := elemSh k) (N := fun b => b = w.heap.size) (fun b hb q => by omega)
        have hal := trPuts_alive h h1 (fun f hf => hf)
        obtain ⟨hla, B, f1, f2, f3, f4, _⟩ := trPuts_sound h hO h1 (fun f hf => hf) (fun q => by
          rw [q]
          exact Oput_fr h.H (fun n hn => hn) hal (fun n hn b hb e => by obtain ⟨s, hs⟩ := hal n hn; have := hlt n s hs b hb; omega)) hnd
        have hE' : (if (αs.map (ev E)).all D.one = true then some (D.l (αs.map (ev E))) else none) = some (E cnt) := hE
        split at hE'
        · rename_i hone
          injection hE' with hE'
          have hll : len = ps.toList.length := by have := congrArg List.length hps; simpa using this.symm
          have hvl : ((ps.toList.map (·.2)).map a.eval).length = (αs.map (ev E)).length := by simp [hla]
          have hv1 := Each.one hone hvl f1
          obtain ⟨g1, g2, g3⟩ := elem1_spec hel
          have hP : c.P = cf.P := h.fits.P
          have hparts : (ps.map fun (i, x) => (i, a.eval x)).toList = (((ps.toList.map (·.2)).map a.eval).zipIdx 0).map fun x => (x.2, x.1) := by
            rw [Array.toList_map]
            apply List.ext_getElem?
            intro i
            simp only [List.getElem?_map, List.getElem?_zipIdx, Nat.zero_add]
            cases hi : ps.toList[i]? with
            | none => simp
            | some x =>
              have : (ps.toList.map (·.1))[i]? = some x.1 := by simp [hi]
              rw [hps] at this
              have hi' : i < len := by rw [hll]; exact (List.getElem?_eq_some_iff.1 hi).1
              rw [List.getElem?_range hi'] at this
              injection this with this
              simp [← this]
          have hbuild : (Instr.buildSlice t len (ps.map fun (i, x) => (i, a.eval x))).run c.P w = .ok (.slice (some ⟨w.heap.size, 0, none⟩) len len) (w.alloc (.cells ((ps.toList.map (·.2)).map a.eval).toArray e)) := by
            have hfill : ∀ cells : Array Value, cells.size = len → Instr.fill (fun i => some (i * ti.size, ti.size)) cells (ps.map fun (i, x) => (i, a.eval x)).toList = some ((ps.toList.map (·.2)).map a.eval).toArray := by
              intro cells hcs
              rw [hparts, g3]
              exact Great.fill_flat _ _ (fun v hv => cells_one (hv1 v hv)) (by simp [hcs, hll])
            by_cases h0 : len = 0
            · subst h0
              have hf0 := hfill #[] rfl
              rw [g3] at hf0
              have hr0 : ∀ f : Nat → Value, Array.map f (Array.range 0) = #[] := fun f => by simp
              simp [Instr.buildSlice, run_underlying (hP ▸ g1), sizeOf, typeInfo, hP ▸ g2, newRow, g3] at hf0 ⊢
              have hr1 : Array.map (fun _ => (default : Value)) (Array.range 0) = #[] := hr0 _
              rw [hr1, hf0]
              simp
            · exact run_buildSlice w t e len _ _ ti z (hP ▸ g1) (hP ▸ g2) hz (by rw [g3]; omega) (by rw [g3]; omega) (hfill _ (by simp [g3]))
          have hrun : (execOp a.eval o).run c.P w = .ok (.value (.slice (some ⟨w.heap.size, 0, none⟩) len len)) (w.alloc (.cells ((ps.toList.map (·.2)).map a.eval).toArray e)) := by
            simp only [execOp, ho]
            exact run_v hbuild
          refine StepOK.of_value hrun ⟨upd vs cnt (.slice (some ⟨w.heap.size, 0, none⟩) len len), upd Bs cnt (w.heap.size :: B), ?_⟩
          have hBlt : ∀ b ∈ B, b < w.heap.size := fun b hb => by
            obtain ⟨n, _, ⟨s, hs⟩, hbn⟩ := f3 b hb
            exact hlt n s hs b hbn
          refine h.H.put (by simpa using h.fresh 0 (by simp [Pr.np])) (by rw [h.fits.nt]; exact hin) ks (agr_alloc _ _ _) rfl rfl rfl ?_ ?_ ?_ h.g
          · rw [← hE']
            simp only [Own]
            have hxl : (αs.map (ev E)).length = len := by simp [hla, hll]
            refine .inr ⟨_, rfl, .inr ⟨w.heap.size, 0, len, _, e, (0, 0), B, rfl, ?_, heap_alloc_new w _, rfl, by omega, ?_, ?_, ?_⟩⟩
            · rw [hxl]
            · simp [hll]
            · rw [hxl]; omega
            · simp only [List.drop_zero]
              refine Each.imp (fun d v B1 hB1 r => ?_) f1
              refine Own.ext (S := fun _ => False) (agr_alloc _ _ _) (fun _ _ q => q.elim) ?_ _ _ _ _ (fun _ _ q => q) r
              rintro b hb (q | q)
              · exact .inl q
              · rcases List.mem_cons.1 q with q | q
                · exact .inr (.inr q)
                · by_cases hes : elemSh k = .v
                  · rw [f4 hes] at q; simp at q
                  · exact .inr (.inl ⟨hes, f3 b q⟩)
          · refine List.nodup_cons.2 ⟨fun q => ?_, f2⟩
            have := hBlt _ q; omega
          · intro b hb
            rcases List.mem_cons.1 hb with rfl | hb
            · exact .inr (Nat.le_refl _)
            · obtain ⟨n, hn, ⟨s, hs⟩, hbn⟩ := f3 b hb
              exact .inl ⟨n, s, hs, hn, hbn⟩
        · cases hE'
      · cases ht
    · cases ht
  · cases ht

end
end Go.Cat
