/-
  Regions: one operation behind the other, guards, and orders that are left open.
-/
import Derived.Test.YtddhlibpgnnanaaCatFrame
namespace Go.Cat

def A.ments : A → List Nat
  | .e n => [n]
  | .c _ => []

def oments : Option A → List Nat
  | some a => a.ments
  | none => []

def Pr.ments : Pr → List Nat
  | .nop | .cs .. => []
  | .cy a | .un _ a | .cv _ a | .sn a | .bs a | .sy a => a.ments
  | .bi _ a b | .bb _ a b | .sx a b | .ap _ a b | .mx a b | .mn a b | .mk _ a b | .iy a b => a.ments ++ b.ments
  | .pk a b c => a.ments ++ b.ments ++ c.ments
  | .ln a p => a.ments ++ p.flatMap PE.ments
  | .ix a p i => a.ments ++ p.flatMap PE.ments ++ i.ments
  | .up n p a => n :: (p.flatMap PE.ments ++ a.ments)
  | .sb _ a lo hi => a.ments ++ oments lo ++ oments hi
  | .ss a lo hi => a.ments ++ oments lo ++ oments hi
  | .li _ xs => xs.flatMap A.ments
  | .ca _ xs _ => xs.flatMap A.ments

theorem ev_congr {E E' : Nat → D} {a : A} (h : ∀ n ∈ a.ments, E n = E' n) : ev E a = ev E' a := by
  cases a with
  | e n => exact h n (by simp [A.ments])
  | c d => rfl

theorem PE.ev_congr {E E' : Nat → D} {p : PE} (h : ∀ n ∈ p.ments, E n = E' n) : PE.ev E p = PE.ev E' p := by
  cases p with
  | e n => simp only [PE.ev]; rw [h n (by simp [PE.ments])]
  | k n => rfl

theorem pathE_congr {E E' : Nat → D} : ∀ {p : List PE}, (∀ n ∈ p.flatMap PE.ments, E n = E' n) → p.mapM (PE.ev E) = p.mapM (PE.ev E')
  | [], _ => rfl
  | x :: p, h => by
    simp only [List.mapM_cons]
    rw [PE.ev_congr fun n hn => h n (by simp [hn]), pathE_congr fun n hn => h n (by simp only [List.flatMap_cons, List.mem_append]; exact .inr hn)]

theorem map_congr {E E' : Nat → D} : ∀ {xs : List A}, (∀ n ∈ xs.flatMap A.ments, E n = E' n) → xs.map (ev E) = xs.map (ev E')
  | [], _ => rfl
  | x :: xs, h => by
    simp only [List.map_cons]
    rw [ev_congr fun n hn => h n (by simp [hn]), map_congr fun n hn => h n (by simp only [List.flatMap_cons, List.mem_append]; exact .inr hn)]

theorem omap_congr {E E' : Nat → D} {x : Option A} (h : ∀ n ∈ oments x, E n = E' n) : x.map (ev E) = x.map (ev E') := by
  cases x with
  | none => rfl
  | some a => exact congrArg some (ev_congr h)

theorem evP_congr {E E' : Nat → D} {p : Pr} (h : ∀ n ∈ p.ments, E n = E' n) : evP E p = evP E' p := by
  cases p <;> simp only [Pr.ments, List.mem_append, List.mem_cons] at h <;> simp only [evP, pathD]
  case cy a => rw [ev_congr h]
  case bi a b => rw [ev_congr fun n hn => h n (.inl hn), ev_congr fun n hn => h n (.inr hn)]
  case bb a b => rw [ev_congr fun n hn => h n (.inl hn), ev_congr fun n hn => h n (.inr hn)]
  case un a => rw [ev_congr h]
  case pk a b c => rw [ev_congr fun n hn => h n (.inl (.inl hn)), ev_congr fun n hn => h n (.inl (.inr hn)), ev_congr fun n hn => h n (.inr hn)]
  case cv a => rw [ev_congr h]
  case ln a p => rw [ev_congr fun n hn => h n (.inl hn), pathE_congr fun n hn => h n (.inr hn)]
  case sn a => rw [ev_congr h]
  case sx a b => rw [ev_congr fun n hn => h n (.inl hn), ev_congr fun n hn => h n (.inr hn)]
  case ss a lo hi => rw [ev_congr fun n hn => h n (.inl (.inl hn)), omap_congr fun n hn => h n (.inl (.inr hn)), omap_congr fun n hn => h n (.inr hn)]
  case ix a p i => rw [ev_congr fun n hn => h n (.inl (.inl hn)), pathE_congr fun n hn => h n (.inl (.inr hn)), ev_congr fun n hn => h n (.inr hn)]
  case up n p a => rw [h n (.inl rfl), pathE_congr fun n hn => h n (.inr (.inl hn)), ev_congr fun n hn => h n (.inr (.inr hn))]
  case sb a lo hi => rw [ev_congr fun n hn => h n (.inl (.inl hn)), omap_congr fun n hn => h n (.inl (.inr hn)), omap_congr fun n hn => h n (.inr hn)]
  case ap a b => rw [ev_congr fun n hn => h n (.inl hn), ev_congr fun n hn => h n (.inr hn)]
  case mk a b => rw [ev_congr fun n hn => h n (.inl hn), ev_congr fun n hn => h n (.inr hn)]
  case iy a b => rw [ev_congr fun n hn => h n (.inl hn), ev_congr fun n hn => h n (.inr hn)]
  case li xs => rw [map_congr h]
  case bs a => rw [ev_congr h]
  case sy a => rw [ev_congr h]
  case mx a b => rw [ev_congr fun n hn => h n (.inl hn), ev_congr fun n hn => h n (.inr hn)]
  case mn a b => rw [ev_congr fun n hn => h n (.inl hn), ev_congr fun n hn => h n (.inr hn)]

/-- What an item makes, told of the entries as they are at the region's end. -/
def ItOK (K : Nat → List D → List D → Prop) (E : Nat → D) (cnt : Nat) (it : It) : Prop :=
  match gdE E it.g with
  | some true => EvP K E cnt it.p
  | some false => ∀ j, j < it.p.np → E (cnt + j) = .u
  | none => False

/-- All items, in the order of the text. -/
def ItsOK (K : Nat → List D → List D → Prop) (E : Nat → D) : Nat → List It → Prop
  | _, [] => True
  | cnt, it :: r => ItOK K E cnt it ∧ ItsOK K E (cnt + it.p.np) r

def nps : List It → Nat
  | [] => 0
  | it :: r => it.p.np + nps r

/-- No item looks at an entry that is not there yet. -/
def mentsOK : Nat → List It → Bool
  | _, [] => true
  | cnt, it :: r => (it.p.ments.all fun n => decide (n < cnt)) && (it.g.all fun x => decide (x.1 < cnt)) && mentsOK (cnt + it.p.np) r

theorem gdE_congr {E E' : Nat → D} : ∀ {g : Gd}, (∀ x ∈ g, E x.1 = E' x.1) → gdE E g = gdE E' g
  | [], _ => rfl
  | (n, b) :: g, h => by
    simp only [gdE]
    rw [h (n, b) (by simp), gdE_congr fun x hx => h x (by simp [hx])]

theorem E_append {e t : Env} {n : Nat} (h : n < e.length) : Env.E (e ++ t) n = Env.E e n := by
  simp [Env.E, List.getD_eq_getElem?_getD, List.getElem?_append_left h]

theorem E_new {e t : Env} {j : Nat} : Env.E (e ++ t) (e.length + j) = t.getD j .u := by
  simp only [Env.E, List.getD_eq_getElem?_getD]
  rw [List.getElem?_append_right (by omega)]
  simp

theorem EvP_congr {K : Nat → List D → List D → Prop} {E E' : Nat → D} {cnt : Nat} {p : Pr} (h : ∀ n ∈ p.ments, E n = E' n) (hn : ∀ j, j < p.np → E (cnt + j) = E' (cnt + j)) (k : EvP K E cnt p) : EvP K E' cnt p := by
  cases p
  case nop => trivial
  case ca g xs r =>
    obtain ⟨rs, h1, h2, h3⟩ := k
    refine ⟨rs, ?_, h2, fun j hj => ?_⟩
    · rw [← map_congr (E := E) (E' := E') h]; exact h1
    · rw [← hn j hj]; exact h3 j hj
  all_goals
    simp only [EvP] at k ⊢
    rw [← evP_congr h, k]
    exact congrArg some (hn 0 (by simp [Pr.np]))

theorem wpIts_ok {K : Nat → List D → List D → Prop} {Q : Env → Prop} : ∀ (its : List It) (e : Env), mentsOK e.length its = true → wpIts K its e Q →
    ∃ t, Q (e ++ t) ∧ t.length = nps its ∧ ItsOK K (Env.E (e ++ t)) e.length its
  | [], e => fun _ h => ⟨[], by simpa [wpIts] using h, rfl, trivial⟩
  | it :: r, e => fun hm h => by
    simp only [mentsOK, Bool.and_eq_true, List.all_eq_true, decide_eq_true_eq] at hm
    obtain ⟨⟨hm1, hm2⟩, hm3⟩ := hm
    have key : ∀ t1 : Env, t1.length = it.p.np → (∀ t2 : Env, ItOK K (Env.E (e ++ (t1 ++ t2))) e.length it) → wpIts K r (e ++ t1) Q →
        ∃ t, Q (e ++ t) ∧ t.length = nps (it :: r) ∧ ItsOK K (Env.E (e ++ t)) e.length (it :: r) := by
      intro t1 hl hit hw
      obtain ⟨t2, q1, q2, q3⟩ := wpIts_ok r (e ++ t1) (by simpa [hl] using hm3) hw
      refine ⟨t1 ++ t2, by simpa using q1, by simp [nps, hl, q2], hit t2, ?_⟩
      simpa [hl] using q3
    simp only [wpIts, wpIt] at h
    split at h
    · rename_i hg
      have hg2 : ∀ t, gdE (Env.E (e ++ t)) it.g = some true := fun t => by rw [gdE_congr (E' := Env.E e) fun x hx => E_append (hm2 x hx)]; exact hg
      have mem : ∀ (t : Env) (n : Nat), n ∈ it.p.ments → Env.E e n = Env.E (e ++ t) n := fun t n hn => (E_append (hm1 n hn)).symm
      unfold wpPr at h
      split at h
      · rename_i hp
        refine key [] (by simp [hp, Pr.np]) (fun t2 => ?_) (by simpa using h)
        simp only [ItOK, hg2, hp, EvP]
      · rename_i k xs n hp
        obtain ⟨rs, h1, h2, h3⟩ := h
        refine key rs (by simp [hp, Pr.np, h2]) (fun t2 => ?_) h3
        simp only [ItOK, hg2, hp, EvP]
        refine ⟨rs, ?_, h2, fun j hj => ?_⟩
        · rw [map_congr (E := Env.E (e ++ (rs ++ t2))) (E' := Env.E e) fun n hn => (mem (rs ++ t2) n (by simpa [hp, Pr.ments] using hn)).symm]; exact h1
        · rw [E_new]
          simp [List.getD_eq_getElem?_getD, List.getElem?_append_left (show j < rs.length by omega), show j < rs.length from by omega]
      · rename_i hp1 hp2
        have hone : it.p.np = 1 := by
          cases hpp : it.p <;> first | rfl | (exact (hp1 hpp).elim) | (exact (hp2 _ _ _ hpp).elim)
        split at h
        · rename_i d hd
          refine key [d] (by simp [hone]) (fun t2 => ?_) h
          simp only [ItOK, hg2]
          have : evP (Env.E (e ++ ([d] ++ t2))) it.p = some (Env.E (e ++ ([d] ++ t2)) e.length) := by
            rw [← evP_congr (mem ([d] ++ t2)), hd]
            have := E_new (e := e) (t := [d] ++ t2) (j := 0)
            simp only [Nat.add_zero] at this
            rw [this]; rfl
          cases hpp : it.p <;> first | (exact (hp1 hpp).elim) | (exact (hp2 _ _ _ hpp).elim) | (rw [hpp] at this; exact this)
        · exact h.elim
    · rename_i hg
      refine key (List.replicate it.p.np .u) (by simp) (fun t2 => ?_) h
      have hg2 : gdE (Env.E (e ++ (List.replicate it.p.np .u ++ t2))) it.g = some false := by rw [gdE_congr (E' := Env.E e) fun x hx => E_append (hm2 x hx)]; exact hg
      simp only [ItOK, hg2]
      intro j hj
      rw [E_new]
      simp [List.getD_eq_getElem?_getD, List.getElem?_append_left (show j < (List.replicate it.p.np D.u).length by simpa using hj), hj]
    · exact h.elim

/-! ### One item: its guard, its operation -/

structure Sq where
  it : It
  sm : Sm
  g : Gd

def keepF (dst : Option Nat) (kill : List Nat) : Fact → Bool
  | .en n _ => !kill.contains n
  | .sl t _ => some t != dst

def nextL (st : List Fact) (dst : Option Nat) (sm : Sm) : List Fact := sm.adds ++ st.filter (keepF dst sm.kill)

theorem mem_nextL {st : List Fact} {dst : Option Nat} {sm : Sm} {f : Fact} : f ∈ nextL st dst sm ↔ next (· ∈ st) dst sm f := by
  unfold nextL next
  simp only [List.mem_append, List.mem_filter]
  constructor
  · rintro (h | ⟨h1, h2⟩)
    · exact .inr h
    · left; refine ⟨h1, ?_⟩
      cases f <;> simp [keepF] at h2 ⊢ <;> exact h2
  · rintro (⟨h1, h2⟩ | h)
    · right; refine ⟨h1, ?_⟩
      cases f <;> simp [keepF] at h2 ⊢ <;> exact h2
    · exact .inl h

/-- The guard of an operation, as entries; what that needs. -/
def trGd (ops : Array Oper) (st : List Fact) : Option (Nat × Bool) → Option (Gd × List Fact)
  | none => some ([], [])
  | some (j, want) => match (ops[j]?).bind (·.dst) with
    | some t => match findSl st t with
      | some (.is n g) => (findEn st n).map fun s => (g ++ [(n, want)], [.sl t (.is n g), .en n s])
      | _ => none
    | none => none

def Loc.gd : Loc → Gd
  | .is _ g => g
  | .ad _ _ _ g => g
  | .ip _ _ _ g => g
  | .vc _ g => g
  | .tu _ g => g
  | .aw _ _ g => g

/-- What an operation that is passed over may make. -/
def skOK (o : Oper) (g : Gd) (cnt np : Nat) (sm : Sm) : Bool :=
  g.isEmpty || sm.adds.all fun
    | .en n _ => decide (cnt ≤ n ∧ n < cnt + np)
    | .sl t l => decide (some t = o.dst ∧ l.gd = g)

def fxOK (fx : List Nat) (dst : Option Nat) : Bool := match dst with | some t => !fx.contains t | none => true

def trIt (cf : CF) (sg : Nat → Option Sg) (ops : Array Oper) (st : List Fact) (cnt : Nat) (o : Oper) (k : Nat) : Option Sq :=
  (trGd ops st o.guard).bind fun gn => (trOp cf sg st cnt o gn.1 k).bind fun ps =>
    if skOK o gn.1 cnt ps.1.np ps.2 = true ∧ inB o.dst cf.nt = true ∧ fxOK cf.fx o.dst = true then
      some ⟨{ g := gn.1, p := ps.1 }, { ps.2 with needs := gn.2 ++ ps.2.needs }, gn.1⟩
    else none

theorem gdE_true {E : Nat → D} : ∀ {g : Gd}, gdE E g = some true ↔ gdOK E g
  | [] => by simp [gdE, gdOK]
  | (n, b) :: g => by
    simp only [gdE]
    have ih := gdE_true (E := E) (g := g)
    constructor
    · intro h
      split at h
      · rename_i x hx
        split at h
        · rename_i hxb
          intro y hy
          rcases List.mem_cons.1 hy with rfl | hy
          · rw [hx, hxb]
          · exact ih.1 h y hy
        · simp at h
      · simp at h
    · intro h
      have h1 := h (n, b) (by simp)
      simp only at h1
      simp only [h1, if_true]
      exact ih.2 fun x hx => h x (by simp [hx])

theorem gdE_snoc {E : Nat → D} {n : Nat} {b : Bool} : ∀ {g : Gd}, gdE E (g ++ [(n, b)]) = some false → ¬ gdOK E g ∨ (gdOK E g ∧ E n = .b (!b))
  | [] => by
    simp only [List.nil_append, gdE]
    intro h
    split at h
    · rename_i x hx
      split at h
      · simp at h
      · rename_i hxb
        right
        refine ⟨by simp [gdOK], ?_⟩
        rw [hx]; cases x <;> cases b <;> simp at hxb ⊢
    · simp at h
  | (m, c) :: g => by
    simp only [List.cons_append, gdE]
    intro h
    split at h
    · rename_i x hx
      split at h
      · rename_i hxc
        rcases gdE_snoc (g := g) h with h2 | ⟨h2, h3⟩
        · left; intro q; exact h2 fun y hy => q y (by simp [hy])
        · right
          refine ⟨fun y hy => ?_, h3⟩
          rcases List.mem_cons.1 hy with rfl | hy
          · rw [hx, hxc]
          · exact h2 y hy
      · rename_i hxc
        left
        intro q
        have := q (m, c) (by simp)
        simp only at this
        rw [hx] at this
        injection this with this
        exact hxc this
    · simp at h

section
variable {cf : CF} {sg : Nat → Option Sg} {c : Cx} {F : Fact → Prop} {E : Nat → D} {a : Act} {w : World} {vs : Nat → Value} {Bs : Nat → List Nat} {cnt : Nat} {sm : Sm} {st : List Fact} {o : Oper}
  {K : Nat → List D → List D → Prop} {ops : Array Oper}

/-- The guard as the model asks it. -/
theorem trGd_sound {og : Option (Nat × Bool)} {g : Gd} {ns : List Fact} (h : trGd ops st og = some (g, ns)) (ho : o.guard = og) (H : HoldsG c F E a w vs Bs) (hn : ∀ f ∈ ns, F f) :
    (gdE E g = some true → Region.wanted o (yielded ops a.tmps) = true) ∧ (gdE E g = some false → Region.wanted o (yielded ops a.tmps) = false) := by
  cases og with
  | none =>
    simp only [trGd, Option.some.injEq, Prod.mk.injEq] at h
    obtain ⟨rfl, rfl⟩ := h
    exact ⟨fun _ => by simp [Region.wanted, ho], fun h => by simp [gdE] at h⟩
  | some jw =>
    obtain ⟨j, want⟩ := jw
    simp only [trGd] at h
    split at h
    · rename_i t ht
      split at h
      · rename_i n g0 hl
        simp only [Option.map_eq_some_iff, Prod.mk.injEq] at h
        obtain ⟨s, hs, rfl, rfl⟩ := h
        have f1 := H.loc t _ (hn (.sl t (.is n g0)) (by simp))
        have f2 := H.own n s (hn (.en n s) (by simp))
        have hy : yielded ops a.tmps j = match a.tmps[t]? with | some (.bool b) => some b | _ => none := by
          unfold yielded
          rw [ht]
          simp only [Option.bind_some]
          rfl
        constructor
        · intro hg
          have hg' := gdE_true.1 hg
          have e1 := f1.1 fun x hx => hg' x (List.mem_append_left _ hx)
          have e2 : E n = .b want := hg' (n, want) (by simp)
          rw [e2] at f2
          rw [f2.bool] at e1
          simp [Region.wanted, ho, hy, e1]
        · intro hg
          rcases gdE_snoc hg with h1 | ⟨h1, h2⟩
          · have e1 := f1.2 h1
            simp [Region.wanted, ho, hy, e1, undef]
          · have e1 := f1.1 h1
            rw [h2] at f2
            rw [f2.bool] at e1
            simp [Region.wanted, ho, hy, e1]
      · simp at h
    · simp at h

/-- An operation that is passed over. -/
theorem skip_sound {g : Gd} {np : Nat} (H : HoldsG c F E a w vs Bs) (hsk : skOK o g cnt np sm = true) (hg : gdE E g = some false) (hfr : ∀ j, j < np → Fresh F (cnt + j)) (hu : ∀ j, j < np → E (cnt + j) = .u)
    (hin : inB o.dst c.nt = true) : HoldsX c (next F o.dst sm) E (a.put o.dst undef) w := by
  have hng : ¬ gdOK E g := fun q => by rw [gdE_true.2 q] at hg; simp at hg
  have hne : g ≠ [] := by rintro rfl; simp [gdE] at hg
  unfold skOK at hsk
  simp only [Bool.or_eq_true, List.isEmpty_iff, hne, false_or, List.all_eq_true] at hsk
  refine ⟨fun n => if cnt ≤ n ∧ n < cnt + np then undef else vs n, fun n => if cnt ≤ n ∧ n < cnt + np then [] else Bs n, ?_⟩
  refine HoldsG.step (fun n => cnt ≤ n ∧ n < cnt + np) (fun n => n ∈ sm.kill) (fun _ => False) o.dst H (fun n hn => if_neg hn) (fun n hn => if_neg hn)
    (fun t l hl n hn q => by
      have := (hfr (n - cnt) (by omega)).2 t l hl
      rw [show cnt + (n - cnt) = n from by omega] at this
      exact this hn)
    (fun _ q => q.elim) (Agr.refl _ _) rfl rfl rfl (fun t ht => put_get ht) put_size put_defers ?_ ?_ ?_ ?_ ?_ ?_
  · rintro f (⟨h1, h2⟩ | h)
    · left; refine ⟨h1, ?_⟩; cases f <;> exact h2
    · right
      have := hsk f h
      cases f with
      | en n s => simpa using this
      | sl t l => simp at this; exact this.1
  · rintro n r hn hf
    simp only [if_pos hn]
    have : E n = .u := by
      have := hu (n - cnt) (by omega)
      rwa [show cnt + (n - cnt) = n from by omega] at this
    rw [this]
    cases r <;> simp [Own, Rd]
  · rintro n r hn _; simp only [if_pos hn]; exact List.nodup_nil
  · rintro n r hn _ b hb; simp only [if_pos hn] at hb; simp at hb
  · rintro n r m q hn hm _ _ _ b hb; simp only [if_pos hn] at hb; simp at hb
  · rintro t l ht hf
    rcases hf with ⟨_, h2⟩ | h
    · exact (h2 ht).elim
    · have := hsk _ h
      simp at this
      obtain ⟨_, hgl⟩ := this
      have hput : (a.put o.dst undef).tmps[t]? = some undef := by
        rw [← ht]; exact put_self (by rw [H.size]; rw [← ht] at hin; simpa [inB] using hin)
      cases l with
      | is n g' =>
        simp only [Loc.gd] at hgl; subst hgl
        exact ⟨fun q => (hng q).elim, fun _ => hput⟩
      | vc n g' => simp only [Loc.gd] at hgl; subst hgl; exact fun q => (hng q).elim
      | ad r p m g' => simp only [Loc.gd] at hgl; subst hgl; exact fun q => (hng q).elim
      | ip r p m g' => simp only [Loc.gd] at hgl; subst hgl; exact fun q => (hng q).elim
      | tu ns g' => simp only [Loc.gd] at hgl; subst hgl; exact fun q => (hng q).elim
      | aw r p g' => simp only [Loc.gd] at hgl; subst hgl; exact fun q => (hng q).elim

theorem fxOK_spec {fx : List Nat} {dst : Option Nat} (h : fxOK fx dst = true) : ∀ t ∈ fx, some t ≠ dst := by
  rintro t ht rfl
  simp [fxOK, ht] at h

/-- ONE ITEM. -/
theorem item_sound (hs : Sound cf sg K) (hc : cf.Fits c) {k : Nat} {q : Sq} (ht : trIt cf sg ops st cnt o k = some q) (H : Holds c F E a w) (hfr : ∀ j, j < q.it.p.np → Fresh F (cnt + j)) (hn : ∀ f ∈ q.sm.needs, F f)
    (hE : ItOK K E cnt q.it) {i : Nat} (hi : ops[i]? = some o) {Kn : Act → World → Prop} {Q : Exit → Act → World → Prop} (hk : ∀ a' w', Holds c (next F o.dst q.sm) E a' w' → Kn a' w') :
    wpOp c.P ops Q i Kn a w := by
  obtain ⟨⟨vs, Bs, H⟩, hfix⟩ := H
  unfold trIt at ht
  simp only [Option.bind_eq_some_iff] at ht
  obtain ⟨⟨g, ns⟩, h1, ⟨p, sm⟩, h2, ht⟩ := ht
  simp only at ht
  split at ht
  · rename_i hsk
    simp only [Option.some.injEq] at ht
    subst ht
    simp only at hn hE hk
    obtain ⟨w1, w2⟩ := trGd_sound h1 rfl H fun f hf => hn f (List.mem_append_left _ hf)
    unfold ItOK at hE
    simp only at hE
    unfold wpOp
    rw [hi]
    simp only
    split at hE
    · rename_i hg
      rw [if_pos (w1 hg)]
      left
      have hx := fxOK_spec hsk.2.2
      refine wp_frame (trOp_sound hs h2 ⟨hc, H, hfr, fun f hf => hn f (List.mem_append_right _ hf), gdE_true.1 hg⟩ hE _ Q fun _ _ h => h) fun a' w' h1 h2 => hk a' w' ⟨h1, fun x hx' => ?_⟩
      rw [h2 x.1 (hx _ (hc.fx x hx'))]
      exact hfix x hx'
    · rename_i hg
      rw [if_neg (by rw [w2 hg]; simp)]
      refine hk _ _ ⟨skip_sound H hsk.1 hg hfr hE (by rw [hc.nt]; exact hsk.2.1), fun x hx' => ?_⟩
      rw [put_get (fxOK_spec hsk.2.2 _ (hc.fx x hx'))]
      exact hfix x hx'
    · exact hE.elim
  · simp at ht
end

end Go.Cat
