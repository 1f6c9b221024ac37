/-
  Whole functions: the translation of their code, and the contract that follows.
-/
import Derived.Test.YtddhlibpgnnanaaCatStmt
namespace Go.Cat

abbrev Tr := Option (S × HL × Option Nat × List (Nat × Nat))

def meetL (o : Option Nat) (L : Nat) : Option Nat := match o with | none => some L | some a => some (a &&& L)
def meetO (a b : Option Nat) : Option Nat := match a, b with | none, b => b | a, none => a | some x, some y => some (x &&& y)

def idxOf (vt : VT) (t : Nat) : Option Nat := vt.findIdx? (fun x => x.1 == t)

/-- The head of a loop: what is alive there and stays so round by round. -/
def loopTr (body : HL → Nat → Tr) (hs : HL) : Nat → Nat → Option (Nat × S × HL × List (Nat × Nat))
  | 0, _ => none
  | n + 1, L => (body hs L).bind fun r => match r.2.2.1 with
    | none => some (L, r.1, r.2.1, r.2.2.2)
    | some L1 => if subB L L1 then some (L, r.1, r.2.1, r.2.2.2) else loopTr body hs n (L &&& L1)

section
variable (cf : CF) (sg : Nat → Option Sg) (vt : VT) (res : List Nat)
def trS : Code → HL → Nat → Tr
  | .skip, hs, L => some (.skip, hs, some L, [])
  | .region _ ops draw, h :: hs, L => (trReg cf sg vt ops draw L h).map fun s => (s, hs, some h.1, [])
  | .seq a b, hs, L => (trS a hs L).bind fun r => match r.2.2.1 with
    | none => some (.seq r.1 .skip, r.2.1, none, r.2.2.2)
    | some L1 => (trS b r.2.1 L1).map fun q => (.seq r.1 q.1, q.2.1, q.2.2.1, r.2.2.2 ++ q.2.2.2)
  | .cond (.tmp t) x y, hs, L => (idxOf vt t).bind fun i =>
    if L.testBit i then (trS x hs (L ^^^ 2 ^ i)).bind fun r => (trS y r.2.1 (L ^^^ 2 ^ i)).map fun q => (.cond i r.1 q.1, q.2.1, meetO r.2.2.1 q.2.2.1, r.2.2.2 ++ q.2.2.2)
    else none
  | .block id b, hs, L => (trS b hs L).map fun r =>
    (.block id r.1, r.2.1, (r.2.2.2.filter (fun x => x.1 == id)).foldl (fun o x => meetL o x.2) r.2.2.1, r.2.2.2.filter (fun x => x.1 != id))
  | .loop b, hs, L => (loopTr (trS b) hs 5 L).map fun r => (.loop r.2.1, r.2.2.1, none, r.2.2.2)
  | .exit id, hs, L => some (.exit id, hs, none, [(id, L)])
  | .ret, hs, L => if res.all (fun i => L.testBit i) then some (.ret, hs, none, []) else none
  | _, _, _ => none
end

def rOK (res : List Nat) (L : Nat) : Prop := ∀ i ∈ res, L.testBit i = true

theorem exists_least {J : Nat → Prop} (h : ∃ n, J n) : ∃ n, J n ∧ ∀ m, m < n → ¬ J m := by
  obtain ⟨n, hn⟩ := h
  induction n using Nat.strongRecOn with
  | _ n ih =>
    by_cases hm : ∃ m, m < n ∧ J m
    · obtain ⟨m, h1, h2⟩ := hm
      exact ih m h1 h2
    · exact ⟨n, hn, fun m h1 h2 => hm ⟨m, h1, h2⟩⟩

theorem loopTr_spec {body : HL → Nat → Tr} {hs : HL} : ∀ {n L : Nat} {r : Nat × S × HL × List (Nat × Nat)}, loopTr body hs n L = some r → subB r.1 L = true ∧ ∃ nb, body hs r.1 = some (r.2.1, r.2.2.1, nb, r.2.2.2) ∧ ∀ L1, nb = some L1 → subB r.1 L1 = true
  | 0, _, _ => fun h => by simp [loopTr] at h
  | n + 1, L, r => fun h => by
    simp only [loopTr, Option.bind_eq_some_iff] at h
    obtain ⟨⟨s, h2, nb, ex⟩, h1, h⟩ := h
    simp only at h
    split at h
    · simp only [Option.some.injEq] at h
      subst h
      exact ⟨by simp [subB], none, h1, fun L1 he => by simp at he⟩
    · rename_i L1
      split at h
      · rename_i hsub
        simp only [Option.some.injEq] at h
        subst h
        refine ⟨by simp [subB], some L1, h1, fun L2 he => ?_⟩
        injection he with he; subst he; exact hsub
      · obtain ⟨k1, k2⟩ := loopTr_spec h
        refine ⟨?_, k2⟩
        have hb : ∀ i, r.1.testBit i = true → L.testBit i = true := fun i hi => by
          have := subB_bit k1 i hi
          rw [Nat.testBit_and, Bool.and_eq_true] at this
          exact this.1
        simp only [subB, beq_iff_eq]
        apply Nat.eq_of_testBit_eq
        intro i
        rw [Nat.testBit_and]
        cases hi : r.1.testBit i with
        | false => rfl
        | true => rw [hb i hi]; rfl

theorem foldl_meet {id : Nat} : ∀ {exs : List (Nat × Nat)} {o : Option Nat} {L : Nat}, ((id, L) ∈ exs ∨ o = some L) → ∃ L', exs.foldl (fun o x => meetL o x.2) o = some L' ∧ ∀ i, L'.testBit i = true → L.testBit i = true
  | [], o, L => fun h => by
    simp only [List.not_mem_nil, false_or] at h
    exact ⟨L, by simp [h], fun _ h => h⟩
  | (k, M) :: exs, o, L => fun h => by
    simp only [List.foldl_cons]
    have step : ∀ N, (meetL o M = some N) → (∀ i, N.testBit i = true → L.testBit i = true) → ∃ L', exs.foldl (fun o x => meetL o x.2) (meetL o M) = some L' ∧ ∀ i, L'.testBit i = true → L.testBit i = true := by
      intro N hN hb
      obtain ⟨L', e1, e2⟩ := foldl_meet (id := id) (exs := exs) (o := meetL o M) (L := N) (.inr hN)
      exact ⟨L', e1, fun i hi => hb i (e2 i hi)⟩
    rcases h with h | h
    · rcases List.mem_cons.1 h with h | h
      · injection h with h1 h2
        subst h2
        cases o with
        | none => exact step L rfl fun _ h => h
        | some A =>
          refine step (A &&& L) rfl fun i hi => ?_
          rw [Nat.testBit_and, Bool.and_eq_true] at hi; exact hi.2
      · exact foldl_meet (id := id) (.inl h)
    · subst h
      refine step (L &&& M) rfl fun i hi => ?_
      rw [Nat.testBit_and, Bool.and_eq_true] at hi; exact hi.1

/-- The ends of a statement, as the model has them. -/
def xe : X → Exit
  | .n => .normal
  | .ex id => .exit id
  | .r => .ret

section
variable {cf : CF} {sg : Nat → Option Sg} {c : Cx} {K : Nat → List D → List D → Prop} {vt : VT} {res : List Nat}

theorem idxOf_spec {t i : Nat} (h : idxOf vt t = some i) : ∃ s, vt[i]? = some (t, s) := by
  unfold idxOf at h
  obtain ⟨h1, h2, _⟩ := List.findIdx?_eq_some_iff_getElem.1 h
  refine ⟨vt[i].2, ?_⟩
  rw [List.getElem?_eq_getElem h1]
  have : vt[i].1 = t := by simpa using h2
  rw [← this]

theorem set_E {e : Env} {i j : Nat} (h : j ≠ i) : Env.E (e.set i .u) j = e.E j := by
  simp [Env.E, List.getD_eq_getElem?_getD, List.getElem?_set_ne (Ne.symm h)]

theorem trS_sound (hs : Sound cf sg K) (hc : cf.Fits c) (hm : cf.P.follows .mixedOrders = true) : ∀ (code : Code) (hh : HL) (L : Nat) (s : S) (hh' : HL) (nrm : Option Nat) (exs : List (Nat × Nat)),
    trS cf sg vt res code hh L = some (s, hh', nrm, exs) → ∀ (Q : X → Env → Prop) (e : Env) (a : Act) (w : World) (Qc : Exit → Act → World → Prop), wpS K s Q e → e.length = vt.length → Holds c (· ∈ stOf vt L) e.E a w →
    (∀ x e' a' w', e'.length = vt.length → Q x e' → (∃ L', (match x with | .n => nrm = some L' | .ex id => (id, L') ∈ exs | .r => rOK res L') ∧ Holds c (· ∈ stOf vt L') e'.E a' w') → Qc (xe x) a' w') →
    code.wp c.P Qc a w
  | .skip, hh, L, s, hh', nrm, exs => fun ht Q e a w Qc hQ hl H hk => by
    simp only [trS, Option.some.injEq, Prod.mk.injEq] at ht
    obtain ⟨rfl, rfl, rfl, rfl⟩ := ht
    exact wp_skip (hk .n e a w hl hQ ⟨L, rfl, H⟩)
  | .region id ops draw, [], L, s, hh', nrm, exs => fun ht => by simp [trS] at ht
  | .region id ops draw, h :: hh, L, s, hh', nrm, exs => fun ht Q e a w Qc hQ hl H hk => by
    simp only [trS, Option.map_eq_some_iff, Prod.mk.injEq] at ht
    obtain ⟨s', h1, rfl, rfl, rfl, rfl⟩ := ht
    exact reg_sound hs hc hm h1 hQ hl H fun e' a' w' hl' hq H' => hk .n e' a' w' hl' hq ⟨h.1, rfl, H'⟩
  | .seq x y, hh, L, s, hh', nrm, exs => fun ht Q e a w Qc hQ hl H hk => by
    simp only [trS, Option.bind_eq_some_iff] at ht
    obtain ⟨⟨s1, h1, n1, e1⟩, hx, ht⟩ := ht
    simp only at ht
    split at ht
    · simp only [Option.some.injEq, Prod.mk.injEq] at ht
      obtain ⟨rfl, rfl, rfl, rfl⟩ := ht
      simp only [wpS] at hQ
      refine wp_seq (trS_sound hs hc hm x hh L _ _ _ _ hx _ e a w _ hQ hl H ?_)
      rintro z e' a' w' hl' hq ⟨L', hz, H'⟩
      cases z with
      | n => simp at hz
      | ex id => exact hk (.ex id) e' a' w' hl' hq ⟨L', hz, H'⟩
      | r => exact hk .r e' a' w' hl' hq ⟨L', hz, H'⟩
    · rename_i L1
      simp only [Option.map_eq_some_iff, Prod.mk.injEq] at ht
      obtain ⟨⟨s2, h2, n2, e2⟩, hy, rfl, rfl, rfl, rfl⟩ := ht
      simp only [wpS] at hQ
      refine wp_seq (trS_sound hs hc hm x hh L _ _ _ _ hx _ e a w _ hQ hl H ?_)
      rintro z e' a' w' hl' hq ⟨L', hz, H'⟩
      cases z with
      | n =>
        injection hz with hz
        subst hz
        refine trS_sound hs hc hm y _ _ _ _ _ _ hy Q e' a' w' Qc hq hl' H' ?_
        rintro z2 e3 a3 w3 hl3 hq3 ⟨L3, hz3, H3⟩
        refine hk z2 e3 a3 w3 hl3 hq3 ⟨L3, ?_, H3⟩
        cases z2 with
        | n => exact hz3
        | ex id => exact List.mem_append_right _ hz3
        | r => exact hz3
      | ex id => exact hk (.ex id) e' a' w' hl' hq ⟨L', List.mem_append_left _ hz, H'⟩
      | r => exact hk .r e' a' w' hl' hq ⟨L', hz, H'⟩
  | .cond (.tmp t) x y, hh, L, s, hh', nrm, exs => fun ht Q e a w Qc hQ hl H hk => by
    simp only [trS, Option.bind_eq_some_iff] at ht
    obtain ⟨i, hi, ht⟩ := ht
    split at ht
    · rename_i hL
      simp only [Option.bind_eq_some_iff, Option.map_eq_some_iff, Prod.mk.injEq] at ht
      obtain ⟨⟨s1, h1, n1, e1⟩, hx, ⟨s2, h2, n2, e2⟩, hy, rfl, rfl, rfl, rfl⟩ := ht
      obtain ⟨sh, hvt⟩ := idxOf_spec hi
      obtain ⟨⟨vs, Bs, HG⟩, hfix⟩ := H
      have f1 := HG.own i sh (mem_stOf.2 ⟨i, t, sh, hvt, hL, .inr rfl⟩)
      have f2 := (HG.loc t _ (mem_stOf.2 ⟨i, t, sh, hvt, hL, .inl rfl⟩)).1 (by simp [gdOK])
      have hsub : ∀ j, (L ^^^ 2 ^ i).testBit j = true → L.testBit j = true ∧ j ≠ i := by
        intro j hj
        rw [Nat.testBit_xor, Nat.testBit_two_pow] at hj
        by_cases hij : i = j
        · subst hij; simp [hL] at hj
        · simp [hij] at hj; exact ⟨hj, fun q => hij q.symm⟩
      have H' : Holds c (· ∈ stOf vt (L ^^^ 2 ^ i)) (Env.E (e.set i .u)) a w :=
        (Holds.mono ⟨⟨vs, Bs, HG⟩, hfix⟩ (stOf_mono fun j hj => (hsub j hj).1)).congr fun j _ _ _ hj => set_E (hsub j hj).2
      simp only [wpS] at hQ
      split at hQ
      · rename_i hb
        rw [hb] at f1
        have hv : a.eval (.tmp t) = .bool true := by
          rw [f1.bool] at f2; simp [Act.eval, f2]
        refine wp_cond_true hv (trS_sound hs hc hm x hh _ _ _ _ _ hx Q _ a w Qc hQ (by simpa using hl) H' ?_)
        rintro z e' a' w' hl' hq ⟨L', hz, H2⟩
        cases z with
        | n =>
          cases n2 with
          | none =>
            have hz' : n1 = some L' := hz
            exact hk .n e' a' w' hl' hq ⟨L', by simp [meetO, hz'], H2⟩
          | some M =>
            have hz' : n1 = some L' := hz
            refine hk .n e' a' w' hl' hq ⟨L' &&& M, by simp [meetO, hz'], H2.mono (stOf_mono fun j hj => ?_)⟩
            rw [Nat.testBit_and, Bool.and_eq_true] at hj; exact hj.1
        | ex id => exact hk (.ex id) e' a' w' hl' hq ⟨L', List.mem_append_left _ hz, H2⟩
        | r => exact hk .r e' a' w' hl' hq ⟨L', hz, H2⟩
      · rename_i hb
        rw [hb] at f1
        have hv : a.eval (.tmp t) = .bool false := by
          rw [f1.bool] at f2; simp [Act.eval, f2]
        refine wp_cond_false hv (trS_sound hs hc hm y _ _ _ _ _ _ hy Q _ a w Qc hQ (by simpa using hl) H' ?_)
        rintro z e' a' w' hl' hq ⟨L', hz, H2⟩
        cases z with
        | n =>
          have hz' : n2 = some L' := hz
          cases n1 with
          | none => exact hk .n e' a' w' hl' hq ⟨L', by simp [meetO, hz'], H2⟩
          | some M =>
            refine hk .n e' a' w' hl' hq ⟨M &&& L', by simp [meetO, hz'], H2.mono (stOf_mono fun j hj => ?_)⟩
            rw [Nat.testBit_and, Bool.and_eq_true] at hj; exact hj.2
        | ex id => exact hk (.ex id) e' a' w' hl' hq ⟨L', List.mem_append_right _ hz, H2⟩
        | r => exact hk .r e' a' w' hl' hq ⟨L', hz, H2⟩
      · exact hQ.elim
    · simp at ht
  | .block id b, hh, L, s, hh', nrm, exs => fun ht Q e a w Qc hQ hl H hk => by
    simp only [trS, Option.map_eq_some_iff, Prod.mk.injEq] at ht
    obtain ⟨⟨s1, h1, n1, e1⟩, hb, rfl, rfl, rfl, rfl⟩ := ht
    simp only [wpS] at hQ
    refine wp_block (trS_sound hs hc hm b hh L _ _ _ _ hb _ e a w _ hQ hl H ?_)
    rintro z e' a' w' hl' hq ⟨L', hz, H'⟩
    cases z with
    | n =>
      have hz' : n1 = some L' := hz
      obtain ⟨L2, q1, q2⟩ := foldl_meet (id := id) (exs := e1.filter (fun x => x.1 == id)) (o := n1) (L := L') (.inr hz')
      exact hk .n e' a' w' hl' hq ⟨L2, q1, H'.mono (stOf_mono q2)⟩
    | ex j =>
      have hz' : (j, L') ∈ e1 := hz
      by_cases hj : j = id
      · subst hj
        have hq' : Q .n e' := by simpa using hq
        obtain ⟨L2, q1, q2⟩ := foldl_meet (id := j) (exs := e1.filter (fun x => x.1 == j)) (o := n1) (L := L') (.inl (by simp [hz']))
        simp only [xe, Exit.inBlock, if_true]
        exact hk .n e' a' w' hl' hq' ⟨L2, q1, H'.mono (stOf_mono q2)⟩
      · have hq' : Q (.ex j) e' := by simpa [hj] using hq
        simp only [xe, Exit.inBlock, if_neg hj]
        exact hk (.ex j) e' a' w' hl' hq' ⟨L', by simp [hz', hj], H'⟩
    | r => exact hk .r e' a' w' hl' hq ⟨L', hz, H'⟩
  | .loop b, hh, L, s, hh', nrm, exs => fun ht Q e a w Qc hQ hl H hk => by
    simp only [trS, Option.map_eq_some_iff, Prod.mk.injEq] at ht
    obtain ⟨⟨Lh, s1, h1, e1⟩, hb, rfl, rfl, rfl, rfl⟩ := ht
    obtain ⟨k1, nb, k2, k3⟩ := loopTr_spec hb
    simp only at k1 k2 k3
    simp only [wpS] at hQ
    let J : Act → World → Nat → Prop := fun a w n => ∃ e, wpLoop (wpS K s1) n Q e ∧ e.length = vt.length ∧ Holds c (· ∈ stOf vt Lh) e.E a w
    let I : Act → World → Prop := fun a w => ∃ n, J a w n
    open Classical in
    let μ : Act → World → Nat := fun a w => if h : ∃ n, J a w n then Classical.choose (exists_least h) else 0
    have hμ : ∀ a w, I a w → J a w (μ a w) ∧ ∀ m, m < μ a w → ¬ J a w m := by
      intro a w h
      have h' : ∃ n, J a w n := h
      simp only [μ, dif_pos h']
      exact Classical.choose_spec (exists_least h')
    obtain ⟨n, hn⟩ := hQ
    refine wp_loop I μ ⟨n, e, hn, hl, H.mono (stOf_mono (subB_bit k1))⟩ ?_
    intro a w hI
    obtain ⟨⟨e, hw, hl2, H2⟩, hmin⟩ := hμ a w hI
    generalize hμn : μ a w = n at *
    cases n with
    | zero => simp [wpLoop] at hw
    | succ n =>
      simp only [wpLoop] at hw
      refine trS_sound hs hc hm b hh Lh _ _ _ _ k2 _ e a w _ hw hl2 H2 ?_
      rintro z e' a' w' hl' hq ⟨L', hz, H'⟩
      cases z with
      | n =>
        have hJ : J a' w' n := ⟨e', hq, hl', H'.mono (stOf_mono (subB_bit (k3 L' hz)))⟩
        refine ⟨⟨n, hJ⟩, ?_⟩
        have := hμ a' w' ⟨n, hJ⟩
        have hle : ¬ n < μ a' w' := fun q => this.2 n q hJ
        show μ a' w' < n + 1
        omega
      | ex id => exact hk (.ex id) e' a' w' hl' hq ⟨L', hz, H'⟩
      | r => exact hk .r e' a' w' hl' hq ⟨L', hz, H'⟩
  | .exit id, hh, L, s, hh', nrm, exs => fun ht Q e a w Qc hQ hl H hk => by
    simp only [trS, Option.some.injEq, Prod.mk.injEq] at ht
    obtain ⟨rfl, rfl, rfl, rfl⟩ := ht
    exact wp_exit (hk (.ex id) e a w hl hQ ⟨L, by simp, H⟩)
  | .ret, hh, L, s, hh', nrm, exs => fun ht Q e a w Qc hQ hl H hk => by
    simp only [trS] at ht
    split at ht
    · rename_i hr
      simp only [Option.some.injEq, Prod.mk.injEq] at ht
      obtain ⟨rfl, rfl, rfl, rfl⟩ := ht
      exact wp_ret (hk .r e a w hl hQ ⟨L, fun i hi => List.all_eq_true.1 hr i hi, H⟩)
    · simp at ht
  | .cond (.const _) _ _, _, _, _, _, _, _ => fun ht => by simp [trS] at ht
  | .cond (.global _) _ _, _, _, _, _, _, _ => fun ht => by simp [trS] at ht
  | .cond (.func _) _ _, _, _, _, _, _, _ => fun ht => by simp [trS] at ht
  | .rangeFunc .., _, _, _, _, _, _ => fun ht => by simp [trS] at ht
  | .scope _, _, _, _, _, _, _ => fun ht => by simp [trS] at ht
  | .label _, _, _, _, _, _, _ => fun ht => by simp [trS] at ht
  | .goto _, _, _, _, _, _, _ => fun ht => by simp [trS] at ht
  | .refuse _, _, _, _, _, _, _ => fun ht => by simp [trS] at ht
end

/-! ### A function -/

/-- A function in the little language: how many parameters, how many variables, which of them are the results, the body. -/
structure IF where
  np : Nat
  nv : Nat
  res : List Nat
  body : S

/-- What the body gives: the results, at each of its ends. -/
def Body (K : Nat → List D → List D → Prop) (f : IF) (ds rs : List D) : Prop :=
  ds.length = f.np ∧ wpS K f.body (fun x e => (match x with | .ex _ => False | _ => True) ∧ rs = f.res.map e.E) (ds ++ List.replicate (f.nv - f.np) .u)

def resIdx (vt : VT) : List ResultVar → Option (List Nat)
  | [] => some []
  | .tmp t :: r => (idxOf vt t).bind fun i => (resIdx vt r).map (i :: ·)
  | .cell .. :: _ => none

def parsOK (vt : VT) (ps : List Sh) : Bool := ps.zipIdx.all fun x => vt[x.2]? == some (x.2, x.1)

def shOK (vt : VT) (res : List Nat) (qs : List Sh) : Bool := res.length == qs.length && (res.zip qs).all fun x => (vt[x.1]?).map (·.2) == some x.2

def nrmOK (res : List Nat) : Option Nat → Bool
  | some L => res.all (fun i => L.testBit i)
  | none => true

/-- The translation of a function. -/
def trF (cf : CF) (sg : Nat → Option Sg) (vt : VT) (hl : HL) (fn : Func) (s : Sg) : Option IF :=
  match fn.body with
  | none => none
  | some code => (resIdx vt fn.results.toList).bind fun res => (trS cf sg vt (res ++ s.io) code hl (2 ^ s.ps.length - 1)).bind fun r =>
    if s.ps.length ≤ vt.length ∧ s.ps.length ≤ fn.ntmps ∧ parsOK vt s.ps = true ∧ shOK vt (res ++ s.io) s.outs = true ∧ (res ++ s.io).Nodup ∧ r.2.2.2 = [] ∧ nrmOK (res ++ s.io) r.2.2.1 = true ∧ cf.nt = fn.ntmps ∧
        (s.io.all fun i => cf.fx.contains i && decide (i < s.ps.length)) = true ∧ res.length = s.qs.length then
      some ⟨s.ps.length, vt.length, res ++ s.io, r.1⟩
    else none

theorem resIdx_spec {vt : VT} : ∀ {l : List ResultVar} {res : List Nat}, resIdx vt l = some res → l.length = res.length ∧ ∀ (j i : Nat), res[j]? = some i → ∃ t s, vt[i]? = some (t, s) ∧ l[j]? = some (ResultVar.tmp t)
  | [], res, h => by simp only [resIdx, Option.some.injEq] at h; subst h; simp
  | .tmp t :: l, res, h => by
    simp only [resIdx, Option.bind_eq_some_iff, Option.map_eq_some_iff] at h
    obtain ⟨i, hi, r, hr, rfl⟩ := h
    obtain ⟨e1, e2⟩ := resIdx_spec hr
    refine ⟨by simp [e1], fun j k hj => ?_⟩
    cases j with
    | zero =>
      simp at hj; subst hj
      obtain ⟨s, hs⟩ := idxOf_spec hi
      exact ⟨t, s, hs, by simp⟩
    | succ j => simpa using e2 j k (by simpa using hj)
  | .cell .. :: l, res, h => by simp [resIdx] at h

theorem testBit_ones {n i : Nat} : (2 ^ n - 1).testBit i = decide (i < n) := Nat.testBit_two_pow_sub_one n i

theorem EachS.of {R : Sh → D → Value → List Nat → Prop} {E : Nat → D} {vs : Nat → Value} {Bs : Nat → List Nat} : ∀ (res : List Nat) (qs : List Sh), res.length = qs.length →
    (∀ (j i : Nat) (q : Sh), res[j]? = some i → qs[j]? = some q → R q (E i) (vs i) (Bs i)) → EachS R qs (res.map E) (res.map vs) (res.flatMap Bs)
  | [], [], _, _ => by simp [EachS]
  | i :: res, q :: qs, hl, h => by
    simp only [List.map_cons, List.flatMap_cons, EachS]
    exact ⟨Bs i, res.flatMap Bs, rfl, h 0 i q (by simp) (by simp), EachS.of res qs (by simpa using hl) fun j k r h1 h2 => h (j + 1) k r (by simpa using h1) (by simpa using h2)⟩
  | [], _ :: _, hl, _ => by simp at hl
  | _ :: _, [], hl, _ => by simp at hl

theorem run_results {P : Program} {w : World} {tm : Array Value} : ∀ (l : List ResultVar) (vals : List Value), l.length = vals.length → (∀ (j : Nat) (v : Value), vals[j]? = some v → ∃ t, l[j]? = some (ResultVar.tmp t) ∧ tm.getD t undef = v) →
    (l.mapM (fun (x : ResultVar) => match x with | .tmp t => (Pure.pure (tm.getD t undef) : Sem Value) | .cell a t => do loadVar t (← asAddr (tm.getD a undef)))).run P w = .ok vals w
  | [], [], _, _ => rfl
  | r :: l, v :: vals, hl, h => by
    obtain ⟨t, h1, h2⟩ := h 0 v (by simp)
    simp only [List.getElem?_cons_zero, Option.some.injEq] at h1
    subst h1
    rw [List.mapM_cons, Sem.run_bind]
    simp only [Sem.run_pure, Result.andThen, Sem.run_bind]
    rw [run_results l vals (by simpa using hl) fun j v hj => by simpa using h (j + 1) v (by simpa using hj)]
    simp [h2]
  | [], _ :: _, hl, _ => by simp at hl
  | _ :: _, [], hl, _ => by simp at hl

section
variable {cf : CF} {sg : Nat → Option Sg} {K : Nat → List D → List D → Prop} {vt : VT}

theorem tupled_of (l : List Value) : tupled (if h : l.toArray.size = 1 then l.toArray[0] else .tuple l.toArray) l := by
  match l with
  | [] => simp [tupled]
  | [x] => simp [tupled]
  | x :: y :: l => simp [tupled]

theorem flat_nodup {Bs : Nat → List Nat} : ∀ {res : List Nat}, res.Nodup → (∀ i ∈ res, (Bs i).Nodup) → (∀ i ∈ res, ∀ j ∈ res, i ≠ j → ∀ b ∈ Bs i, b ∉ Bs j) → (res.flatMap Bs).Nodup
  | [], _, _, _ => by simp
  | i :: res, hn, h1, h2 => by
    simp only [List.flatMap_cons]
    obtain ⟨q1, q2⟩ := List.nodup_cons.1 hn
    refine List.nodup_append.2 ⟨h1 i (List.mem_cons_self ..), flat_nodup q2 (fun j hj => h1 j (List.mem_cons_of_mem _ hj)) (fun j hj k hk => h2 j (List.mem_cons_of_mem _ hj) k (List.mem_cons_of_mem _ hk)), ?_⟩
    intro b hb b' hb' e
    subst e
    obtain ⟨m, hm, hb'⟩ := List.mem_flatMap.1 hb'
    exact h2 i (List.mem_cons_self ..) m (List.mem_cons_of_mem _ hm) (fun e => q1 (e ▸ hm)) b hb hb'

/-- THE CONTRACT OF A FUNCTION, from its body. -/
theorem con_of_body (hs : Sound cf sg K) (hm : cf.P.follows .mixedOrders = true) (hgof : ∀ f k, cf.gof f = some k → cf.fid k = f) {hl : HL} {fn : Func} {s : Sg} {f : IF} {fi : FuncId}
    (ht : trF cf sg vt hl fn s = some f) (hfn : cf.P.funcs[fi]? = some fn) {ds rs : List D} (hb : Body K f ds rs) : Con cf.P cf.fid fi s ds rs := by
  intro w X args B hB hX hargs
  unfold trF at ht
  split at ht
  · simp at ht
  · rename_i code hcode
    simp only [Option.bind_eq_some_iff] at ht
    obtain ⟨res, hres, ⟨st, hl2, nrm, exs⟩, htr, ht⟩ := ht
    split at ht
    · rename_i hcond
      obtain ⟨c1, c2, c3, c4, c5, c6, c7, c8, c9, c10⟩ := hcond
      simp only [List.all_eq_true, Bool.and_eq_true, List.contains_eq_mem, decide_eq_true_eq] at c9
      simp only [Option.some.injEq] at ht
      subst ht
      subst c6
      obtain ⟨hdl, hwp⟩ := hb
      obtain ⟨l1, l2, bf, k1, k2, k3, k4⟩ := EachS.fn hargs hB
      let c : Cx := ⟨cf.P, cf.fid, w, (· ∈ B), X, cf.nt, s.io.map fun i => (i, args.getD i undef), hX⟩
      have hc : cf.Fits c := ⟨rfl, rfl, rfl, hgof, by
        intro x hx
        obtain ⟨i, hi, rfl⟩ := List.mem_map.1 hx
        exact (c9 i hi).1⟩
      let a0 : Act := { tmps := args.toArray ++ Array.replicate (fn.ntmps - args.toArray.size) undef, defers := [] }
      let e0 : Env := ds ++ List.replicate (vt.length - s.ps.length) D.u
      have he0 : e0.length = vt.length := by simp [e0]; omega
      have pv : ∀ i t sh, vt[i]? = some (t, sh) → (2 ^ s.ps.length - 1).testBit i = true → i < s.ps.length ∧ t = i ∧ s.ps[i]? = some sh := by
        intro i t sh h1 h2
        rw [testBit_ones] at h2
        have hi : i < s.ps.length := by simpa using h2
        simp only [parsOK, List.all_eq_true] at c3
        have := c3 (s.ps[i], i) (List.mem_zipIdx_iff_getElem?.2 (by simp [hi]))
        simp only [beq_iff_eq] at this
        rw [h1] at this
        simp only [Option.some.injEq, Prod.mk.injEq] at this
        exact ⟨hi, this.1, by rw [this.2]; simp [hi]⟩
      have getE : ∀ i, i < ds.length → e0.E i = ds.getD i .u := by
        intro i hi
        simp [Env.E, e0, List.getD_eq_getElem?_getD, List.getElem?_append_left hi]
      have H0 : Holds c (· ∈ stOf vt (2 ^ s.ps.length - 1)) e0.E a0 w := by
        refine ⟨⟨fun i => args.getD i undef, bf, ?_, ?_, ?_, ?_, ?_, Agr.refl _ _, rfl, rfl, rfl, rfl, ?_⟩, ?fixed⟩
        case fixed =>
          intro x hx
          obtain ⟨i, hi, rfl⟩ := List.mem_map.1 hx
          have hil := (c9 i hi).2
          show (args.toArray ++ Array.replicate (fn.ntmps - args.toArray.size) undef)[i]? = _
          rw [Array.getElem?_append_left (by simp; omega)]
          simp [List.getD_eq_getElem?_getD, show i < args.length by omega]
        · intro n sh hf
          obtain ⟨i, t, s', h1, h2, h3⟩ := mem_stOf.1 hf
          rcases h3 with h3 | h3
          · simp at h3
          · injection h3 with e1 e2
            subst e1 e2
            obtain ⟨q1, q2, q3⟩ := pv n t sh h1 h2
            rw [getE n (by omega)]
            have := k1 n sh (ds.getD n .u) (args.getD n undef) q3 (by simp [List.getD_eq_getElem?_getD, show n < ds.length by omega]) (by simp [List.getD_eq_getElem?_getD, show n < args.length by omega])
            refine Own.ext (Agr.refl (fun _ => False) _) (fun _ _ q => q.elim) (fun b _ hb => ?_) _ _ _ _ (fun _ _ q => q) this
            obtain ⟨m, r, hm, hbm⟩ := hb
            obtain ⟨i2, t2, s2, g1, g2, g3⟩ := mem_stOf.1 hm
            rcases g3 with g3 | g3
            · simp at g3
            · injection g3 with e1 e2
              subst e1 e2
              exact (k2 m (by have := (pv m t2 r g1 g2).1; omega)).2 b hbm
        · intro n sh hf
          obtain ⟨i, t, s', h1, h2, h3⟩ := mem_stOf.1 hf
          rcases h3 with h3 | h3
          · simp at h3
          · injection h3 with e1 e2
            subst e1 e2
            exact (k2 n (by have := (pv n t sh h1 h2).1; omega)).1
        · intro n sh hf b hb
          obtain ⟨i, t, s', h1, h2, h3⟩ := mem_stOf.1 hf
          rcases h3 with h3 | h3
          · simp at h3
          · injection h3 with e1 e2
            subst e1 e2
            exact .inr ((k2 n (by have := (pv n t sh h1 h2).1; omega)).2 b hb)
        · intro n sh m r hf hg hne b hb hb2
          obtain ⟨i, t, s', h1, h2, h3⟩ := mem_stOf.1 hf
          obtain ⟨i2, t2, s2, g1, g2, g3⟩ := mem_stOf.1 hg
          rcases h3 with h3 | h3
          · simp at h3
          rcases g3 with g3 | g3
          · simp at g3
          injection h3 with e1 e2
          subst e1 e2
          injection g3 with e1 e2
          subst e1 e2
          have p1 := (pv n t sh h1 h2).1
          have p2 := (pv m t2 r g1 g2).1
          exact k3 n m (by omega) (by omega) hne b hb hb2
        · intro t l hf
          obtain ⟨i, t', s', h1, h2, h3⟩ := mem_stOf.1 hf
          rcases h3 with h3 | h3
          · injection h3 with e1 e2
            subst e1 e2
            obtain ⟨q1, q2, q3⟩ := pv i t s' h1 h2
            subst q2
            refine ⟨fun _ => ?_, fun q => (q (by simp [gdOK])).elim⟩
            show (args.toArray ++ Array.replicate (fn.ntmps - args.toArray.size) undef)[t]? = _
            rw [Array.getElem?_append_left (by simp; omega)]
            simp [List.getD_eq_getElem?_getD, show t < args.length by omega]
          · simp at h3
        · show (args.toArray ++ Array.replicate (fn.ntmps - args.toArray.size) undef).size = cf.nt
          simp; omega
      refine calls_of_wp hfn hcode ?_
      refine trS_sound hs hc hm code hl _ _ _ _ _ htr _ e0 a0 w _ hwp he0 H0 ?_
      rintro z e' a' w' hl' ⟨hz1, hz2⟩ ⟨L', hz, ⟨vs, Bs, H⟩, hfix⟩
      have hrL : (∃ id, z = .ex id) ∨ rOK (res ++ s.io) L' := by
        cases z with
        | n =>
          right
          have hz' : nrm = some L' := hz
          simp only [hz', nrmOK] at c7
          exact fun i hi => List.all_eq_true.1 c7 i hi
        | ex id => exact .inl ⟨id, rfl⟩
        | r => exact .inr hz
      rcases hrL with ⟨id, rfl⟩ | hrL
      · exact hz1.elim
      have hres2 := resIdx_spec hres
      simp only [shOK, Bool.and_eq_true, beq_iff_eq, List.all_eq_true] at c4
      obtain ⟨ro, hro⟩ : ∃ ro, ro = res ++ s.io := ⟨_, rfl⟩
      rw [← hro] at c4 c5 hrL hz2
      have rfact : ∀ (j i : Nat), ro[j]? = some i → ∃ t q, vt[i]? = some (t, q) ∧ s.outs[j]? = some q ∧ Fact.en i q ∈ stOf vt L' ∧ Fact.sl t (.is i []) ∈ stOf vt L' := by
        intro j i hj
        have hL := hrL i (List.mem_of_getElem? hj)
        have hjl : j < ro.length := by
          rcases Nat.lt_or_ge j ro.length with q | q
          · exact q
          · rw [List.getElem?_eq_none q] at hj; simp at hj
        have hjq : s.outs[j]? = some (s.outs[j]'(by omega)) := by simp
        have := c4.2 (i, s.outs[j]'(by omega)) (by
          rw [List.mem_iff_getElem?]
          exact ⟨j, by simp [List.getElem?_zip_eq_some, hj]⟩)
        cases hvi : vt[i]? with
        | none => rw [hvi] at this; simp at this
        | some tq =>
          obtain ⟨t, q⟩ := tq
          rw [hvi] at this
          simp at this
          exact ⟨t, q, rfl, by rw [hjq, ← this], mem_stOf.2 ⟨i, t, q, hvi, hL, .inr rfl⟩, mem_stOf.2 ⟨i, t, q, hvi, hL, .inl rfl⟩⟩
      have hv : ∀ i, i ∈ ro → ∃ q, Fact.en i q ∈ stOf vt L' := by
        intro i hi
        obtain ⟨j, hj⟩ := List.mem_iff_getElem?.1 hi
        obtain ⟨t, q, _, _, h3, _⟩ := rfact j i hj
        exact ⟨q, h3⟩
      have hBn : (ro.flatMap Bs).Nodup := by
        refine flat_nodup c5 (fun i hi => ?_) (fun i hi j hj hne b hb => ?_)
        · obtain ⟨r, hr⟩ := hv i hi; exact H.nodup i r hr
        · obtain ⟨s1, hs1⟩ := hv i hi
          obtain ⟨s2, hs2⟩ := hv j hj
          exact H.apart i s1 j s2 hs1 hs2 hne b hb
      have hio : s.io.map vs = s.io.map fun i => args.getD i undef := by
        apply List.map_congr_left
        intro i hi
        have hmem : i ∈ ro := by rw [hro]; exact List.mem_append_right _ hi
        obtain ⟨j, hj⟩ := List.mem_iff_getElem?.1 hmem
        obtain ⟨t, q, h1, _, _, h4⟩ := rfact j i hj
        obtain ⟨_, rfl, _⟩ := pv i t q h1 (by rw [testBit_ones]; simpa using (c9 i hi).2)
        have e1 := (H.loc t _ h4).1 (by simp [gdOK])
        have e2 := hfix (t, args.getD t undef) (List.mem_map.2 ⟨t, hi, rfl⟩)
        rw [e1] at e2
        injection e2
      have hEach : EachS (Own cf.fid w'.heap (· ∈ ro.flatMap Bs) X) s.outs rs (res.map vs ++ s.io.map fun i => args.getD i undef) (ro.flatMap Bs) := by
        rw [hz2, ← hio, ← List.map_append, ← hro]
        refine EachS.of ro s.outs c4.1 fun j i q h1 h2 => ?_
        obtain ⟨t, q', _, h4, h5, _⟩ := rfact j i h1
        rw [h2] at h4; injection h4 with h4; subst h4
        refine Own.ext (Agr.refl (fun _ => False) _) (fun _ _ q => q.elim) (fun b _ hb => ?_) _ _ _ _ (fun _ _ q => q) (H.own i q h5)
        obtain ⟨m, hm, hb⟩ := List.mem_flatMap.1 hb
        obtain ⟨r, hr⟩ := hv m hm
        exact ⟨m, r, hr, hb⟩
      have hvals : ∀ (j : Nat) (v : Value), (res.map vs)[j]? = some v → ∃ t, fn.results.toList[j]? = some (ResultVar.tmp t) ∧ a'.tmps.getD t undef = v := by
        intro j v hj
        simp only [List.getElem?_map, Option.map_eq_some_iff] at hj
        obtain ⟨i, hi, rfl⟩ := hj
        obtain ⟨t, s1, h1, h7⟩ := hres2.2 j i hi
        have hj2 : ro[j]? = some i := by
          rw [hro, List.getElem?_append_left]
          · exact hi
          · rcases Nat.lt_or_ge j res.length with q | q
            · exact q
            · rw [List.getElem?_eq_none q] at hi; simp at hi
        obtain ⟨t2, q, h1', _, _, h6⟩ := rfact j i hj2
        rw [h1] at h1'
        simp only [Option.some.injEq, Prod.mk.injEq] at h1'
        obtain ⟨rfl, rfl⟩ := h1'
        refine ⟨t, h7, ?_⟩
        have := (H.loc t _ h6).1 (by simp [gdOK])
        simp [Array.getD_eq_getD_getElem?, this]
      have hrun : (results fn a'.tmps).run cf.P w' = .ok (if h : (res.map vs).toArray.size = 1 then (res.map vs).toArray[0] else .tuple (res.map vs).toArray) w' := by
        unfold results
        rw [Sem.run_bind]
        have e1 := run_results (P := cf.P) (w := w') (tm := a'.tmps) fn.results.toList (res.map vs) (by simp [hres2.1]) hvals
        rw [Array.mapM_eq_mapM_toList, Sem.run_map]
        erw [e1]
        rfl
      have hQ : ∃ v, (results fn a'.tmps).run cf.P w' = .ok v w' ∧ ∃ v_1 vs_1 B', Ending.returned v = .returned v_1 ∧ tupled v_1 vs_1 ∧ vs_1.length = s.qs.length ∧ Agr (· ∈ B) w.heap w'.heap ∧ w'.os = w.os ∧ w'.tape = w.tape ∧ w'.output = w.output ∧
          B'.Nodup ∧ (∀ b ∈ B', b ∈ B ∨ w.heap.size ≤ b) ∧ EachS (Own cf.fid w'.heap (· ∈ B') X) s.outs rs (vs_1 ++ s.io.map fun i => args.getD i undef) B' := by
        refine ⟨_, hrun, _, res.map vs, ro.flatMap Bs, rfl, ?_, by simp [c10], H.agr, H.os, H.tape, H.output, hBn, ?_, hEach⟩
        · exact tupled_of _
        · intro b hb
          obtain ⟨m, hm, hb⟩ := List.mem_flatMap.1 hb
          obtain ⟨r, hr⟩ := hv m hm
          exact (H.mine m r hr b hb).symm
      cases z with
      | n => exact ⟨H.defers, hQ⟩
      | ex id => exact hz1.elim
      | r => exact ⟨H.defers, hQ⟩
    · simp at ht
end
end Go.Cat
