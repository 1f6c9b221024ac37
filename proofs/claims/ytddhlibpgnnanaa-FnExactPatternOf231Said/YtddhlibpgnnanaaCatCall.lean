/-
  Contracts, and the call of a function by its contract.
-/
import Derived.Test.YtddhlibpgnnanaaCatOpC
namespace Go.Cat

def EachS (R : Sh → D → Value → List Nat → Prop) : List Sh → List D → List Value → List Nat → Prop
  | [], [], [], B => B = []
  | s :: ss, d :: ds, v :: vs, B => ∃ B1 B2, B = B1 ++ B2 ∧ R s d v B1 ∧ EachS R ss ds vs B2
  | _, _, _, _ => False

/-- How results lie in the value that a call gives back. -/
def tupled (v : Value) : List Value → Prop
  | [x] => v = x
  | xs => v = .tuple xs.toArray

/-- The signatures: the shapes of parameters and results, by the functions' own numbers; 'io': the parameters that are handed back, their elements turned, behind the results. -/
structure Sg where
  ps : List Sh
  qs : List Sh
  io : List Nat := []

/-- The shapes of all that is handed back. -/
def Sg.outs (s : Sg) : List Sh := s.qs ++ s.io.map fun i => s.ps.getD i .v

/-- THE CONTRACT: function f, called with the data, in whatever memory, gives the results: all that it hands over is new or was handed over to it, and nothing else has turned. -/
def Con (P : Program) (fid : Nat → Nat) (f : FuncId) (s : Sg) (ds rs : List D) : Prop :=
  ∀ (w : World) (X : Nat → Prop) (args : List Value) (B : List Nat), B.Nodup → (∀ b, X b → b < w.heap.size ∧ b ∉ B) →
    EachS (Own fid w.heap (· ∈ B) X) s.ps ds args B →
    Calls P f args.toArray w fun e w' => ∃ v vs B', e = .returned v ∧ tupled v vs ∧ vs.length = s.qs.length ∧ Agr (· ∈ B) w.heap w'.heap ∧ w'.os = w.os ∧ w'.tape = w.tape ∧ w'.output = w.output ∧
      B'.Nodup ∧ (∀ b ∈ B', b ∈ B ∨ w.heap.size ≤ b) ∧ EachS (Own fid w'.heap (· ∈ B') X) s.outs rs (vs ++ s.io.map fun i => args.getD i undef) B'

def okR : Sh → Bool
  | .v => true
  | .y => false
  | .o s => okR s

theorem RdL.mono {fid : Nat → Nat} {h : Array Obj} {Z Z' : Nat → Prop} {ds : List D} {vs : List Value} (r : RdL fid h Z ds vs) (hZ : ∀ b, b < h.size → Z' b → Z b) : RdL fid h Z' ds vs :=
  RdL.ext (S := fun _ => False) (Agr.refl _ h) (fun _ _ q => q.elim) hZ ds vs r

/-- Whatever is owned, or readable, reads outside all that does not meet it. -/
theorem Own.reads {fid : Nat → Nat} {h : Array Obj} {O X Z : Nat → Prop} (hZ : ∀ b, b < h.size → Z b → O b) : ∀ (s : Sh) (d : D) (v : Value) (B : List Nat), (∀ b ∈ B, ¬ Z b) →
    Own fid h O X s d v B → Rd fid h Z d v
  | .v, d, v, B => fun _ r => by
    simp only [Own] at r
    exact r.2.mono fun b hb q => .inl (hZ b hb q)
  | .y, d, v, B => fun _ r => by
    simp only [Own] at r
    exact r.2.mono hZ
  | .o s, d, v, B => fun hB r => by
    simp only [Own] at r
    rcases r with ⟨rfl, _⟩ | ⟨xs, rfl, r⟩
    · simp [Rd]
    · simp only [Rd]
      rcases r with r | ⟨b, off, cap, cs, e, fz, B', rfl, hv, hb, ht, h1, h2, h3, he⟩
      · exact .inl ⟨r.2.1, r.1⟩
      · refine .inr ⟨b, off, cap, cs, e, fz, hv, hb, hB b (by simp), ?_, h1, h3⟩
        have hB' : ∀ b ∈ B', ¬ Z b := fun b hb => hB b (by simp [hb])
        clear hv hb h1 h2 h3 hB ht
        generalize cs.toList.drop off = vs at he
        induction xs generalizing vs B' with
        | nil => simp [RdL]
        | cons d ds ih =>
          cases vs with
          | nil => simp [Each] at he
          | cons v vs =>
            simp only [Each] at he
            obtain ⟨B1, B2, rfl, h1, h2⟩ := he
            simp only [RdL]
            exact ⟨Own.reads hZ s d v B1 (fun b hb => hB' b (List.mem_append_left _ hb)) h1, ih B2 (fun b hb => hB' b (List.mem_append_right _ hb)) _ h2⟩

/-- What a result's memory avoids. -/
theorem Own.okR {fid : Nat → Nat} {h : Array Obj} {O O' X X' : Nat → Prop} (hZ : ∀ b, b < h.size → O' b ∨ X' b → O b ∨ X b) : ∀ (s : Sh) (d : D) (v : Value) (B : List Nat), okR s = true →
    Own fid h O X s d v B → Own fid h O' X' s d v B
  | .v, d, v, B => fun _ r => by
    simp only [Own] at r ⊢
    exact ⟨r.1, r.2.mono hZ⟩
  | .y, _, _, _ => fun h => by simp [Cat.okR] at h
  | .o s, d, v, B => fun hs r => by
    simp only [Own] at r ⊢
    rcases r with r | ⟨xs, hd, r⟩
    · exact .inl r
    · refine .inr ⟨xs, hd, ?_⟩
      rcases r with r | ⟨b, off, cap, cs, e, fz, B', hBB, hv, hb, ht, h1, h2, h3, he⟩
      · exact .inl r
      · exact .inr ⟨b, off, cap, cs, e, fz, B', hBB, hv, hb, ht, h1, h2, h3, Each.imp (fun d v B1 _ => Own.okR hZ s d v B1 (by simpa [Cat.okR] using hs)) he⟩

theorem Own.weak {fid : Nat → Nat} {h : Array Obj} {O O' X X' : Nat → Prop} (hO : ∀ b, b < h.size → O' b → O b) (hZ : ∀ b, b < h.size → X' b → O b ∨ X b) : ∀ (s : Sh) (d : D) (v : Value) (B : List Nat),
    Own fid h O X s d v B → Own fid h O' X' s d v B
  | .v, d, v, B => fun r => by
    simp only [Own] at r ⊢
    exact ⟨r.1, r.2.mono fun b hb q => q.elim (fun q => .inl (hO b hb q)) (hZ b hb)⟩
  | .y, d, v, B => fun r => by
    simp only [Own] at r ⊢
    exact ⟨r.1, r.2.mono hO⟩
  | .o s, d, v, B => fun r => by
    simp only [Own] at r ⊢
    rcases r with r | ⟨xs, hd, r⟩
    · exact .inl r
    · refine .inr ⟨xs, hd, ?_⟩
      rcases r with r | ⟨b, off, cap, cs, e, fz, B', hBB, hv, hb, ht, h1, h2, h3, he⟩
      · exact .inl r
      · exact .inr ⟨b, off, cap, cs, e, fz, B', hBB, hv, hb, ht, h1, h2, h3, Each.imp (fun d v B1 _ => Own.weak hO hZ s d v B1) he⟩

theorem EachS.fn {R : Sh → D → Value → List Nat → Prop} : ∀ {ss : List Sh} {ds : List D} {vs : List Value} {B : List Nat}, EachS R ss ds vs B → B.Nodup →
    ss.length = ds.length ∧ vs.length = ds.length ∧ ∃ bf : Nat → List Nat, (∀ j s d v, ss[j]? = some s → ds[j]? = some d → vs[j]? = some v → R s d v (bf j)) ∧
      (∀ j, j < ds.length → (bf j).Nodup ∧ ∀ b ∈ bf j, b ∈ B) ∧ (∀ i j, i < ds.length → j < ds.length → i ≠ j → ∀ b ∈ bf i, b ∉ bf j) ∧ (∀ b ∈ B, ∃ j, j < ds.length ∧ b ∈ bf j)
  | [], [], [], B => fun h _ => by
    simp only [EachS] at h
    subst h
    exact ⟨rfl, rfl, fun _ => [], by simp, by simp, by simp, by simp⟩
  | s :: ss, d :: ds, v :: vs, B => fun h hn => by
    simp only [EachS] at h
    obtain ⟨B1, B2, rfl, h1, h2⟩ := h
    obtain ⟨n1, n2, n3⟩ := List.nodup_append.1 hn
    obtain ⟨e1, e2, bf, k1, k2, k3, k4⟩ := EachS.fn h2 n2
    refine ⟨by simp [e1], by simp [e2], fun j => match j with | 0 => B1 | j + 1 => bf j, ?_, ?_, ?_, ?_⟩
    · intro j s' d' v' a1 a2 a3
      cases j with
      | zero => simp at a1 a2 a3; subst a1 a2 a3; exact h1
      | succ j => exact k1 j s' d' v' (by simpa using a1) (by simpa using a2) (by simpa using a3)
    · intro j hj
      cases j with
      | zero => exact ⟨n1, fun b hb => List.mem_append_left _ hb⟩
      | succ j => exact ⟨(k2 j (by simpa using hj)).1, fun b hb => List.mem_append_right _ ((k2 j (by simpa using hj)).2 b hb)⟩
    · intro i j hi hj hne b hb1 hb2
      cases i with
      | zero =>
        cases j with
        | zero => exact hne rfl
        | succ j => exact n3 b hb1 b ((k2 j (by simpa using hj)).2 b hb2) rfl
      | succ i =>
        cases j with
        | zero => exact n3 b hb2 b ((k2 i (by simpa using hi)).2 b hb1) rfl
        | succ j => exact k3 i j (by simpa using hi) (by simpa using hj) (fun e => hne (by rw [e])) b hb1 hb2
    · intro b hb
      rcases List.mem_append.1 hb with hb | hb
      · exact ⟨0, by simp, hb⟩
      · obtain ⟨j, hj, hb⟩ := k4 b hb
        exact ⟨j + 1, by simpa using hj, hb⟩
  | [], [], _ :: _, _ => fun h => by simp [EachS] at h
  | [], _ :: _, _, _ => fun h => by simp [EachS] at h
  | _ :: _, [], _, _ => fun h => by simp [EachS] at h
  | _ :: _, _ :: _, [], _ => fun h => by simp [EachS] at h

/-- One argument: what it is for the data; the entry that it hands over, if it does; the entry that it reads. -/
def trArg (cf : CF) (st : List Fact) (g : Gd) (x : Operand) (s : Sh) : Option (A × List Nat × List Nat × List Fact) :=
  match s with
  | .y => (opA cf st g x).map fun a => (a.1, [], (match a.1 with | .e n => [n] | .c _ => []), a.2.2)
  | .v => (opA cf st g x).bind fun a => if a.2.1 = .v then some (a.1, [], [], a.2.2) else none
  | .o s => (opA cf st g x).bind fun a => match a.1 with
    | .e n => if a.2.1 = .o s then some (a.1, [n], [], a.2.2) else none
    | .c _ => none

def trArgs (cf : CF) (st : List Fact) (g : Gd) : List Operand → List Sh → Option (List A × List Nat × List Nat × List Fact)
  | [], [] => some ([], [], [], [])
  | x :: xs, s :: ss => (trArg cf st g x s).bind fun a => (trArgs cf st g xs ss).map fun r => (a.1 :: r.1, a.2.1 ++ r.2.1, a.2.2.1 ++ r.2.2.1, a.2.2.2 ++ r.2.2.2)
  | _, _ => none

def ents (cnt : Nat) (qs : List Sh) : List Fact := qs.zipIdx.map fun x => .en (cnt + x.2) x.1

def callL (cnt : Nat) (n : Nat) (g : Gd) : Loc := if n = 1 then .is cnt g else .tu ((List.range n).map (cnt + ·)) g

def isKilled (ks : List Nat) : Option A → Bool
  | some (.e n) => ks.contains n
  | _ => false

/-- The slots that hold what was handed over, and is handed back. -/
def ioSlots (st : List Fact) (dst : Option Nat) (As : List A) (io : List Nat) : List (Nat × Gd × Nat × Nat) :=
  io.zipIdx.flatMap fun (x : Nat × Nat) => match As[x.1]? with
    | some (.e n) => (slotsOf st n).filterMap fun y => if some y.1 = dst then none else some (y.1, y.2, n, x.2)
    | _ => []

def trCallTo (cf : CF) (sg : Nat → Option Sg) (st : List Fact) (cnt : Nat) (o : Oper) (g : Gd) (k : Nat) (xs : List Operand) : Option (Pr × Sm) :=
  (sg k).bind fun s => (trArgs cf st g xs s.ps).bind fun r =>
    if r.2.1.Nodup ∧ (∀ n ∈ r.2.2.1, n ∉ r.2.1) ∧ (∀ q ∈ s.outs, okR q = true) ∧ inB o.dst cf.nt = true ∧ (s.io.all fun i => isKilled r.2.1 r.1[i]?) = true then
      some (.ca k r.1 s.outs.length, ⟨r.2.2.2 ++ (ioSlots st o.dst r.1 s.io).map fun x => .sl x.1 (.is x.2.2.1 x.2.1), r.2.1, ents cnt s.outs ++ (match o.dst with
        | some t => [.sl t (callL cnt s.qs.length g)]
        | none => []) ++ (ioSlots st o.dst r.1 s.io).map fun x => .sl x.1 (.is (cnt + s.qs.length + x.2.2.2) x.2.1)⟩)
    else none

/-- What the checker is told of the callees is true of the program. -/
structure Sound (cf : CF) (sg : Nat → Option Sg) (K : Nat → List D → List D → Prop) : Prop where
  con : ∀ k ds rs s, K k ds rs → sg k = some s → Con cf.P cf.fid (cf.fid k) s ds rs
  enter : ∀ k s, sg k = some s → ∀ args w, (callFunc (cf.fid k) args).run cf.P w = .ok (.enter (cf.fid k) args) w

section
variable {cf : CF} {c : Cx} {F : Fact → Prop} {E : Nat → D} {a : Act} {w : World} {vs : Nat → Value} {Bs : Nat → List Nat} {g : Gd} {st : List Fact}

theorem findEn_mem {st : List Fact} {n : Nat} {s : Sh} (h : findEn st n = some s) : Fact.en n s ∈ st := by
  induction st with
  | nil => simp [findEn] at h
  | cons f r ih =>
    cases f with
    | sl n s => simp only [findEn] at h; exact List.mem_cons_of_mem _ (ih h)
    | en u k =>
      simp only [findEn] at h
      split at h
      · rename_i e; injection h with h; subst e h; exact List.mem_cons_self ..
      · exact List.mem_cons_of_mem _ (ih h)

/-- The arguments of a call, as the callee asks for them. -/
theorem trArgs_sound (hc : cf.Fits c) (H : HoldsG c F E a w vs Bs) (hg : gdOK E g) (ks : List Nat) (hks : ∀ n ∈ ks, alive F n) (X' : Nat → Prop)
    (hX' : ∀ b, b < w.heap.size → X' b → OB F Bs b ∨ c.Xb b) : ∀ (xs : List Operand) (ss : List Sh) (As : List A) (k2 rd : List Nat) (ns : List Fact),
    trArgs cf st g xs ss = some (As, k2, rd, ns) → (∀ f ∈ ns, F f) → (∀ n ∈ k2, n ∈ ks) → (∀ n ∈ rd, n ∉ ks) →
    EachS (Own c.fid w.heap (· ∈ ks.flatMap Bs) X') ss (As.map (ev E)) (xs.map a.eval) (k2.flatMap Bs)
  | [], [], As, k2, rd, ns => fun h _ _ _ => by
    simp only [trArgs, Option.some.injEq, Prod.mk.injEq] at h
    obtain ⟨rfl, rfl, _, _⟩ := h
    simp [EachS]
  | x :: xs, s :: ss, As, k2, rd, ns => fun h hn hk hr => by
    simp only [trArgs, Option.bind_eq_some_iff, Option.map_eq_some_iff] at h
    obtain ⟨⟨A1, kk, rr, n1⟩, h1, ⟨As2, k3, rd2, n2⟩, h2, h3⟩ := h
    simp only [Prod.mk.injEq] at h3
    obtain ⟨rfl, rfl, rfl, rfl⟩ := h3
    have ih := trArgs_sound hc H hg ks hks X' hX' xs ss As2 k3 rd2 n2 h2 (fun f hf => hn f (List.mem_append_right _ hf)) (fun n h => hk n (List.mem_append_right _ h)) (fun n h => hr n (List.mem_append_right _ h))
    have hO : ∀ b, b < w.heap.size → b ∈ ks.flatMap Bs → OB F Bs b := by
      intro b _ hb
      obtain ⟨n, hn, hb⟩ := List.mem_flatMap.1 hb
      obtain ⟨s, hs⟩ := hks n hn
      exact ⟨n, s, hs, hb⟩
    simp only [List.map_cons, EachS]
    refine ⟨kk.flatMap Bs, k3.flatMap Bs, by simp, ?_, ih⟩
    cases s with
    | y =>
      simp only [trArg, Option.map_eq_some_iff] at h1
      obtain ⟨⟨A2, s2, n3⟩, h4, h5⟩ := h1
      simp only [Prod.mk.injEq] at h5
      obtain ⟨rfl, rfl, rfl, rfl⟩ := h5
      obtain ⟨B1, o1, o2⟩ := opA_sound hc h4 H (fun f hf => hn f (List.mem_append_left _ hf)) hg
      simp only [Own]
      refine ⟨by simp, Own.reads hO s2 _ _ B1 ?_ o1⟩
      intro b hb hb2
      obtain ⟨m, hm, hb2⟩ := List.mem_flatMap.1 hb2
      cases A2 with
      | c d =>
        have : B1 = [] := by
          cases x with
          | const v =>
            simp only [opA, Option.map_eq_some_iff, Prod.mk.injEq] at h4
            obtain ⟨_, _, _, rfl, _⟩ := h4
            simp only [Own] at o1; exact o1.1
          | func f =>
            simp only [opA, Option.map_eq_some_iff, Prod.mk.injEq] at h4
            obtain ⟨_, _, _, rfl, _⟩ := h4
            simp only [Own] at o1; exact o1.1
          | global _ => simp [opA] at h4
          | tmp t =>
            simp only [opA] at h4
            split at h4
            · split at h4
              · simp only [Option.map_eq_some_iff, Prod.mk.injEq] at h4
                obtain ⟨_, _, h, _⟩ := h4
                simp at h
              · simp at h4
            · simp at h4
        subst this; simp at hb
      | e n =>
        obtain ⟨f1, f2, f3⟩ := o2 n rfl
        subst f3
        have hne : n ≠ m := fun e => hr n (by simp) (e ▸ hm)
        obtain ⟨r, hr2⟩ := hks m hm
        exact H.apart n s2 m r f1 hr2 hne b hb hb2
    | v =>
      simp only [trArg, Option.bind_eq_some_iff] at h1
      obtain ⟨⟨A2, s2, n3⟩, h4, h5⟩ := h1
      simp only at h5
      split at h5
      · rename_i hv
        subst hv
        simp only [Option.some.injEq, Prod.mk.injEq] at h5
        obtain ⟨rfl, rfl, rfl, rfl⟩ := h5
        obtain ⟨B1, o1, o2⟩ := opA_sound hc h4 H (fun f hf => hn f (List.mem_append_left _ hf)) hg
        simp only [Own] at o1 ⊢
        exact ⟨by simp, o1.2.mono fun b hb q => q.elim (fun q => .inl (hO b hb q)) (hX' b hb)⟩
      · simp at h5
    | o s =>
      simp only [trArg, Option.bind_eq_some_iff] at h1
      obtain ⟨⟨A2, s2, n3⟩, h4, h5⟩ := h1
      cases A2 with
      | c d => simp at h5
      | e n =>
        simp only at h5
        split at h5
        · rename_i hv
          subst hv
          simp only [Option.some.injEq, Prod.mk.injEq] at h5
          obtain ⟨rfl, rfl, rfl, rfl⟩ := h5
          obtain ⟨B1, o1, o2⟩ := opA_sound hc h4 H (fun f hf => hn f (List.mem_append_left _ hf)) hg
          obtain ⟨f1, f2, f3⟩ := o2 n rfl
          subst f3
          have := Own.weak hO hX' _ _ _ _ o1
          rw [show [n].flatMap Bs = Bs n from by simp]
          exact this
        · simp at h5
  | [], _ :: _, _, _, _, _ => fun h => by simp [trArgs] at h
  | _ :: _, [], _, _, _, _ => fun h => by simp [trArgs] at h

theorem range_get {n j : Nat} (h : j < n) : (List.range n)[j]? = some j := by simp [h]

theorem mem_ents {cnt : Nat} {qs : List Sh} {f : Fact} : f ∈ ents cnt qs ↔ ∃ j q, qs[j]? = some q ∧ f = .en (cnt + j) q := by
  unfold ents
  simp only [List.mem_map, Prod.exists, List.mem_zipIdx_iff_getElem?]
  constructor
  · rintro ⟨q, j, h, rfl⟩; exact ⟨j, q, h, rfl⟩
  · rintro ⟨j, q, h, rfl⟩; exact ⟨q, j, h, rfl⟩

theorem ioSlots_spec {st : List Fact} {dst : Option Nat} {As : List A} {io : List Nat} {u : Nat} {gu : Gd} {n j : Nat} (h : (u, gu, n, j) ∈ ioSlots st dst As io) :
    ∃ i, io[j]? = some i ∧ As[i]? = some (.e n) ∧ some u ≠ dst := by
  unfold ioSlots at h
  simp only [List.mem_flatMap, Prod.exists] at h
  obtain ⟨i, j', h1, h2⟩ := h
  split at h2
  · rename_i m hm
    simp only [List.mem_filterMap] at h2
    obtain ⟨y, _, h3⟩ := h2
    split at h3
    · cases h3
    · rename_i hne
      simp only [Option.some.injEq, Prod.mk.injEq] at h3
      obtain ⟨rfl, rfl, rfl, rfl⟩ := h3
      exact ⟨i, by simpa using List.mem_zipIdx_iff_getElem?.1 h1, hm, hne⟩
  · simp at h2

/-- An argument that is an entry has the entry's value. -/
theorem trArgs_val (hc : cf.Fits c) (H : HoldsG c F E a w vs Bs) (hg : gdOK E g) : ∀ (xs : List Operand) (ss : List Sh) (As : List A) (k2 rd : List Nat) (ns : List Fact), trArgs cf st g xs ss = some (As, k2, rd, ns) → (∀ f ∈ ns, F f) →
    ∀ (i n : Nat), As[i]? = some (.e n) → alive F n ∧ ((xs[i]?).map a.eval).getD undef = vs n
  | [], [], As, k2, rd, ns => fun h _ i n hi => by
    simp only [trArgs, Option.some.injEq, Prod.mk.injEq] at h
    obtain ⟨rfl, _⟩ := h
    simp at hi
  | x :: xs, s :: ss, As, k2, rd, ns => fun h hn i n hi => by
    simp only [trArgs, Option.bind_eq_some_iff, Option.map_eq_some_iff] at h
    obtain ⟨⟨A1, kk, rr, n1⟩, h1, ⟨As2, k3, rd2, n2⟩, h2, h3⟩ := h
    simp only [Prod.mk.injEq] at h3
    obtain ⟨rfl, rfl, rfl, rfl⟩ := h3
    cases i with
    | succ i => simpa using trArgs_val hc H hg xs ss As2 k3 rd2 n2 h2 (fun f hf => hn f (List.mem_append_right _ hf)) i n (by simpa using hi)
    | zero =>
      simp at hi
      subst hi
      have key : ∃ s' n3, opA cf st g x = some (.e n, s', n3) ∧ ∀ f ∈ n3, f ∈ n1 := by
        cases s with
        | y =>
          simp only [trArg, Option.map_eq_some_iff] at h1
          obtain ⟨⟨A2, s2, n3⟩, h4, h5⟩ := h1
          simp only [Prod.mk.injEq] at h5
          obtain ⟨rfl, _, _, rfl⟩ := h5
          exact ⟨_, _, h4, fun _ q => q⟩
        | v =>
          simp only [trArg, Option.bind_eq_some_iff] at h1
          obtain ⟨⟨A2, s2, n3⟩, h4, h5⟩ := h1
          simp only at h5
          split at h5
          · simp only [Option.some.injEq, Prod.mk.injEq] at h5
            obtain ⟨rfl, _, _, rfl⟩ := h5
            exact ⟨_, _, h4, fun _ q => q⟩
          · cases h5
        | o s =>
          simp only [trArg, Option.bind_eq_some_iff] at h1
          obtain ⟨⟨A2, s2, n3⟩, h4, h5⟩ := h1
          cases A2 with
          | c d => simp at h5
          | e m =>
            simp only at h5
            split at h5
            · simp only [Option.some.injEq, Prod.mk.injEq] at h5
              obtain ⟨q, _, _, rfl⟩ := h5
              injection q with q; subst q
              exact ⟨_, _, h4, fun _ q => q⟩
            · cases h5
      obtain ⟨s', n3, h4, h5⟩ := key
      obtain ⟨B1, o1, o2⟩ := opA_sound hc h4 H (fun f hf => hn f (List.mem_append_left _ (h5 f hf))) hg
      obtain ⟨f1, f2, _⟩ := o2 n rfl
      exact ⟨⟨_, f1⟩, by simpa using f2⟩
  | [], _ :: _, _, _, _, _ => fun h => by simp [trArgs] at h
  | _ :: _, [], _, _, _, _ => fun h => by simp [trArgs] at h

/-- THE CALL. -/
theorem trCallTo_sound {sg : Nat → Option Sg} {K : Nat → List D → List D → Prop} (hs : Sound cf sg K) (hc : cf.Fits c) {cnt : Nat} {o : Oper} {k : Nat} {xs : List Operand} {p : Pr} {sm : Sm}
    (ht : trCallTo cf sg st cnt o g k xs = some (p, sm)) (H : HoldsG c F E a w vs Bs) (hfresh : ∀ j, j < p.np → Fresh F (cnt + j)) (hn : ∀ f ∈ sm.needs, F f) (hg : gdOK E g) (hE : EvP K E cnt p)
    (hr : (execOp a.eval o).run c.P w = (callFunc (cf.fid k) (xs.map a.eval).toArray).run c.P w) : StepOK c o sm F E a w := by
  unfold trCallTo at ht
  simp only [Option.bind_eq_some_iff] at ht
  obtain ⟨s, hsg, ⟨As, ks, rd, ns⟩, hargs, ht⟩ := ht
  simp only at ht
  split at ht
  · rename_i hcond
    obtain ⟨hnd, hrd, hok, hin, hio⟩ := hcond
    simp only [Option.some.injEq, Prod.mk.injEq] at ht
    obtain ⟨rfl, rfl⟩ := ht
    simp only at hn
    have hnAll := hn
    replace hn : ∀ f ∈ ns, F f := fun f hf => hnAll f (List.mem_append_left _ hf)
    obtain ⟨rs, hK, hlen, hrs⟩ := hE
    -- what is handed over
    have hks : ∀ n ∈ ks, alive F n := by
      have : ∀ (xs : List Operand) (ss : List Sh) (As : List A) (ks rd : List Nat) (ns : List Fact), trArgs cf st g xs ss = some (As, ks, rd, ns) → (∀ f ∈ ns, F f) → ∀ n ∈ ks, alive F n := by
        intro xs
        induction xs with
        | nil =>
          intro ss As ks rd ns h _ n hn
          cases ss with
          | nil => simp only [trArgs, Option.some.injEq, Prod.mk.injEq] at h; obtain ⟨_, rfl, _⟩ := h; simp at hn
          | cons _ _ => simp [trArgs] at h
        | cons x xs ih =>
          intro ss As ks rd ns h hF n hn
          cases ss with
          | nil => simp [trArgs] at h
          | cons s ss =>
            simp only [trArgs, Option.bind_eq_some_iff, Option.map_eq_some_iff] at h
            obtain ⟨⟨A1, kk, rr, n1⟩, h1, ⟨As2, k3, rd2, n2⟩, h2, h3⟩ := h
            simp only [Prod.mk.injEq] at h3
            obtain ⟨rfl, rfl, rfl, rfl⟩ := h3
            rcases List.mem_append.1 hn with hn | hn
            · cases s with
              | y => simp only [trArg, Option.map_eq_some_iff, Prod.mk.injEq] at h1; obtain ⟨_, _, _, rfl, _⟩ := h1; simp at hn
              | v =>
                simp only [trArg, Option.bind_eq_some_iff] at h1
                obtain ⟨_, _, h1⟩ := h1
                split at h1
                · simp only [Option.some.injEq, Prod.mk.injEq] at h1; obtain ⟨_, rfl, _⟩ := h1; simp at hn
                · simp at h1
              | o s =>
                simp only [trArg, Option.bind_eq_some_iff] at h1
                obtain ⟨⟨A2, s2, n3⟩, h4, h1⟩ := h1
                cases A2 with
                | c d => simp at h1
                | e m =>
                  simp only at h1
                  split at h1
                  · rename_i hv
                    subst hv
                    simp only [Option.some.injEq, Prod.mk.injEq] at h1
                    obtain ⟨_, rfl, _, rfl⟩ := h1
                    simp at hn; subst hn
                    obtain ⟨_, _, o2⟩ := opA_sound hc h4 H (fun f hf => hF f (List.mem_append_left _ hf)) hg
                    exact ⟨_, (o2 _ rfl).1⟩
                  · simp at h1
            · exact ih ss As2 k3 rd2 n2 h2 (fun f hf => hF f (List.mem_append_right _ hf)) n hn
      exact this xs s.ps As ks rd ns hargs hn
    have hlt : ∀ n s, F (.en n s) → ∀ b ∈ Bs n, b < w.heap.size := fun n s h => Own.blocks_lt s _ _ _ (H.own n s h)
    have hBnd : (ks.flatMap Bs).Nodup := by
      clear hargs hrd hio
      induction ks with
      | nil => simp
      | cons n ks ih =>
        simp only [List.flatMap_cons]
        obtain ⟨q1, q2⟩ := List.nodup_cons.1 hnd
        refine List.nodup_append.2 ⟨?_, ih q2 fun n hn => hks n (List.mem_cons_of_mem _ hn), ?_⟩
        · obtain ⟨s, hs⟩ := hks n (List.mem_cons_self ..); exact H.nodup n s hs
        · intro b hb b' hb' e
          subst e
          obtain ⟨m, hm, hb'⟩ := List.mem_flatMap.1 hb'
          obtain ⟨s1, hs1⟩ := hks n (List.mem_cons_self ..)
          obtain ⟨s2, hs2⟩ := hks m (List.mem_cons_of_mem _ hm)
          exact H.apart n s1 m s2 hs1 hs2 (fun e => q1 (e ▸ hm)) b hb hb'
    let X' : Nat → Prop := fun b => (c.Xb b ∨ OB F Bs b) ∧ b ∉ ks.flatMap Bs
    have hX1 : ∀ b, X' b → b < w.heap.size ∧ b ∉ ks.flatMap Bs := by
      rintro b ⟨h1, h2⟩
      refine ⟨?_, h2⟩
      rcases h1 with h1 | ⟨n, s, h3, h4⟩
      · have := (c.hX b h1).1; have := H.agr.size; omega
      · exact hlt n s h3 b h4
    have hXk : ∀ b, c.Xb b → b ∉ ks.flatMap Bs := by
      intro b hb hm
      obtain ⟨n, hn, hb2⟩ := List.mem_flatMap.1 hm
      obtain ⟨s, hs⟩ := hks n hn
      have := c.hX b hb
      rcases H.mine n s hs b hb2 with q | q
      · omega
      · exact this.2 q
    have hE2 := trArgs_sound hc H hg ks hks X' (fun b _ q => q.1.symm) xs s.ps As ks rd ns hargs hn (fun _ h => h) hrd
    have hcon := hs.con k _ rs s hK hsg w X' (xs.map a.eval) (ks.flatMap Bs) hBnd hX1 (hc.fid ▸ hE2)
    intro nxt Q hnxt
    have hr' : (execOp a.eval o).run c.P w = .ok (.enter (cf.fid k) (xs.map a.eval).toArray) w := by
      rw [hr, hc.P]; exact hs.enter k s hsg _ w
    simp only [Oper.wp, hr', Oper.upon]
    rw [hc.P]
    refine Calls.mono hcon ?_
    rintro e w' ⟨v, rv0, B', rfl, htup, hvl, hagr, hos, htape, hout, hnd', hbl', hres⟩
    obtain ⟨rvs, hrvs⟩ : ∃ r, r = rv0 ++ s.io.map fun i => (xs.map a.eval).getD i undef := ⟨_, rfl⟩
    rw [← hrvs] at hres
    refine hnxt _ _ ?_
    obtain ⟨l1, l2, bf, k1, k2, k3, _⟩ := EachS.fn hres hnd'
    have hrl : rs.length = s.outs.length := hlen
    have hol : s.outs.length = s.qs.length + s.io.length := by simp [Sg.outs]
    let vs' : Nat → Value := fun n => if cnt ≤ n ∧ n < cnt + rs.length then rvs.getD (n - cnt) undef else vs n
    let Bs' : Nat → List Nat := fun n => if cnt ≤ n ∧ n < cnt + rs.length then bf (n - cnt) else Bs n
    refine ⟨vs', Bs', ?_⟩
    have hnew : ∀ j, j < rs.length → vs' (cnt + j) = rvs.getD j undef ∧ Bs' (cnt + j) = bf j := by
      intro j hj
      have : cnt ≤ cnt + j ∧ cnt + j < cnt + rs.length := by omega
      simp only [vs', Bs', if_pos this, Nat.add_sub_cancel_left, and_self]
    have hfacts : ∀ f, f ∈ ents cnt s.outs ++ (match o.dst with | some t => [Fact.sl t (callL cnt s.qs.length g)] | none => []) →
        (∃ j q, s.outs[j]? = some q ∧ f = .en (cnt + j) q) ∨ ∃ t, o.dst = some t ∧ f = .sl t (callL cnt s.qs.length g) := by
      intro f hf
      rcases List.mem_append.1 hf with hf | hf
      · exact .inl (mem_ents.1 hf)
      · cases hd : o.dst with
        | none => rw [hd] at hf; simp at hf
        | some t => rw [hd] at hf; simp at hf; exact .inr ⟨t, rfl, hf⟩
    suffices H1 : HoldsG c (next F o.dst ⟨[], ks, ents cnt s.outs ++ (match o.dst with | some t => [Fact.sl t (callL cnt s.qs.length g)] | none => [])⟩) E (a.put o.dst v) w' vs' Bs' by
      refine H1.more ?_ ?_
      · intro n s'
        simp only [next, List.mem_append, List.mem_map]
        constructor
        · rintro (q | q | ⟨_, _, q⟩)
          · exact .inl q
          · exact .inr q
          · cases q
        · rintro (q | q)
          · exact .inl q
          · exact .inr (.inl q)
      · intro t l hf
        rcases hf with ⟨q1, q2⟩ | q
        · exact .inl (.inl ⟨q1, q2⟩)
        · rcases List.mem_append.1 q with q | q
          · exact .inl (.inr q)
          · obtain ⟨⟨u, gu, n, j⟩, hu, q⟩ := List.mem_map.1 q
            injection q with q1 q2
            subst q1 q2
            have hsl : F (.sl u (.is n gu)) := hnAll _ (List.mem_append_right _ (List.mem_map.2 ⟨_, hu, rfl⟩))
            obtain ⟨i, hij, hAi, hud⟩ := ioSlots_spec hu
            obtain ⟨hnk, hvn⟩ := trArgs_val hc H hg xs s.ps As ks rd ns hargs hn i n hAi
            refine .inr ⟨cnt + s.qs.length + j, gu, n, rfl, .inl ⟨hsl, hud⟩, ?_⟩
            have hjl : j < s.io.length := (List.getElem?_eq_some_iff.1 hij).1
            have hn1 := (hnew (s.qs.length + j) (by omega)).1
            rw [show cnt + (s.qs.length + j) = cnt + s.qs.length + j by omega] at hn1
            rw [hn1, hrvs, List.getD_eq_getElem?_getD, List.getElem?_append_right (by omega)]
            have hal : ¬ (cnt ≤ n ∧ n < cnt + rs.length) := by
              rintro ⟨z1, z2⟩
              have := (hfresh (n - cnt) (by simp only [Pr.np]; omega)).1
              rw [show cnt + (n - cnt) = n from by omega] at this
              obtain ⟨r, hr⟩ := hnk
              exact this r hr
            simp only [vs', if_neg hal]
            rw [show s.qs.length + j - rv0.length = j by omega, List.getElem?_map, hij]
            simp only [Option.map_some, Option.getD_some, List.getD_eq_getElem?_getD, List.getElem?_map]
            exact hvn
    refine HoldsG.step (fun n => cnt ≤ n ∧ n < cnt + rs.length) (fun n => n ∈ ks) (· ∈ ks.flatMap Bs) o.dst H (fun n hn => by simp only [vs', if_neg hn]) (fun n hn => by simp only [Bs', if_neg hn])
      (fun t l hl n hn q => by
        have := (hfresh (n - cnt) (by simp only [Pr.np]; omega)).2 t l hl
        rw [show cnt + (n - cnt) = n from by omega] at this
        exact this hn)
      (fun b hb => by
        obtain ⟨n, hn, hb⟩ := List.mem_flatMap.1 hb
        obtain ⟨s, hs⟩ := hks n hn
        exact ⟨n, s, hs, hn, hb⟩)
      hagr hos htape hout (fun t ht => put_get ht) put_size put_defers ?_ ?_ ?_ ?_ ?_ ?_
    · rintro f (⟨h1, h2⟩ | h)
      · left; refine ⟨h1, ?_⟩; cases f <;> exact h2
      · right
        rcases hfacts f h with ⟨j, q, hj, rfl⟩ | ⟨t, ht, rfl⟩
        · have : j < s.outs.length := by
            rcases Nat.lt_or_ge j s.outs.length with q | q
            · exact q
            · rw [List.getElem?_eq_none q] at hj; simp at hj
          show cnt ≤ cnt + j ∧ cnt + j < cnt + rs.length
          omega
        · exact ht.symm
    · rintro n r ⟨q1, q2⟩ hf
      rcases hf with ⟨h1, _⟩ | h
      · have := (hfresh (n - cnt) (by simp only [Pr.np]; omega)).1 r
        rw [show cnt + (n - cnt) = n from by omega] at this
        exact (this h1).elim
      · rcases hfacts _ h with ⟨j, q, hj, he⟩ | ⟨t, _, he⟩
        · injection he with e1 e2
          subst e1 e2
          have hjl : j < rs.length := by omega
          have hd := hrs j (by omega)
          have hv : rvs[j]? = some (rvs.getD j undef) := by simp [List.getD_eq_getElem?_getD, show j < rvs.length from by omega]
          have := k1 j r _ _ hj hd hv
          rw [(hnew j hjl).1, (hnew j hjl).2]
          refine Own.okR ?_ r _ _ _ (hok r (List.mem_of_getElem? hj)) (hc.fid ▸ this)
          intro b hb hz
          rcases hz with (⟨m, s2, z1, z2, z3⟩ | ⟨m, ⟨z1, z1'⟩, z2⟩) | hz
          · refine .inr ⟨.inr ⟨m, s2, z1, z3⟩, ?_⟩
            intro hm
            obtain ⟨m2, hm2, hb2⟩ := List.mem_flatMap.1 hm
            obtain ⟨s3, hs3⟩ := hks m2 hm2
            exact H.apart m s2 m2 s3 z1 hs3 (fun e => z2 (e ▸ hm2)) b z3 hb2
          · left
            have e : m = cnt + (m - cnt) := by omega
            rw [e, (hnew (m - cnt) (by omega)).2] at z2
            exact (k2 (m - cnt) (by omega)).2 b z2
          · exact .inr ⟨.inl hz, hXk b hz⟩
        · simp at he
    · rintro n r ⟨q1, q2⟩ _
      have e : n = cnt + (n - cnt) := by omega
      rw [e, (hnew (n - cnt) (by omega)).2]
      exact (k2 (n - cnt) (by omega)).1
    · rintro n r ⟨q1, q2⟩ _ b hb
      have e : n = cnt + (n - cnt) := by omega
      rw [e, (hnew (n - cnt) (by omega)).2] at hb
      rcases hbl' b ((k2 (n - cnt) (by omega)).2 b hb) with h | h
      · left
        obtain ⟨m, hm, hb⟩ := List.mem_flatMap.1 h
        obtain ⟨s2, hs2⟩ := hks m hm
        exact ⟨m, s2, hs2, hm, hb⟩
      · exact .inr h
    · rintro n r m q ⟨q1, q2⟩ ⟨q3, q4⟩ _ _ hne b hb hb2
      have e : n = cnt + (n - cnt) := by omega
      have e2 : m = cnt + (m - cnt) := by omega
      rw [e, (hnew (n - cnt) (by omega)).2] at hb
      rw [e2, (hnew (m - cnt) (by omega)).2] at hb2
      exact k3 (n - cnt) (m - cnt) (by omega) (by omega) (by omega) b hb hb2
    · rintro t l ht hf
      rcases hf with ⟨_, h2⟩ | h
      · exact (h2 ht).elim
      · rcases hfacts _ h with ⟨j, q, hj, he⟩ | ⟨t2, ht2, he⟩
        · simp at he
        · injection he with e1 e2
          subst e1 e2
          have hput : (a.put o.dst v).tmps[t]? = some v := by
            rw [ht2]
            exact put_self (by rw [H.size, hc.nt]; rw [ht2] at hin; simpa [inB] using hin)
          by_cases h1 : s.qs.length = 1
          · rw [callL, if_pos h1]
            refine ⟨fun _ => ?_, fun q => (q hg).elim⟩
            rw [hput]
            have h2 : rv0.length = 1 := by omega
            match rv0, h2 with
            | [x], _ =>
              have := (hnew 0 (by omega)).1
              simp only [Nat.add_zero] at this
              rw [this, hrvs]
              simp only [tupled] at htup
              simp [htup]
          · rw [callL, if_neg h1]
            intro _
            rw [hput]
            have h2 : rv0.length ≠ 1 := by omega
            have h3 : v = .tuple rv0.toArray := by
              match rv0, h2, htup with
              | [], _, h => exact h
              | [x], h, _ => simp at h
              | _ :: _ :: _, _, h => exact h
            rw [h3]
            congr 3
            apply List.ext_getElem?
            intro j
            simp only [List.getElem?_map]
            rcases Nat.lt_or_ge j s.qs.length with hj | hj
            · rw [range_get (by omega)]
              simp only [Option.map_some]
              rw [(hnew j (by omega)).1, hrvs]
              simp [List.getD_eq_getElem?_getD, List.getElem?_append_left (show j < rv0.length by omega), show j < rv0.length from by omega]
            · rw [List.getElem?_eq_none (by omega), List.getElem?_eq_none (by simp; omega)]
              rfl
  · simp at ht
end
end Go.Cat
